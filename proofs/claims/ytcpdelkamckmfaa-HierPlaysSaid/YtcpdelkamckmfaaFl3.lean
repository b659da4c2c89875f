/- Rows of three numbers. -/
import Derived.Test.YtcpdelkamckmfaaFrame
import Derived.Test.YtcpdelkamckmfaaFlO
namespace Go.Proofs.Ytcpdelkamckmfaa

theorem rows3 {rows : List (List Int)} (h : ∀ r ∈ rows, r.length = 3) : ∃ l : List (Int × Int × Int), l.length = rows.length ∧ rows.flatMap (fun r => List.zipWith Value.int [.i64, .i64, .i64] r) = l.flatMap E.c3 ∧ ∀ s ∈ l, [s.1, s.2.1, s.2.2] ∈ rows := by
  induction rows with
  | nil => exact ⟨[], rfl, rfl, by simp⟩
  | cons r rows ih =>
    obtain ⟨l, h1, h2, h3⟩ := ih (fun r hr => h r (by simp [hr]))
    obtain ⟨x, y, z, rfl⟩ := list_3 (h r (by simp))
    refine ⟨(x, y, z) :: l, by simp [h1], by simp only [List.flatMap_cons, h2]; rfl, fun s hs => ?_⟩
    rcases List.mem_cons.1 hs with rfl | hs
    · simp
    · exact List.mem_cons_of_mem _ (h3 s hs)
end Go.Proofs.Ytcpdelkamckmfaa
