/- The walk of the law HeapsPlay. -/
import Derived.Test.YtpknjfeiiaopgaaHpL
namespace Go.Proofs.Ytpknjfeiiaopgaa.HeapsPlay
open Go.RowKit

theorem rows_ops {rows : List (List Int)} (h : ∀ r ∈ rows, r.length = 4) : ∃ l : List Heap.Op4, l.length = rows.length ∧ rows.flatMap (fun r => List.zipWith Value.int [.i64, .i64, .u64, .u64] r) = l.flatMap Heap.c4 := by
  induction rows with
  | nil => exact ⟨[], rfl, rfl⟩
  | cons r rows ih =>
    obtain ⟨l, h1, h2⟩ := ih (fun r hr => h r (by simp [hr]))
    obtain ⟨x, y, z, u, rfl⟩ : ∃ x y z u, r = [x, y, z, u] := by
      have h4 := h r (by simp)
      match r, h4 with
      | [x, y, z, u], _ => exact ⟨x, y, z, u, rfl⟩
    refine ⟨⟨x, y, z, u⟩ :: l, by simp [h1], ?_⟩
    simp only [List.flatMap_cons, h2]
    rfl
theorem walk (A : Option Addr) (n c : Nat) (rows : List (List Int)) (w : World) (hr : Rd w A (rows.flatMap (fun r => List.zipWith Value.int [.i64, .i64, .u64, .u64] r))) (hn : rows.length = n) (h4 : ∀ r ∈ rows, r.length = 4) (hm : n ≤ 4398046511103) :
    Calls Try.prog 5 #[.slice A n c] w fun e w' => e = .returned (.bool true) ∧ Below w.heap.size w w' := by
  refine E.to_bel ?_
  obtain ⟨l, h1, h2⟩ := rows_ops h4
  rw [h2] at hr
  exact Heap.law_ok A n c l w hr (h1.trans hn) hm
end Go.Proofs.Ytpknjfeiiaopgaa.HeapsPlay
