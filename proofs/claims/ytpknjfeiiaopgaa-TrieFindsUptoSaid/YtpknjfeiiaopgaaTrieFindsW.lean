/- The walk of the law TrieFinds, over rows of integers. -/
import Derived.Test.YtpknjfeiiaopgaaTfL
import Derived.Test.YtpknjfeiiaopgaaFrame
namespace Go.Proofs.Ytpknjfeiiaopgaa.TrieFinds
open Go.RowKit Go.Proofs.Ytpknjfeiiaopgaa.E Go.Proofs.Ytpknjfeiiaopgaa.Trie

theorem pfx_of {rows : List (List Int)} (h : ∀ r ∈ rows, r.length = 6) : ∃ l : List Pfx, l.length = rows.length ∧ rows.flatMap (fun r => List.zipWith Value.int [.u8, .u8, .u8, .u8, .i64, .i64] r) = l.flatMap cPx ∧ ∀ p ∈ l, [p.x.a, p.x.b, p.x.c, p.x.d, p.n, p.to] ∈ rows := by
  induction rows with
  | nil => exact ⟨[], rfl, rfl, by simp⟩
  | cons r rows ih =>
    obtain ⟨l, h1, h2, h3⟩ := ih (fun r hr => h r (by simp [hr]))
    obtain ⟨x0, x1, x2, x3, x4, x5, rfl⟩ := list_6 (h r (by simp))
    refine ⟨⟨⟨x0, x1, x2, x3⟩, x4, x5⟩ :: l, by simp [h1], by simp only [List.flatMap_cons, h2]; rfl, fun s hs => ?_⟩
    rcases List.mem_cons.1 hs with rfl | hs
    · simp
    · exact List.mem_cons_of_mem _ (h3 s hs)
theorem ads_of {rows : List (List Int)} (h : ∀ r ∈ rows, r.length = 4) : ∃ l : List Ad, l.length = rows.length ∧ rows.flatMap (fun r => List.zipWith Value.int [.u8, .u8, .u8, .u8] r) = l.flatMap cA ∧ ∀ x ∈ l, [x.a, x.b, x.c, x.d] ∈ rows := by
  induction rows with
  | nil => exact ⟨[], rfl, rfl, by simp⟩
  | cons r rows ih =>
    obtain ⟨l, h1, h2, h3⟩ := ih (fun r hr => h r (by simp [hr]))
    obtain ⟨x0, x1, x2, x3, rfl⟩ := list_4 (h r (by simp))
    refine ⟨⟨x0, x1, x2, x3⟩ :: l, by simp [h1], by simp only [List.flatMap_cons, h2]; rfl, fun s hs => ?_⟩
    rcases List.mem_cons.1 hs with rfl | hs
    · simp
    · exact List.mem_cons_of_mem _ (h3 s hs)
theorem walkR (A0 : Option Addr) (n0 c0 : Nat) (rows0 : List (List Int)) (A1 : Option Addr) (n1 c1 : Nat) (rows1 : List (List Int)) (w : World)
    (r0 : Rd w A0 (rows0.flatMap fun r => List.zipWith Value.int [.u8, .u8, .u8, .u8, .i64, .i64] r)) (l0 : rows0.length = n0) (u0 : n0 ≤ 1048576) (hc : n0 ≤ c0)
    (w0 : ∀ r ∈ rows0, r.length = 6 ∧ ∀ (i : Nat) (k : IntKind) (z : Int), ([.u8, .u8, .u8, .u8, .i64, .i64] : List IntKind)[i]? = some k → r[i]? = some z → (Lit.int k z).wf = true)
    (r1 : Rd w A1 (rows1.flatMap fun r => List.zipWith Value.int [.u8, .u8, .u8, .u8] r)) (l1 : rows1.length = n1) (u1 : n1 ≤ 1048576)
    (w1 : ∀ r ∈ rows1, r.length = 4 ∧ ∀ (i : Nat) (k : IntKind) (z : Int), ([.u8, .u8, .u8, .u8] : List IntKind)[i]? = some k → r[i]? = some z → (Lit.int k z).wf = true)
    (p : Pfx) (hp : p.x.ok) :
    Calls Try.prog 3 #[.slice A0 n0 c0, .slice A1 n1 c1, .agg #[.int .u8 p.x.a, .int .u8 p.x.b, .int .u8 p.x.c, .int .u8 p.x.d, (.int .i64 p.n), (.int .i64 p.to)]] w fun e w' => e = .returned (.bool true) ∧ Below w.heap.size w w' := by
  obtain ⟨l, hl1, hl2, hl3⟩ := pfx_of (fun r hr => (w0 r hr).1)
  obtain ⟨ad, ha1, ha2, ha3⟩ := ads_of (fun r hr => (w1 r hr).1)
  rw [hl2] at r0
  rw [ha2] at r1
  have ok0 : ∀ q ∈ l, q.x.ok := fun q hq => by
    have h := (w0 _ (hl3 q hq)).2
    exact ⟨bounds_u8 (h 0 _ _ rfl rfl), bounds_u8 (h 1 _ _ rfl rfl), bounds_u8 (h 2 _ _ rfl rfl), bounds_u8 (h 3 _ _ rfl rfl)⟩
  have ok1 : ∀ x ∈ ad, x.ok := fun x hx => by
    have h := (w1 _ (ha3 x hx)).2
    exact ⟨bounds_u8 (h 0 _ _ rfl rfl), bounds_u8 (h 1 _ _ rfl rfl), bounds_u8 (h 2 _ _ rfl rfl), bounds_u8 (h 3 _ _ rfl rfl)⟩
  refine to_bel ?_
  by_cases hw : wrong l = 0
  · exact law_ok A0 n0 c0 l w r0 (by omega) (by omega) hc ok0 A1 n1 c1 ad r1 (by omega) (by omega) ok1 p hp hw
  · exact law_bad A0 n0 c0 l w r0 (by omega) (by omega) hc ok0 A1 n1 c1 ad r1 (by omega) (by omega) ok1 p hp hw
end Go.Proofs.Ytpknjfeiiaopgaa.TrieFinds
