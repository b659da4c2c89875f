/- Heaps in memory: the items, and where each one is. -/
import Derived.Test.YtpknjfeiiaopgaaHpM
import Derived.Test.YtpknjfeiiaopgaaHpE
import Derived.Test.YtpknjfeiiaopgaaFlO
import Derived.Test.YtpknjfeiiaopgaaBigC
namespace Go.Proofs.Ytpknjfeiiaopgaa.Heap
open Go.RowKit Go.Proofs.Ytpknjfeiiaopgaa.E Go.Proofs.Ytpknjfeiiaopgaa.Big

theorem res0 {P : Program} {N : Nat} {w0 : World} {F : Frm} {L : List Res} {fn : Func} (hf : fn.results = #[]) : ∀ a w, Fr N a F → St w0 w L → (results fn a.tmps).run P w = .ok (.tuple #[]) w := fun a w _ _ => by
  simp [results, hf]
def cI3 (x : I3) : List Value := [(.int .i64 x.1), .int .u64 x.2.1, .int .u64 x.2.2]
theorem hcI : ∀ x, (cI3 x).length = 3 := fun _ => rfl
abbrev Mp := List (Int × Value)
theorem key_at {l : List I3} {j : Nat} (h : j < l.length) : ∀ (q : Nat) (u : Value), [.int .u64 (gl l j).2.1, .int .u64 (gl l j).2.2][q]? = some u → (l.flatMap cI3)[j * 3 + 1 + q]? = some u := fun q u hu => by
  rw [Nat.add_assoc]
  refine flatGA (d := d3) hcI h (1 + q) u ?_
  match q with
  | 0 => exact hu
  | 1 => exact hu
  | q + 2 => simp at hu
theorem cmp_cases (a b : Int) : cmp a b = -1 ∧ a < b ∨ cmp a b = 1 ∧ b < a ∨ cmp a b = 0 ∧ a = b := by unfold cmp; split <;> (try split) <;> omega
/-- What the comparison of two keys says. -/
def kc (a b : I3) : Int := if cmp a.2.1 b.2.1 = 0 then cmp a.2.2 b.2.2 else cmp a.2.1 b.2.1
theorem kc_lt {a b : I3} (h : kc a b ≠ 0) : kc a b < 0 ↔ lt3 a b := by
  unfold kc at h ⊢
  have g1 := cmp_cases a.2.1 b.2.1
  have g2 := cmp_cases a.2.2 b.2.2
  unfold lt3
  generalize cmp a.2.1 b.2.1 = u at *
  generalize cmp a.2.2 b.2.2 = v at *
  split at h <;> split <;> omega
theorem kc_eq {a b : I3} (h : kc a b = 0) : a.1 < b.1 ↔ lt3 a b := by
  unfold kc at h
  have g1 := cmp_cases a.2.1 b.2.1
  have g2 := cmp_cases a.2.2 b.2.2
  unfold lt3
  generalize cmp a.2.1 b.2.1 = u at *
  generalize cmp a.2.2 b.2.2 = v at *
  split at h <;> omega
/-- The map tells where each item is, and tells of no others. -/
def MapOk (l : List I3) (m : Mp) : Prop := (∀ i, i < l.length → mget m (gl l i).1 = some (.int .i64 ((i : Int)))) ∧ ∀ k v, mget m k = some v → ∃ i, i < l.length ∧ (gl l i).1 = k
theorem MapOk.swp {l : List I3} {m : Mp} {i j : Nat} (h : MapOk l m) (hin : Inj l) (hi : i < l.length) (hj : j < l.length) : MapOk (swp l i j) (mput (mput m (gl (Heap.swp l i j) i).1 (.int .i64 ((i : Int)))) (gl (Heap.swp l i j) j).1 (.int .i64 ((j : Int)))) := by
  have hin2 := hin.swp hi hj
  have hl := swp_len l i j
  refine ⟨fun x hx => ?_, fun k v hk => ?_⟩
  · rw [mput_get, mput_get]
    split
    · rename_i e
      rw [hin2 x j hx (by omega) e]
    · split
      · rename_i e
        rw [hin2 x i hx (by omega) e]
      · rename_i e1 e2
        have h1 : x ≠ j := fun e => e1 (by rw [e])
        have h2 : x ≠ i := fun e => e2 (by rw [e])
        rw [swp_get hi hj, if_neg h1, if_neg h2]
        exact h.1 x (by omega)
  · rw [mput_get, mput_get] at hk
    split at hk
    · rename_i e; exact ⟨j, by omega, e.symm⟩
    · split at hk
      · rename_i e; exact ⟨i, by omega, e.symm⟩
      · obtain ⟨q, hq, he⟩ := h.2 k v hk
        have : gl l q ∈ Heap.swp l i j := (swp_mem hi hj _).2 (mem_gl.2 ⟨q, hq, rfl⟩)
        obtain ⟨r, hr, e⟩ := mem_gl.1 this
        exact ⟨r, hr, by rw [e]; exact he⟩
theorem MapOk.g1 {l : List I3} {m : Mp} {i j : Nat} (h : MapOk l m) (hi : i < l.length) (hj : j < l.length) : mget m (gl (Heap.swp l i j) i).1 = some (.int .i64 ((j : Int))) := by
  rw [swp_get hi hj]
  split
  · rename_i e; subst e; exact h.1 i hi
  · rw [if_pos rfl]; exact h.1 j hj
theorem MapOk.g2 {l : List I3} {m : Mp} {i j : Nat} (h : MapOk l m) (hi : i < l.length) (hj : j < l.length) : mget (mput m (gl (Heap.swp l i j) i).1 (.int .i64 ((i : Int)))) (gl (Heap.swp l i j) j).1 = some (.int .i64 ((i : Int))) := by
  rw [mput_get]
  split
  · rfl
  · rw [swp_get hi hj, if_pos rfl]; exact h.1 i hi
/-- What stays true of a heap's items. -/
structure Same (n : Nat) (l0 l : List I3) (m : Mp) : Prop where
  len : l.length = n
  inj : Inj l
  map : MapOk l m
  mem : ∀ x, x ∈ l ↔ x ∈ l0
theorem Same.swp {n : Nat} {l0 l : List I3} {m m' : Mp} {i j : Nat} (h : Same n l0 l m) (hi : i < n) (hj : j < n) (hm : MapOk (Heap.swp l i j) m') : Same n l0 (Heap.swp l i j) m' := by
  have hl := h.len
  exact ⟨by rw [swp_len]; exact hl, h.inj.swp (by omega) (by omega), hm, fun x => (swp_mem (by omega) (by omega) x).trans (h.mem x)⟩
end Go.Proofs.Ytpknjfeiiaopgaa.Heap
