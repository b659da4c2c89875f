/- Samples of a queue, one behind the other: who is dropped. Plain laws, no program. -/
import Derived.Test.YtcpdelkamckmfaaBX
namespace Go.Proofs.Ytcpdelkamckmfaa.Red
open Go.Proofs.Ytcpdelkamckmfaa.Frac

/-- The gap behind the n-th drop. -/
def gapv (iv : Int) (n : Nat) : Int := iv * 1024 / ((isq (n * 1048576) : Nat) : Int)
theorem isq_low {n : Nat} (h : 1 ≤ n) : 1024 ≤ isq (n * 1048576) := by
  obtain ⟨h1, h2⟩ := isq_ok (n * 1048576)
  rcases Nat.lt_or_ge (isq (n * 1048576)) 1024 with h3 | h3
  · have := Nat.mul_le_mul (show isq (n * 1048576) + 1 ≤ 1024 from h3) (show isq (n * 1048576) + 1 ≤ 1024 from h3)
    omega
  · exact h3
theorem gapv_bd {iv : Int} {n : Nat} (h0 : 1 ≤ iv) (h1 : iv ≤ 1048576) (hn : 1 ≤ n) : 0 ≤ gapv iv n ∧ gapv iv n ≤ 1048576 := by
  have h := isq_low hn
  unfold gapv
  generalize isq (n * 1048576) = r at *
  refine ⟨Int.ediv_nonneg (by omega) (by omega), ?_⟩
  have : iv * 1024 / (r : Int) ≤ 1048576 := by
    apply Int.le_of_lt_add_one
    rw [Int.ediv_lt_iff_lt_mul (by omega)]
    have h2 : (1048576 + 1) * 1024 ≤ (1048576 + 1) * (r : Int) := Int.mul_le_mul_of_nonneg_left (by omega) (by omega)
    omega
  exact this

structure RS where
  since : Int
  dr : Bool
  next : Int
  many : Nat
def fresh : RS := ⟨-1, false, 0, 0⟩
def stp (tg iv : Int) (s : RS) (x : Int × Int) : RS × Bool :=
  if x.2 < tg then (fresh, false)
  else if s.since < 0 then (⟨x.1, s.dr, s.next, s.many⟩, false)
  else if s.dr = false ∧ iv ≤ x.1 - s.since then (⟨s.since, true, x.1 + gapv iv (s.many + 1), s.many + 1⟩, true)
  else if s.dr = true ∧ s.next ≤ x.1 then (⟨s.since, true, s.next + gapv iv (s.many + 1), s.many + 1⟩, true)
  else (s, false)
def rnx (tg iv : Int) (s : RS × List Bool) (x : Int × Int) : RS × List Bool := ((stp tg iv s.1 x).1, s.2 ++ [(stp tg iv s.1 x).2])
def run (tg iv : Int) (l : List (Int × Int)) : RS × List Bool := l.foldl (rnx tg iv) (fresh, [])
section
variable {tg iv : Int} {l : List (Int × Int)} {k : Nat}
theorem run_take (h : k < l.length) : run tg iv (l.take (k + 1)) = rnx tg iv (run tg iv (l.take k)) l[k] := by
  rw [List.take_succ_eq_append_getElem h, run, List.foldl_append]
  rfl
theorem run_len : ∀ l, (run tg iv l).2.length = l.length := by
  have : ∀ (l : List (Int × Int)) s, (l.foldl (rnx tg iv) s).2.length = s.2.length + l.length := by
    intro l
    induction l with
    | nil => intro s; rfl
    | cons x l ih => intro s; rw [List.foldl_cons, ih]; simp [rnx]; omega
  intro l
  rw [run, this l (fresh, [])]
  simp
/-- A sample may be. -/
def Fine (l : List (Int × Int)) (k : Nat) : Prop := ∃ h : k < l.length, (k = 0 → 0 ≤ l[k].1) ∧ (0 < k → l[k - 1].1 ≤ l[k].1) ∧ l[k].1 ≤ 1099511627776 ∧ 0 ≤ l[k].2 ∧ l[k].2 ≤ 1099511627776
instance : Decidable (Fine l k) := by unfold Fine; infer_instance
theorem fine_pos : ∀ {k : Nat}, (∀ j, j ≤ k → Fine l j) → ∀ h : k < l.length, 0 ≤ l[k].1
  | 0, hf, h => by
    obtain ⟨_, h0, _⟩ := hf 0 (Nat.le_refl _)
    exact h0 rfl
  | k + 1, hf, h => by
    have ih := fine_pos (fun j hj => hf j (by omega)) (show k < l.length by omega)
    obtain ⟨_, _, h1, _⟩ := hf (k + 1) (Nat.le_refl _)
    have := h1 (by omega)
    simp only [Nat.add_sub_cancel] at this
    omega
/-- How the state stands. -/
structure RInv (s : RS) (k : Nat) : Prop where
  s0 : -1 ≤ s.since
  s1 : s.since ≤ 1099511627776
  n0 : 0 ≤ s.next
  n1 : s.next ≤ 1099511627776 + (s.many : Int) * 1048576
  m : s.many ≤ k
  d : s.dr = decide (0 < s.many)
  f : s.since < 0 → s = fresh
theorem rinv_fresh : RInv fresh k := ⟨by decide, by decide, by decide, by decide, Nat.zero_le _, rfl, fun _ => rfl⟩
theorem stp_inv {s : RS} {x : Int × Int} (h : RInv s k) (h0 : 1 ≤ iv) (h1 : iv ≤ 1048576) (x0 : 0 ≤ x.1) (x1 : x.1 ≤ 1099511627776) : RInv (stp tg iv s x).1 (k + 1) := by
  have hg := gapv_bd h0 h1 (show 1 ≤ s.many + 1 by omega)
  unfold stp
  split
  · exact rinv_fresh
  · split
    · rename_i hs
      have := h.f hs
      subst this
      exact ⟨by dsimp only; omega, x1, by show (0 : Int) ≤ 0; omega, by show (0 : Int) ≤ _ + ((0 : Nat) : Int) * _; omega, Nat.zero_le _, rfl, fun h => by dsimp only at h; omega⟩
    · have := h.m
      have := h.n0
      have := h.n1
      split
      · exact ⟨h.s0, h.s1, by dsimp only; omega, by dsimp only; omega, by dsimp only; omega, by simp, fun h' => by dsimp only at h'; omega⟩
      · split
        · exact ⟨h.s0, h.s1, by dsimp only; omega, by dsimp only; omega, by dsimp only; omega, by simp, fun h' => by dsimp only at h'; omega⟩
        · exact ⟨h.s0, h.s1, h.n0, h.n1, by show s.many ≤ k + 1; omega, h.d, h.f⟩
theorem run_inv (h0 : 1 ≤ iv) (h1 : iv ≤ 1048576) : ∀ k, k ≤ l.length → (∀ j, j < k → Fine l j) → RInv (run tg iv (l.take k)).1 k
  | 0, _, _ => by simpa [run] using rinv_fresh
  | k + 1, hk, hf => by
    rw [run_take (by omega)]
    have ih := run_inv h0 h1 k (by omega) (fun j hj => hf j (by omega))
    have hp := fine_pos (fun j hj => hf j (by omega)) (show k < l.length by omega)
    obtain ⟨_, _, _, h3, _⟩ := hf k (by omega)
    exact stp_inv ih h0 h1 hp h3
end
end Go.Proofs.Ytcpdelkamckmfaa.Red
