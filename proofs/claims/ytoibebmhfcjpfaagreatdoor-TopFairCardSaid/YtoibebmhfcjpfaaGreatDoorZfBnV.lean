/- Walks: a number, digit by digit. -/
import Derived.Test.YtoibebmhfcjpfaaGreatDoorZfBnD
import Derived.Test.YtoibebmhfcjpfaaGreatDoorZfEV
namespace Go.Proofs.YtoibebmhfcjpfaaGreatDoor.Bn
open Go.RowKit Go.Lib Go.Proofs.YtoibebmhfcjpfaaGreatDoor.E

end Go.Proofs.YtoibebmhfcjpfaaGreatDoor.Bn

namespace Go.Proofs.YtoibebmhfcjpfaaGreatDoor.Bn
open Go.RowKit Go.Lib Go.Proofs.YtoibebmhfcjpfaaGreatDoor.E

end Go.Proofs.YtoibebmhfcjpfaaGreatDoor.Bn

namespace Go.Proofs.YtoibebmhfcjpfaaGreatDoor.Bn
open Go.RowKit Go.Lib Go.Proofs.YtoibebmhfcjpfaaGreatDoor.E

/-- The numbers behind the first word: all read, or one that is none. -/
def NsIs (l : List UInt8) (j : Nat) (p : Bool) (ns : List Int) : Prop := (p = true → ∃ ms : List Nat, nums ((wds 32 l).tail.take j) = some ms ∧ ns = ms.map Int.ofNat) ∧ (p = false → nums (wds 32 l).tail = none)
theorem nums_snoc : ∀ {ws : List (List UInt8)} {ms : List Nat} {w : List UInt8} {n : Nat}, nums ws = some ms → num w = some n → nums (ws ++ [w]) = some (ms ++ [n])
  | [], ms, w, n, h, hn => by
    simp only [nums, Option.some.injEq] at h
    subst h
    simp [nums, hn]
  | x :: ws, ms, w, n, h, hn => by
    unfold nums at h
    split at h
    · rename_i a b h1 h2
      simp only [Option.some.injEq] at h
      subst h
      rw [List.cons_append, nums, h1, nums_snoc h2 hn]
      rfl
    · cases h
theorem NsIs.zero (l : List UInt8) : NsIs l 0 true [] := ⟨fun _ => ⟨[], by simp [nums], rfl⟩, fun h => by cases h⟩
theorem NsIs.next {l : List UInt8} {j : Nat} {p : Bool} {ns : List Int} (h : NsIs l j p ns) (hj : j < (wds 32 l).tail.length) {q : Int × Bool} (hq : q.2 = okNum ((wds 32 l).tail.getD j []) ∧ (q.2 = true → q.1 = (val ((wds 32 l).tail.getD j []) : Int))) {p' : Bool} (hp : p' = (p && q.2)) : NsIs l (j + 1) p' (ns ++ [q.1]) := by
  subst hp
  refine ⟨fun e => ?_, fun e => ?_⟩
  · simp only [Bool.and_eq_true] at e
    obtain ⟨ms, h1, h2⟩ := h.1 e.1
    refine ⟨ms ++ [val ((wds 32 l).tail.getD j [])], ?_, by rw [h2, hq.2 e.2]; simp⟩
    have h3 : (wds 32 l).tail.take (j + 1) = (wds 32 l).tail.take j ++ [(wds 32 l).tail.getD j []] := by
      rw [List.take_succ_eq_append_getElem hj]
      rw [List.getD_eq_getElem?_getD, List.getElem?_eq_getElem hj]
      rfl
    rw [h3]
    exact nums_snoc h1 (by rw [okNum_num, if_pos (hq.1.symm.trans e.2)])
  · simp only [Bool.and_eq_false_iff] at e
    rcases e with e | e
    · exact h.2 e
    · exact nums_none hj (hq.1.symm.trans e)
theorem NsIs.all {l : List UInt8} {p : Bool} {ns : List Int} {j : Nat} (h : NsIs l j p ns) (hj : j = (wds 32 l).tail.length) : (p = true → ∃ ms : List Nat, nums (wds 32 l).tail = some ms ∧ ns = ms.map Int.ofNat) ∧ (p = false → nums (wds 32 l).tail = none) := by
  subst hj
  have := h
  unfold NsIs at this
  rwa [List.take_length] at this

section
variable {k : Nat} {l : List UInt8} {s : Sc} {ns : List Int} {p : Bool}
end

/-! ### Where the text is -/
structure At (t : List UInt8) (i k f : Nat) (s : Sc) : Prop where
  hi : i ≤ t.length
  hf : f ≤ i
  ho : s.ops.length ≤ k
  hk : k ≤ i
  hp : prs k s (t.drop f) = parse t
  hn : (10 : UInt8) ∉ (t.drop f).take (i - f)
theorem At.zero (t : List UInt8) : At t 0 0 0 sc0 := ⟨Nat.zero_le _, Nat.le_refl _, Nat.le_refl _, Nat.le_refl _, rfl, by simp⟩
theorem At.byte {t : List UInt8} {i k f : Nat} {s : Sc} (h : At t i k f s) (hi : i < t.length) : (t.drop f).take (i + 1 - f) = (t.drop f).take (i - f) ++ [t[i]] := by
  have := h.hf
  rw [show i + 1 - f = i - f + 1 by omega, List.take_succ_eq_append_getElem (by simp; omega)]
  simp [show f + (i - f) = i by omega]
theorem At.skip {t : List UInt8} {i k f : Nat} {s : Sc} (h : At t i k f s) (hi : i < t.length) (hb : ¬ t[i] = 10) : At t (i + 1) k f s := by
  refine ⟨hi, by have := h.hf; omega, h.ho, by have := h.hk; omega, h.hp, ?_⟩
  rw [h.byte hi]
  simp only [List.mem_append, List.mem_singleton, not_or]
  exact ⟨h.hn, fun e => hb e.symm⟩
theorem At.line {t : List UInt8} {i k f : Nat} {s : Sc} (h : At t i k f s) (hi : i < t.length) (hb : t[i] = 10) : t.drop f = (t.drop f).take (i - f) ++ 10 :: t.drop (i + 1) := by
  have hf := h.hf
  have h1 : t.drop f = (t.drop f).take (i + 1 - f) ++ (t.drop f).drop (i + 1 - f) := (List.take_append_drop _ _).symm
  rw [h.byte hi, List.drop_drop, show f + (i + 1 - f) = i + 1 by omega, hb, List.append_assoc] at h1
  exact h1
theorem At.next {t : List UInt8} {i k f : Nat} {s r : Sc} (h : At t i k f s) (hi : i < t.length) (hb : t[i] = 10) (hr : read k s ((t.drop f).take (i - f)) = some r) : At t (i + 1) (k + 1) (i + 1) r := by
  have hp := h.hp
  rw [h.line hi hb, prs_cons h.hn, hr] at hp
  have hm := read_more hr
  exact ⟨hi, Nat.le_refl _, by have := h.ho; omega, by have := h.hk; omega, hp, by simp⟩
theorem At.bad {t : List UInt8} {i k f : Nat} {s : Sc} (h : At t i k f s) (hi : i < t.length) (hb : t[i] = 10) (hr : read k s ((t.drop f).take (i - f)) = none) : parse t = (k, none) := by
  have hp := h.hp
  rw [h.line hi hb, prs_cons h.hn, hr] at hp
  exact hp.symm
theorem At.end_ {t : List UInt8} {i k f : Nat} {s : Sc} (h : At t i k f s) (hi : t.length ≤ i) : parse t = fin k (t.drop f) s := by
  have h1 := h.hn
  have h2 := h.hi
  rw [List.take_of_length_le (by simp; omega)] at h1
  rw [← h.hp, prs_none h1]
theorem At.whole {t : List UInt8} {i k f : Nat} {s : Sc} (h : At t i k f s) (hi : t.length ≤ i) (h1 : ¬ f < t.length) (h2 : ¬ k = 0) : parse t = (0, some s) := by
  rw [h.end_ hi, fin, if_pos ⟨List.drop_of_length_le (by omega), h2⟩]
end Go.Proofs.YtoibebmhfcjpfaaGreatDoor.Bn

namespace Go.Proofs.YtoibebmhfcjpfaaGreatDoor.Bn
open Go.RowKit Go.Lib Go.Proofs.YtoibebmhfcjpfaaGreatDoor.E

end Go.Proofs.YtoibebmhfcjpfaaGreatDoor.Bn

namespace Go.Proofs.YtoibebmhfcjpfaaGreatDoor.Bn
open Go.RowKit Go.Lib Go.Proofs.YtoibebmhfcjpfaaGreatDoor.E

abbrev PIs (t : List UInt8) (q : Nat × Sc × Vs × Nat) : Prop := OpsIs q.2.2.1 q.2.1.ops ∧ q.2.1.ops.length ≤ t.length ∧ ((q.2.2.2 = 0 ∧ q.1 = 0 ∧ parse t = (0, some q.2.1)) ∨ (q.2.2.2 = 1 ∧ q.2.1 = sc0 ∧ q.2.2.1.A = none ∧ parse t = (q.1, none)))
theorem c2_len (l : List (Nat × Nat)) : (l.flatMap c2).length = l.length * 2 := by
  induction l with
  | nil => rfl
  | cons a l ih => rw [List.flatMap_cons, List.length_append, ih]; simp [c2]; omega
theorem ops_rd {w0 w : World} {L : List Res} {z : Vs} {ops : List (Nat × Nat)} (hS : St w0 w L) (i : Nat) (hi : lget L i = some (vec 68 2 (.slice z.A z.n z.c) z.n z.xs)) (hz : OpsIs z ops) : Rd w z.A (ops.flatMap c2) := by
  have := (OwnV.rd (hS.holds i _ hi)).2.2
  rwa [hz.2] at this
end Go.Proofs.YtoibebmhfcjpfaaGreatDoor.Bn
