/- Shots through a bucket, one behind the other: plain. -/
import Derived.Test.YtdfjeoifeladfaaBucketV
import Derived.Test.YtdfjeoifeladfaaBucketG
import Derived.Test.YtdfjeoifeladfaaQV
namespace Go.Proofs.Ytdfjeoifeladfaa.Bucket
open Go.RowKit Go.Proofs.Ytdfjeoifeladfaa.Big

/-- A bucket, which shots it took, what is wrong. -/
abbrev PS := Bkt × List Bool × Int
def pnx (s : PS) (o : Int × Int) : PS := if s.2.2 = 0 then ((take s.1 o.1 o.2).1, s.2.1 ++ [(take s.1 o.1 o.2).2.1], (take s.1 o.1 o.2).2.2) else s
def pst (b : Bkt) (l : List (Int × Int)) : PS := l.foldl pnx (b, [], 0)
theorem pst_take {b : Bkt} {l : List (Int × Int)} {k : Nat} (h : k < l.length) : pst b (l.take (k + 1)) = pnx (pst b (l.take k)) l[k] := by
  unfold pst
  rw [List.take_succ_eq_append_getElem h, List.foldl_append]; rfl
theorem foldl_stuck : ∀ (l : List (Int × Int)) (s : PS), s.2.2 ≠ 0 → l.foldl pnx s = s
  | [], _, _ => rfl
  | o :: l, s, h => by rw [List.foldl_cons, show pnx s o = s from by simp [pnx, h]]; exact foldl_stuck l s h
theorem pst_stuck {b : Bkt} {l : List (Int × Int)} {k : Nat} (h : (pst b (l.take k)).2.2 ≠ 0) : pst b l = pst b (l.take k) := by
  conv => lhs; rw [← List.take_append_drop k l]
  unfold pst at h ⊢
  rw [List.foldl_append]
  exact foldl_stuck _ _ h
/-- The times do not fall. -/
def sorted : List (Int × Int) → Bool
  | a :: b :: l => decide (a.1 ≤ b.1) && sorted (b :: l)
  | _ => true
theorem sorted_iff : ∀ (l : List (Int × Int)), sorted l = true ↔ ∀ k, (h : k + 1 < l.length) → (l[k]'(by omega)).1 ≤ l[k + 1].1
  | [] => by simp [sorted]
  | [a] => by simp [sorted]
  | a :: b :: l => by
    rw [sorted, Bool.and_eq_true, sorted_iff (b :: l), decide_eq_true_eq]
    constructor
    · rintro ⟨h1, h2⟩ k hk
      cases k with
      | zero => exact h1
      | succ k => exact h2 k (by simpa using hk)
    · intro h
      exact ⟨h 0 (by simp), fun k hk => h (k + 1) (by simpa using hk)⟩
theorem sorted_not {l : List (Int × Int)} {k : Nat} (h : k + 1 < l.length) (hlt : l[k + 1].1 < (l[k]'(by omega)).1) : sorted l = false := by
  cases hs : sorted l
  · rfl
  · have := (sorted_iff l).1 hs k h
    omega
def bools (l : List Bool) : List Value := l.map Value.bool
theorem bools_app (l : List Bool) (b : Bool) : bools (l ++ [b]) = bools l ++ [.bool b] := by simp [bools]
theorem infoBl : (Try.prog.info? 4).map (fun i => (i.zero, i.size, i.bytes)) = some (some (.bool false), 1, 1) := by kernel_rfl
theorem pst_len {b : Bkt} {l : List (Int × Int)} : ∀ k, k ≤ l.length → (pst b (l.take k)).2.1.length ≤ k
  | 0, _ => by simp [pst]
  | k + 1, h => by
    have := pst_len (b := b) (l := l) k (by omega)
    rw [pst_take (by omega), pnx]
    split
    · simp; omega
    · omega
end Go.Proofs.Ytdfjeoifeladfaa.Bucket
