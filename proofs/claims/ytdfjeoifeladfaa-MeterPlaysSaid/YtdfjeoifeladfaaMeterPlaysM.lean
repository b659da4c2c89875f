/- Shots through a meter, one behind the other: plain. -/
import Derived.Test.YtdfjeoifeladfaaMeterV
import Derived.Test.YtdfjeoifeladfaaQV
import Derived.Test.YtdfjeoifeladfaaMemT
namespace Go.Proofs.Ytdfjeoifeladfaa.Meter
open Go.RowKit Go.Proofs.Ytdfjeoifeladfaa.Big

/-- A meter, the colours so far, what is wrong. -/
abbrev MS := Mtr × List Int × Int
def mnx (s : MS) (o : Int × Int) : MS := if s.2.2 = 0 then ((col s.1 o.1 o.2 1).1, s.2.1 ++ [(col s.1 o.1 o.2 1).2.1], (col s.1 o.1 o.2 1).2.2) else s
def mst (m : Mtr) (l : List (Int × Int)) : MS := l.foldl mnx (m, [], 0)
theorem mst_take {m : Mtr} {l : List (Int × Int)} {k : Nat} (h : k < l.length) : mst m (l.take (k + 1)) = mnx (mst m (l.take k)) l[k] := by
  unfold mst
  rw [List.take_succ_eq_append_getElem h, List.foldl_append]; rfl
theorem foldl_stuck : ∀ (l : List (Int × Int)) (s : MS), s.2.2 ≠ 0 → l.foldl mnx s = s
  | [], _, _ => rfl
  | o :: l, s, h => by rw [List.foldl_cons, show mnx s o = s from by simp [mnx, h]]; exact foldl_stuck l s h
theorem mst_stuck {m : Mtr} {l : List (Int × Int)} {k : Nat} (h : (mst m (l.take k)).2.2 ≠ 0) : mst m l = mst m (l.take k) := by
  conv => lhs; rw [← List.take_append_drop k l]
  unfold mst at h ⊢
  rw [List.foldl_append]
  exact foldl_stuck _ _ h
theorem mst_len {m : Mtr} {l : List (Int × Int)} : ∀ k, k ≤ l.length → (mst m (l.take k)).2.1.length ≤ k
  | 0, _ => by simp [mst]
  | k + 1, h => by
    have := mst_len (m := m) (l := l) k (by omega)
    rw [mst_take (by omega), mnx]
    split
    · simp; omega
    · omega
end Go.Proofs.Ytdfjeoifeladfaa.Meter
