/- Queues: plain laws. -/
import Derived.Lib.Hide
namespace Go.Proofs.YtoibebmhfcjpfaaGreatDoor.Ring

def tot : List Int → Int
  | [] => 0
  | x :: l => x + tot l
theorem tot_append : ∀ l m : List Int, tot (l ++ m) = tot l + tot m
  | [], m => by simp [tot]
  | x :: l, m => by simp only [List.cons_append, tot, tot_append l m]; omega
theorem tot_take {l : List Int} {k : Nat} (h : k < l.length) : tot (l.take (k + 1)) = tot (l.take k) + l[k] := by
  rw [List.take_succ_eq_append_getElem h, tot_append]; simp [tot]
def okp (x : Int) : Bool := decide (1 ≤ x) && decide (x ≤ 1500)
theorem okp_iff {x : Int} : okp x = true ↔ 1 ≤ x ∧ x ≤ 1500 := by simp [okp]
theorem all_take {p : Int → Bool} {l : List Int} {k : Nat} (h : k < l.length) : (l.take (k + 1)).all p = ((l.take k).all p && p l[k]) := by
  rw [List.take_succ_eq_append_getElem h, List.all_append]; simp
theorem tot_bd : ∀ {l : List Int}, l.all okp = true → 0 ≤ tot l ∧ tot l ≤ 1500 * l.length
  | [], _ => by simp [tot]
  | x :: l, h => by
    simp only [List.all_cons, Bool.and_eq_true] at h
    have h1 := okp_iff.1 h.1
    have h2 := tot_bd h.2
    simp only [tot, List.length_cons]
    omega
/-- The numbers of a queue are in their ranges. -/
def hd (n most mb drops : Int) : Bool := decide (0 ≤ most) && decide (most ≤ 400) && decide (0 ≤ mb) && decide (mb ≤ 1073741824) && decide (0 ≤ drops) && decide (drops ≤ 1099511627776) && decide (n ≤ most)
theorem hd_iff {n most mb drops : Int} : hd n most mb drops = true ↔ (0 ≤ most ∧ most ≤ 400) ∧ (0 ≤ mb ∧ mb ≤ 1073741824) ∧ (0 ≤ drops ∧ drops ≤ 1099511627776) ∧ n ≤ most := by
  simp [hd]; omega
theorem hd_not {n most mb drops : Int} (h : hd n most mb drops = false) : most < 0 ∨ (0 ≤ most ∧ 400 < most) ∨ (0 ≤ most ∧ most ≤ 400 ∧ mb < 0) ∨ (0 ≤ most ∧ most ≤ 400 ∧ 0 ≤ mb ∧ 1073741824 < mb) ∨ (0 ≤ most ∧ most ≤ 400 ∧ 0 ≤ mb ∧ mb ≤ 1073741824 ∧ drops < 0) ∨
    (0 ≤ most ∧ most ≤ 400 ∧ 0 ≤ mb ∧ mb ≤ 1073741824 ∧ 0 ≤ drops ∧ 1099511627776 < drops) ∨ (0 ≤ most ∧ most ≤ 400 ∧ 0 ≤ mb ∧ mb ≤ 1073741824 ∧ 0 ≤ drops ∧ drops ≤ 1099511627776 ∧ most < n) := by
  simp [hd] at h; omega
def right (zs : List Int) (most mb drops : Int) : Bool := hd zs.length most mb drops && zs.all okp && decide (tot zs ≤ mb)
def hbytes (zs : List Int) : Int := if zs.all okp then tot zs else -1
end Go.Proofs.YtoibebmhfcjpfaaGreatDoor.Ring
