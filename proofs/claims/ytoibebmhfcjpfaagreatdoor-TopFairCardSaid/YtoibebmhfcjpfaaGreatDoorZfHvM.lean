/- Counts of who comes, plain: what may be, where one stands, what an addition makes of them. -/
import Derived.Test.YtoibebmhfcjpfaaGreatDoorZfFlO
import Derived.Test.YtoibebmhfcjpfaaGreatDoorZfEU
namespace Go.Proofs.YtoibebmhfcjpfaaGreatDoor.Heavy
open Go.RowKit Go.Proofs.YtoibebmhfcjpfaaGreatDoor.E

def k1 (l : List (Int × Int)) (k : Nat) : Int := (l.getD k (0, 0)).1
def k2 (l : List (Int × Int)) (k : Nat) : Int := (l.getD k (0, 0)).2
theorem getK {l : List (Int × Int)} {j : Nat} (h : j < l.length) : ∀ i u, [(.int .i64 (k1 l j)), (.int .i64 (k2 l j))][i]? = some u → (l.flatMap c2)[j * 2 + i]? = some u := by
  unfold k1 k2
  rw [getD_lt h]
  exact getF (c := c2) (fun _ => rfl) h
def okAt (l : List (Int × Int)) (i : Nat) : Prop := 1 ≤ k2 l i ∧ k2 l i ≤ 1099511627776 ∧ (i = 0 ∨ k1 l (i - 1) < k1 l i)
def okTo (l : List (Int × Int)) (i : Nat) : Prop := ∀ j, j < i → okAt l j
def Rt (k : Int) (l : List (Int × Int)) : Prop := (1 ≤ k ∧ k ≤ 400 ∧ (l.length : Int) ≤ k) ∧ okTo l l.length
/-- The numbers rise. -/
def Up (l : List (Int × Int)) : Prop := ∀ i j, i < j → j < l.length → k1 l i < k1 l j
theorem Rt.up {k : Int} {l : List (Int × Int)} (h : Rt k l) : Up l := fun i j => by
  induction j with
  | zero => intro h; omega
  | succ j ih =>
    intro hij hj
    have h1 := (h.2 (j + 1) hj).2.2
    rw [Nat.add_sub_cancel] at h1
    by_cases e : i = j
    · subst e; omega
    · have := ih (by omega) (by omega); omega
/-- The first place whose number is not below. -/
structure LB (l : List (Int × Int)) (x : Int) (p : Nat) : Prop where
  le : p ≤ l.length
  lo : ∀ q, q < p → k1 l q < x
  hi : ∀ q, p ≤ q → q < l.length → x ≤ k1 l q
end Go.Proofs.YtoibebmhfcjpfaaGreatDoor.Heavy
