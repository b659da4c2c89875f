/- Operations on flows, plain: three numbers each; the records of a slice by their place. -/
import Derived.Test.YtoibebmhfcjpfaaGreatDoorZfEU
namespace Go.Proofs.YtoibebmhfcjpfaaGreatDoor.E
open Go.RowKit

abbrev O3 := Int × Int × Int
def c3 (s : O3) : List Value := [(.int .i64 s.1), (.int .i64 s.2.1), (.int .i64 s.2.2)]
def o1 (l : List O3) (k : Nat) : Int := (l.getD k (0, 0, 0)).1
def o2 (l : List O3) (k : Nat) : Int := (l.getD k (0, 0, 0)).2.1
def o3 (l : List O3) (k : Nat) : Int := (l.getD k (0, 0, 0)).2.2
theorem getD_lt {α : Type} {l : List α} {k : Nat} {d : α} (h : k < l.length) : l.getD k d = l[k] := by simp [List.getD_eq_getElem?_getD, h]
theorem getO {l : List O3} {j : Nat} (h : j < l.length) : ∀ i u, [(.int .i64 (o1 l j)), (.int .i64 (o2 l j)), (.int .i64 (o3 l j))][i]? = some u → (l.flatMap c3)[j * 3 + i]? = some u := by
  unfold o1 o2 o3
  rw [getD_lt h]
  exact getF (c := c3) (fun _ => rfl) h
theorem flatGA {α : Type} {c : α → List Value} {s : Nat} {l : List α} {d : α} {j : Nat} (hc : ∀ x, (c x).length = s) (h : j < l.length) : ∀ i u, (c (l.getD j d))[i]? = some u → (l.flatMap c)[j * s + i]? = some u := by
  rw [getD_lt h]
  exact getF hc h
theorem subG {w0 : World} {L : List Res} {α : Type} {f : α → Vs} {l : List α} {d : α} {k e s : Nat} (i : Nat) (hi : lget L i = some (subs e s (l.map f))) (hk : k < l.length) : RdL w0 L (f (l.getD k d)).A (f (l.getD k d)).xs := rdl_subs i k hi (by simp [hk])
section
variable {P : Program} {N : Nat} {w0 : World} {Q : Exit → Act → World → Prop} {F : Frm} {L : List Res} {c : Code} {e s i q : Nat} {vs vs' : List Vs} {v : Vs}
end
end Go.Proofs.YtoibebmhfcjpfaaGreatDoor.E
