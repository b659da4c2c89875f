/- Operations on flows, plain: three numbers each; the records of a slice by their place. -/
import Derived.Test.YtfcpmcdlgkfolaaDoorZsEU
namespace Go.Proofs.YtfcpmcdlgkfolaaDoor.E
open Go.RowKit

abbrev O3 := Int × Int × Int
def c3 (s : O3) : List Value := [(.int .i64 s.1), (.int .i64 s.2.1), (.int .i64 s.2.2)]
theorem getD_lt {α : Type} {l : List α} {k : Nat} {d : α} (h : k < l.length) : l.getD k d = l[k] := by simp [List.getD_eq_getElem?_getD, h]
/-- A field of a record, and a record whole, by place. -/
theorem flatG {α : Type} {c : α → List Value} {s : Nat} {l : List α} {d : α} {j i : Nat} {v : Value} (hc : ∀ x, (c x).length = s) (h : j < l.length) (hv : (c (l.getD j d))[i]? = some v) : (l.flatMap c)[j * s + i]? = some v := by
  rw [getD_lt h] at hv
  exact getF hc h i v hv
theorem flatGA {α : Type} {c : α → List Value} {s : Nat} {l : List α} {d : α} {j : Nat} (hc : ∀ x, (c x).length = s) (h : j < l.length) : ∀ i u, (c (l.getD j d))[i]? = some u → (l.flatMap c)[j * s + i]? = some u := by
  rw [getD_lt h]
  exact getF hc h
theorem getD_set {α : Type} {l : List α} {j k : Nat} {x d : α} (h : j < l.length) : (l.set j x).getD k d = if k = j then x else l.getD k d := by
  simp only [List.getD_eq_getElem?_getD, List.getElem?_set]
  by_cases e : k = j
  · subst e; simp [h]
  · rw [if_neg (fun q => e q.symm), if_neg e]
theorem subG {w0 : World} {L : List Res} {α : Type} {f : α → Vs} {l : List α} {d : α} {k e s : Nat} (i : Nat) (hi : lget L i = some (subs e s (l.map f))) (hk : k < l.length) : RdL w0 L (f (l.getD k d)).A (f (l.getD k d)).xs := rdl_subs i k hi (by simp [hk])
section
variable {P : Program} {N : Nat} {w0 : World} {Q : Exit → Act → World → Prop} {F : Frm} {L : List Res} {c : Code} {e s i q : Nat} {vs vs' : List Vs} {v : Vs}
/-- What is held, said otherwise. -/
theorem tr_as {r r' : Res} (i : Nat) (hi : lget L i = some r) (he : r = r') (h : TR P N w0 Q c F (lset L i r')) : TR P N w0 Q c F L := by
  subst he
  have hl : lset L i r = L := by
    clear h
    induction L generalizing i with
    | nil => rfl
    | cons a L ih => cases i with
      | zero => simp only [lget, Option.some.injEq] at hi; simp [lset, hi]
      | succ i => simp only [lset]; rw [ih i hi]
  rwa [hl] at h
end
end Go.Proofs.YtfcpmcdlgkfolaaDoor.E
