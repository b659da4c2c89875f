/- Operations on flows, plain: three numbers each; the records of a slice by their place. -/
import Derived.Test.YtfcpmcdlgkfolaaDoorZhEU
namespace Go.Proofs.YtfcpmcdlgkfolaaDoor.E
open Go.RowKit

abbrev O3 := Int × Int × Int
def c3 (s : O3) : List Value := [(.int .i64 s.1), (.int .i64 s.2.1), (.int .i64 s.2.2)]
def o1 (l : List O3) (k : Nat) : Int := (l.getD k (0, 0, 0)).1
def o2 (l : List O3) (k : Nat) : Int := (l.getD k (0, 0, 0)).2.1
def o3 (l : List O3) (k : Nat) : Int := (l.getD k (0, 0, 0)).2.2
theorem getD_lt {α : Type} {l : List α} {k : Nat} {d : α} (h : k < l.length) : l.getD k d = l[k] := by simp [List.getD_eq_getElem?_getD, h]
theorem getO {l : List O3} {j : Nat} (h : j < l.length) : ∀ i u, [(.int .i64 (o1 l j)), (.int .i64 (o2 l j)), (.int .i64 (o3 l j))][i]? = some u → (l.flatMap c3)[j * 3 + i]? = some u := by
  unfold o1 o2 o3
  rw [getD_lt h]
  exact getF (c := c3) (fun _ => rfl) h
theorem lenO {l : List O3} {n : Nat} (h : l.length = n) : (l.flatMap c3).length = n * 3 := lenF (fun _ => rfl) h
/-- A field of a record, and a record whole, by place. -/
theorem flatG {α : Type} {c : α → List Value} {s : Nat} {l : List α} {d : α} {j i : Nat} {v : Value} (hc : ∀ x, (c x).length = s) (h : j < l.length) (hv : (c (l.getD j d))[i]? = some v) : (l.flatMap c)[j * s + i]? = some v := by
  rw [getD_lt h] at hv
  exact getF hc h i v hv
theorem flatGA {α : Type} {c : α → List Value} {s : Nat} {l : List α} {d : α} {j : Nat} (hc : ∀ x, (c x).length = s) (h : j < l.length) : ∀ i u, (c (l.getD j d))[i]? = some u → (l.flatMap c)[j * s + i]? = some u := by
  rw [getD_lt h]
  exact getF hc h
theorem getD_set {α : Type} {l : List α} {j k : Nat} {x d : α} (h : j < l.length) : (l.set j x).getD k d = if k = j then x else l.getD k d := by
  simp only [List.getD_eq_getElem?_getD, List.getElem?_set]
  by_cases e : k = j
  · subst e; simp [h]
  · rw [if_neg (fun q => e q.symm), if_neg e]
theorem getD_map {α β : Type} (f : α → β) {l : List α} {k : Nat} {d : α} {d' : β} (hd : f d = d') : (l.map f).getD k d' = f (l.getD k d) := by
  simp only [List.getD_eq_getElem?_getD, List.getElem?_map]
  cases l[k]? <;> simp [hd]
theorem map_set_same {α β : Type} (f : α → β) {l : List α} {k : Nat} {x d : α} (h : f x = f (l.getD k d)) : (l.set k x).map f = l.map f := by
  apply List.ext_getElem?
  intro i
  simp only [List.getElem?_map, List.getElem?_set]
  by_cases e : k = i
  · subst e
    by_cases hk : k < l.length
    · rw [getD_lt hk] at h
      simp [hk, h]
    · simp [hk]
  · simp [e]
theorem subG {w0 : World} {L : List Res} {α : Type} {f : α → Vs} {l : List α} {d : α} {k e s : Nat} (i : Nat) (hi : lget L i = some (subs e s (l.map f))) (hk : k < l.length) : RdL w0 L (f (l.getD k d)).A (f (l.getD k d)).xs := rdl_subs i k hi (by simp [hk])
theorem map_at {α β : Type} (f : α → β) {l : List α} {k : Nat} {d : α} (hk : k < l.length) : (l.map f)[k]? = some (f (l.getD k d)) := by simp [hk]
theorem map_nil_at {α : Type} (f : α → Vs) {l : List α} {k : Nat} (hk : k < l.length) : ((l.map f).set k Vs.nil)[k]? = some Vs.nil := by simp [hk]
theorem map_back {α : Type} (f : α → Vs) {l : List α} {k : Nat} {x : α} {v : Vs} (hv : f x = v) : ((l.map f).set k Vs.nil).set k v = (l.set k x).map f := by
  rw [List.set_set, List.map_set, hv]
section
variable {P : Program} {N : Nat} {w0 : World} {Q : Exit → Act → World → Prop} {F : Frm} {L : List Res} {c : Code} {e s i q : Nat} {vs vs' : List Vs} {v : Vs}
/-- One of them loses its first element. -/
theorem St.subCut {w : World} (h : St w0 w L) (hi : lget L i = some (subs e s vs)) (hq : vs[q]? = some v) (h1 : 1 ≤ v.n) (hv : vs.set q (v.tl s) = vs') : St w0 w (lset L i (subs e s vs')) := by
  have h2 := (h.subOut hi hq).vcut (i := 0) (A := v.A) (n := v.n) (cp := v.c) (xs := v.xs) rfl h1
  have hi2 : lget (lset L i (subs e s (vs.set q Vs.nil))) i = some (subs e s (vs.set q Vs.nil)) := by rw [lget_lset, if_pos rfl, hi]; rfl
  have hq2 : (vs.set q Vs.nil)[q]? = some Vs.nil := by
    rw [List.getElem?_set_self (List.getElem?_eq_some_iff.1 hq).1]
  have h3 := St.subIn (vs' := vs') h2 hi2 hq2 (by rw [List.set_set]; exact hv)
  have hl : lset (lset L i (subs e s (vs.set q Vs.nil))) i (subs e s vs') = lset L i (subs e s vs') := by
    clear h h2 hi2 h3 hi
    induction L generalizing i with
    | nil => rfl
    | cons a L ih => cases i with
      | zero => rfl
      | succ i => simp only [lset, ih]
  rwa [hl] at h3
theorem tr_subCut (i q : Nat) (hi : lget L i = some (subs e s vs)) (hq : vs[q]? = some v) (h1 : 1 ≤ v.n) (hv : vs.set q (v.tl s) = vs') (h : TR P N w0 Q c F (lset L i (subs e s vs'))) : TR P N w0 Q c F L := fun a w hF hS => h a w hF (hS.subCut hi hq h1 hv)
/-- What is held, said otherwise. -/
theorem tr_as {r r' : Res} (i : Nat) (hi : lget L i = some r) (he : r = r') (h : TR P N w0 Q c F (lset L i r')) : TR P N w0 Q c F L := by
  subst he
  have hl : lset L i r = L := by
    clear h
    induction L generalizing i with
    | nil => rfl
    | cons a L ih => cases i with
      | zero => simp only [lget, Option.some.injEq] at hi; simp [lset, hi]
      | succ i => simp only [lset]; rw [ih i hi]
  rwa [hl] at h
end
end Go.Proofs.YtfcpmcdlgkfolaaDoor.E
