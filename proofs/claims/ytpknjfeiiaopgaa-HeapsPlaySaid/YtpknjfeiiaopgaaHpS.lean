/- The run of the operations, plain; slices.Clip's cut. -/
import Derived.Test.YtpknjfeiiaopgaaHpP
namespace Go.Proofs.Ytpknjfeiiaopgaa.E
open Go.RowKit
theorem y_cutM {P : Program} {N : Nat} {w0 : World} {F : Frm} {L : List Res} {d : Option Tmp} {x y z : Operand} {ty t : TypeId} {pos : String} {af : Array Edge} {gd : Option (Nat × Bool)} {e s n c l : Nat} {A : Option Addr} {k k' : IntKind} (hu : P.underlying t = some (.slice e)) (hs : ∀ w, (sizeOf e).run P w = .ok s w) (hx : FE N F x (.slice A n c)) (hy : FE N F y (.int k (l : Int))) (hz : FE N F z (.int k' (l : Int))) (h1 : l ≤ c) : Yld P N w0 F L ⟨d, .slice t x none (some y) (some z), ty, pos, af, gd⟩ (.slice A l l) := fun a w hF _ => by
  have hE : P.elem t = e := by simp [Program.elem, hu]
  have ht' : P.underlying t = some (.slice (P.elem t)) := by rw [hE]; exact hu
  have hr : (Instr.sliceAt t (.slice A n c) none (some (.int k l)) (some (.int k' l))).run P w = .ok (.slice A l l) w := by
    rw [run_sliceAt_slice w t _ _ _ _ ht']
    have : (Instr.slice t (.slice A n c) none (some (.int k l)) (some (.int k' l))).run P w = ((sizeOf (P.elem t)).run P w).andThen fun s w => .ok (sliced A 0 (l : Int).toNat l s) w := by
      simp [Instr.slice, run_underlying hu, hE, Instr.sliceBounds, run_sliceBound, sliced, (by omega : (0 : Int) ≤ l), (by omega : (l : Int) ≤ c)]
    rw [this, hE]
    simp [hs, Result.andThen, sliced]
    intro h
    cases A <;> simp [Addr.add]
  simp [execOp, hx a hF, hy a hF, hz a hF, hr]
theorem y_lookup2A {P : Program} {N : Nat} {w0 : World} {F : Frm} {L : List Res} {d : Option Tmp} {x y : Operand} {v u : Value} {ty t kt et : TypeId} {pos : String} {af : Array Edge} {gd : Option (Nat × Bool)} {b : Nat} {m : List (Int × Value)} {its : List It} {k : Int} (i : Nat) (hm : P.underlying t = some (.map kt et)) (hkt : P.underlying kt = some (.int .i64)) (hz : ∀ w, (zeroValue et).run P w = .ok v w) (hx : FE N F x (.map (some b))) (hy : FE N F y (.int .i64 k)) (hk : lget L i = some (mpR b m its)) (hg : (mget m k).getD v = u) :
    Yld P N w0 F L ⟨d, .lookup t x y true, ty, pos, af, gd⟩ (.tuple #[u, .bool (mget m k).isSome]) := by
  have h := y_lookup2 (d := d) (ty := ty) (pos := pos) (af := af) (gd := gd) (w0 := w0) i hm hkt hz hx hy hk
  rwa [hg] at h
end Go.Proofs.Ytpknjfeiiaopgaa.E
namespace Go.Proofs.Ytpknjfeiiaopgaa.Heap
open Go.RowKit Go.Proofs.Ytpknjfeiiaopgaa.E Go.Proofs.Ytpknjfeiiaopgaa.Big

def o0 : Op4 := ⟨0, 0, 0, 0⟩
def c4 (o : Op4) : List Value := [(.int .i64 o.kind), (.int .i64 o.id), .int .u64 o.hi, .int .u64 o.lo]
theorem hc4 : ∀ o, (c4 o).length = 4 := fun _ => rfl
theorem run_next {l : List Op4} {k : Nat} (h : k < l.length) : run (l.take (k + 1)) = go (run (l.take k)) (l.getD k o0) := by
  rw [run_take h]
  congr 1
  simp [List.getD_eq_getElem?_getD, h]
theorem go_f (s : Rn) (o : Op4) : (go s o).f = nxt s.f o := rfl
theorem go_errs (s : Rn) (o : Op4) : (go s o).errs = s.errs ++ [err s.f o] := rfl
theorem go_pops {s : Rn} {o : Op4} (h : err s.f o = 0) (h2 : o.kind = 2) : (go s o).pops = s.pops ++ [pop s.f o] := by
  unfold go pop
  simp only
  rw [if_pos ⟨h, h2⟩, if_pos ⟨h, h2⟩]
theorem go_stay {s : Rn} {o : Op4} (h : ¬ (err s.f o = 0 ∧ o.kind = 2)) : (go s o).pops = s.pops := by
  unfold go
  simp only
  rw [if_neg h]
theorem cI_app (l : List Int) (x : Int) : cI l ++ [(.int .i64 x)] = cI (l ++ [x]) := by simp [cI]
/-- What is handed back. -/
structure PR where
  e : Vs
  p : Vs
  d : Vs
  k : Nat
  L : List Int
structure PRok (n : Nat) (s : Rn) (r : PR) : Prop where
  en : r.e.n = n ∧ s.errs.length = n
  ex : r.e.xs = cI s.errs
  pn : r.p.n = s.pops.length ∧ r.p.n ≤ n
  px : r.p.xs = cI s.pops
  dn : r.d.n = r.L.length ∧ r.d.n ≤ n
  dx : r.d.xs = cI r.L
  dr : Dr s.f r.L
/-- Half the way out. -/
def Half (f0 f : Tb) (L : List Int) : Prop := ∀ M, Dr f M → Dr f0 (L ++ M)
theorem Half.nil (f : Tb) : Half f f [] := fun _ h => h
theorem Half.next {f0 f : Tb} {L : List Int} {i : Int} (h : Half f0 f L) (hi : IsMin f i) : Half f0 (upd f i none) (L ++ [i]) := fun M hM => by
  rw [List.append_assoc]
  exact h _ (.cons hi hM)
theorem Half.fin {f0 f : Tb} {L : List Int} (h : Half f0 f L) (he : Emp f) : Dr f0 L := by
  have := h [] (.nil he)
  rwa [List.append_nil] at this
theorem Gd.min {n : Nat} {l : List I3} {m : Mp} {f : Tb} (h : Gd n l m f) (h0 : 0 < n) : IsMin f (gl l 0).1 := h.rf.root h.hp (by rw [h.len]; exact h0)
theorem Mr.yes {m : Mp} {f : Tb} (h : Mr m f) {i : Int} (hi : (mget m i).isSome = true) : f i ≠ none := fun h9 => by
  rw [h i, h9] at hi
  cases hi
theorem Mr.nope {m : Mp} {f : Tb} (h : Mr m f) {i : Int} (hi : (mget m i).isSome = false) : f i = none := by
  rw [h i] at hi
  cases hf : f i with
  | none => rfl
  | some k => rw [hf] at hi; cases hi
theorem mdel_le (m : Mp) (k : Int) : (mdel m k).length ≤ m.length := (mdel_sub m k).length_le
theorem Mr.less {m : Mp} {f : Tb} (h : Mr m f) {i : Int} (hi : IsMin f i) : (mdel m i).length + 1 = m.length := mdel_len (by
  refine Decidable.not_not.1 fun h1 => ?_
  obtain ⟨k, h2, _⟩ := hi
  rw [h.no.1 (mget_none.2 h1)] at h2
  cases h2)
end Go.Proofs.Ytpknjfeiiaopgaa.Heap
