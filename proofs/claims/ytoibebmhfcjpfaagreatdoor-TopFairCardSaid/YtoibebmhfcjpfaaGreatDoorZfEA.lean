/- Pure facts out of what is held; rows of rows that are read. -/
import Derived.Test.YtoibebmhfcjpfaaGreatDoorZfE5
import Derived.Test.YtoibebmhfcjpfaaGreatDoorZfRdR
import Derived.Laws.StructEq
import Derived.Lib.Hide
import Derived.Laws.Cover3
namespace Go.Proofs.YtoibebmhfcjpfaaGreatDoor.E
open Go.RowKit

def emp : Res := ⟨[], fun _ => True, fun _ _ _ h => h⟩
theorem emp_holds : ∀ w, emp.holds w := fun _ => trivial

section
variable {P : Program} {N : Nat} {w0 : World} {ops : Array Oper} {Q : Exit → Act → World → Prop} {F : Frm} {L S : List Res} {c : Code} {l : List Oper}
/-- A fact that hangs on no world. -/
theorem tr_pure {φ : Prop} (hφ : ∀ w, St w0 w L → φ) (h : φ → TR P N w0 Q c F L) : TR P N w0 Q c F L := fun a w hF hS => h (hφ w hS) a w hF hS
end

def cI (l : List Int) : List Value := l.map (Value.int .i64)
theorem row_form {w : World} {e : TypeId} {h : Value} {n : Nat} {zs : List Int} (ho : OwnV w e 1 h n (cI zs)) : HdI w h zs := by
  obtain ⟨A, c, rfl, hc, hr⟩ := ho.form
  have : zs.length = n := by have := ho.1; simpa [cI] using this
  subst this
  exact ⟨A, c, rfl, hc, hr⟩
/-- A slice of the call's own of slices of the call's own, read. -/
theorem rdr_own {w : World} {e e' : TypeId} {A : Option Addr} {m c : Nat} {hs : List Value} {ls : List (List Int)} (h1 : OwnV w e' 1 (.slice A m c) m hs) (h2 : (rows e 1 hs (ls.map cI)).holds w) : RdR w A hs ls :=
  ⟨(OwnV.rd h1).2.2, by simpa using h2.1, fun i hi => by
    have hl : hs.length = ls.length := by simpa using h2.1
    obtain ⟨n, ho⟩ := h2.2 i (hs[i]'(by omega)) (cI ls[i]) (List.getElem?_eq_getElem (by omega)) (by simp [hi])
    exact row_form ho⟩
/-- What the headers are. -/
def Hdr (hs : List Value) (ls : List (List Int)) : Prop := hs.length = ls.length ∧ ∀ i (h : i < ls.length) (h' : i < hs.length), ∃ A c, hs[i] = .slice A ls[i].length c ∧ ls[i].length ≤ c
theorem _root_.Go.Proofs.YtoibebmhfcjpfaaGreatDoor.RdR.hdr {w : World} {A : Option Addr} {hs : List Value} {ls : List (List Int)} (h : RdR w A hs ls) : Hdr hs ls := ⟨h.len, fun i hi _ => by
  obtain ⟨A, c, h1, h2, _⟩ := h.row i hi
  exact ⟨A, c, h1, h2⟩⟩
theorem _root_.Go.Proofs.YtoibebmhfcjpfaaGreatDoor.RdR.rd {w : World} {A B : Option Addr} {hs : List Value} {ls : List (List Int)} {i n c : Nat} (h : RdR w A hs ls) (hi : i < ls.length) (h' : i < hs.length) (he : hs[i] = .slice B n c) : Rd w B (ls[i].map (.int .i64)) := by
  obtain ⟨B', c', h1, _, h3⟩ := h.row i hi
  rw [he] at h1
  injection h1 with e1 e2 e3
  subst e1
  exact h3
theorem getH {hs : List Value} {i : Nat} {v : Value} (h : i < hs.length) (he : hs[i] = v) : hs[i]? = some v := by rw [List.getElem?_eq_getElem h, he]
end Go.Proofs.YtoibebmhfcjpfaaGreatDoor.E

namespace Go.Proofs.YtoibebmhfcjpfaaGreatDoor.E
open Go.RowKit

section
variable {P : Program} {N : Nat} {w0 : World} {F : Frm} {L : List Res} {d : Option Tmp} {x y : Operand} {v : Value} {ty t : TypeId} {pos : String} {af : Array Edge} {gd : Option (Nat × Bool)}
end

section
variable {P : Program} {N : Nat} {w0 : World} {Q : Exit → Act → World → Prop} {F : Frm} {L : List Res} {v : Value}
end
end Go.Proofs.YtoibebmhfcjpfaaGreatDoor.E

namespace Go.Proofs.YtoibebmhfcjpfaaGreatDoor.E
open Go.RowKit

section
variable {P : Program} {N : Nat} {w0 : World} {F : Frm} {L : List Res} {d : Option Tmp} {x y : Operand} {v : Value} {ty t t' : TypeId} {pos : String} {af : Array Edge} {gd : Option (Nat × Bool)} {k : IntKind} {a b : Int}
/-- Any operator, by what it says of these values. -/
theorem y_binop {op : BinOp} {vx vy : Value} (hx : FE N F x vx) (hy : FE N F y vy) (h : ∀ w, (do eqGuard op t x y vx vy; binOp op t vx vy : Sem Value).run P w = .ok v w) : Yld P N w0 F L ⟨d, .binOp op t x y t', ty, pos, af, gd⟩ v := fun c w hF _ => by
  have := h w
  simp only [execOp, hx c hF, hy c hF]
  simp only [Sem.run_bind, Sem.run_pure] at this ⊢
  rw [this]
  rfl
end
end Go.Proofs.YtoibebmhfcjpfaaGreatDoor.E

namespace Go.Proofs.YtoibebmhfcjpfaaGreatDoor.E
open Go.RowKit
section
variable {P : Program} {N : Nat} {w0 : World} {F : Frm} {L : List Res} {d : Option Tmp} {x y : Operand} {ty t t' e : TypeId} {pos : String} {af : Array Edge} {gd : Option (Nat × Bool)} {A : Option Addr} {n c : Nat}
theorem y_eqnil (hu : P.underlying t = some (.slice e)) (hx : FE N F x (.slice A n c)) (hy : FE N F y (.slice none 0 0)) : Yld P N w0 F L ⟨d, .binOp .eql t x y t', ty, pos, af, gd⟩ (.bool A.isNone) :=
  y_binop hx hy fun w => by simp [eqGuard, binOp, run_equal_slice_nil w _ _ _ _ _ hu]
/-- A number that is said otherwise. -/
theorem fe_i {i : Nat} {k : IntKind} {z z' : Int} (hz : z = z') (h : fget N F i = some (.int k z)) : FE N F (.tmp i) (.int k z') := fe_t (hz ▸ h)
end
end Go.Proofs.YtoibebmhfcjpfaaGreatDoor.E

namespace Go.Proofs.YtoibebmhfcjpfaaGreatDoor.E
open Go.RowKit

section
variable {P : Program} {N : Nat} {w0 : World} {F : Frm} {L : List Res} {d : Option Tmp} {x y : Operand} {v : Value} {ty t : TypeId} {pos : String} {af : Array Edge} {gd : Option (Nat × Bool)} {K : Frm → List Res → Prop}
end
end Go.Proofs.YtoibebmhfcjpfaaGreatDoor.E
