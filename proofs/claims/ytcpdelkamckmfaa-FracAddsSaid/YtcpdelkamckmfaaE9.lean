/- A slice against nil. -/
import Derived.Test.YtcpdelkamckmfaaE8
import Derived.Lib.Hide
import Derived.Laws.Cover3
namespace Go.Proofs.Ytcpdelkamckmfaa.E
open Go.RowKit
section
variable {P : Program} {N : Nat} {w0 : World} {F : Frm} {L : List Res} {d : Option Tmp} {x y : Operand} {ty t t' e : TypeId} {pos : String} {af : Array Edge} {gd : Option (Nat × Bool)} {A : Option Addr} {n c : Nat}
theorem y_eqnil (hu : P.underlying t = some (.slice e)) (hx : FE N F x (.slice A n c)) (hy : FE N F y (.slice none 0 0)) : Yld P N w0 F L ⟨d, .binOp .eql t x y t', ty, pos, af, gd⟩ (.bool A.isNone) :=
  y_binop hx hy fun w => by simp [eqGuard, binOp, run_equal_slice_nil w _ _ _ _ _ hu]
theorem y_nenil (hu : P.underlying t = some (.slice e)) (hx : FE N F x (.slice A n c)) (hy : FE N F y (.slice none 0 0)) : Yld P N w0 F L ⟨d, .binOp .neq t x y t', ty, pos, af, gd⟩ (.bool (!A.isNone)) :=
  y_binop hx hy fun w => by simp [eqGuard, binOp, run_equal_slice_nil w _ _ _ _ _ hu]
/-- A number that is said otherwise. -/
theorem fe_i {i : Nat} {k : IntKind} {z z' : Int} (hz : z = z') (h : fget N F i = some (.int k z)) : FE N F (.tmp i) (.int k z') := fe_t (hz ▸ h)
end
end Go.Proofs.Ytcpdelkamckmfaa.E
