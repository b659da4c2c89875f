/- Equality of structs; slices that are equal. -/
import Derived.Test.YtcpdelkamckmfaaE7
import Derived.Laws.StructEq
namespace Go.Proofs.Ytcpdelkamckmfaa.E
open Go.RowKit

section
variable {P : Program} {N : Nat} {w0 : World} {F : Frm} {L : List Res} {d : Option Tmp} {x y : Operand} {v : Value} {ty t t' : TypeId} {pos : String} {af : Array Edge} {gd : Option (Nat × Bool)} {k : IntKind} {a b : Int}
/-- Any operator, by what it says of these values. -/
theorem y_binop {op : BinOp} {vx vy : Value} (hx : FE N F x vx) (hy : FE N F y vy) (h : ∀ w, (do eqGuard op t x y vx vy; binOp op t vx vy : Sem Value).run P w = .ok v w) : Yld P N w0 F L ⟨d, .binOp op t x y t', ty, pos, af, gd⟩ v := fun c w hF _ => by
  have := h w
  simp only [execOp, hx c hF, hy c hF]
  simp only [Sem.run_bind, Sem.run_pure] at this ⊢
  rw [this]
  rfl
end
theorem neq_sent {x y : Operand} (a b c d : Int) (w : World) : (do eqGuard .neq 102 x y (.agg #[(.int .i64 a), (.int .i64 b)]) (.agg #[(.int .i64 c), (.int .i64 d)]); binOp .neq 102 (.agg #[(.int .i64 a), (.int .i64 b)]) (.agg #[(.int .i64 c), (.int .i64 d)]) : Sem Value).run Try.prog w = .ok (.bool (decide (¬ (a = c ∧ b = d)))) w := by
  have : (!(a == c && b == d)) = decide (¬ (a = c ∧ b = d)) := by by_cases h : a = c <;> by_cases h2 : b = d <;> simp [h, h2]
  rw [← this]
  have e : ∀ x y, Op.equal 102 x y = Op.equalIn (9998 + 1 + 1) 102 x y := fun _ _ => rfl
  by_cases h : a = c <;> by_cases h2 : b = d <;> simp [eqGuard, binOp, e, go_sem, h, h2]
end Go.Proofs.Ytcpdelkamckmfaa.E
