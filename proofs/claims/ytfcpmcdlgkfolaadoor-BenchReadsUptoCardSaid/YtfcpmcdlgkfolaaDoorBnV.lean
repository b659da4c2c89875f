/- Two scripts read are one, plain. -/
import Derived.Test.YtfcpmcdlgkfolaaDoorBnH
import Derived.Test.YtfcpmcdlgkfolaaDoorBnO
namespace Go.Proofs.YtfcpmcdlgkfolaaDoor.Bn
open Go.RowKit Go.Lib Go.Proofs.YtfcpmcdlgkfolaaDoor.E

theorem neq_op {x y : Operand} (a b : Int) (w : World) : (do eqGuard .neq 52 x y (.agg #[(.int .i64 a), (.int .i64 b)]) (.agg #[(.int .i64 a), (.int .i64 b)]); binOp .neq 52 (.agg #[(.int .i64 a), (.int .i64 b)]) (.agg #[(.int .i64 a), (.int .i64 b)]) : Sem Value).run Tryd.prog w = .ok (.bool false) w := by
  have e1 : ∀ x y, Op.equal 52 x y = Op.equalIn (9998 + 1 + 1) 52 x y := fun _ _ => rfl
  simp [eqGuard, binOp, e1, go_sem]
abbrev PIs (t : List UInt8) (q : Nat × Sc × Vs × Nat) : Prop := OpsIs q.2.2.1 q.2.1.ops ∧ q.2.1.ops.length ≤ t.length ∧ ((q.2.2.2 = 0 ∧ q.1 = 0 ∧ parse t = (0, some q.2.1)) ∨ (q.2.2.2 = 1 ∧ q.2.1 = sc0 ∧ q.2.2.1.A = none ∧ parse t = (q.1, none)))
theorem same_parse {t : List UInt8} {p q : Nat × Sc × Vs × Nat} (h1 : PIs t p) (h2 : PIs t q) : p.1 = q.1 ∧ p.2.1 = q.2.1 ∧ p.2.2.2 = q.2.2.2 := by
  rcases h1.2.2 with ⟨a1, a2, a3⟩ | ⟨a1, a2, _, a3⟩ <;> rcases h2.2.2 with ⟨b1, b2, b3⟩ | ⟨b1, b2, _, b3⟩ <;> rw [a3] at b3
  · exact ⟨a2.trans b2.symm, Option.some.inj (Prod.mk.inj b3).2, a1.trans b1.symm⟩
  · cases (Prod.mk.inj b3).2
  · cases (Prod.mk.inj b3).2
  · exact ⟨(Prod.mk.inj b3).1, a2.trans b2.symm, a1.trans b1.symm⟩
theorem c2_len (l : List (Nat × Nat)) : (l.flatMap c2).length = l.length * 2 := by
  induction l with
  | nil => rfl
  | cons a l ih => rw [List.flatMap_cons, List.length_append, ih]; simp [c2]; omega
theorem ops_rd {w0 w : World} {L : List Res} {z : Vs} {ops : List (Nat × Nat)} (hS : St w0 w L) (i : Nat) (hi : lget L i = some (vec 52 2 (.slice z.A z.n z.c) z.n z.xs)) (hz : OpsIs z ops) : Rd w z.A (ops.flatMap c2) := by
  have := (OwnV.rd (hS.holds i _ hi)).2.2
  rwa [hz.2] at this
end Go.Proofs.YtfcpmcdlgkfolaaDoor.Bn
