/- A function made in a function, and its call. -/
import Derived.Test.YtoibebmhfcjpfaaGreatDoorZfEA
namespace Go.Proofs.YtoibebmhfcjpfaaGreatDoor.E
open Go.RowKit
section
variable {P : Program} {N : Nat} {w0 : World} {F : Frm} {L : List Res} {d : Option Tmp} {ty : TypeId} {pos : String} {af : Array Edge} {gd : Option (Nat × Bool)} {K : Frm → List Res → Prop}
/-- A function that holds values of the one around it. -/
theorem y_makeFunc {f : FuncId} {xs : Array Operand} {vs : List Value} (hx : FEL N F xs.toList vs) : Yld P N w0 F L ⟨d, .makeFunc (.func f) #[] xs, ty, pos, af, gd⟩ (.func (.func f) #[] vs.toArray) := fun a w hF _ => by
  have hargs : xs.map a.eval = vs.toArray := by
    have := hx a hF
    apply Array.toList_inj.1
    simpa using this
  simp [execOp, Instr.makeFunc, hargs]
/-- Its call. -/
theorem oj_callF {α : Type} {xs : Array Operand} {ts : Array TypeId} {f : FuncId} {vs cs : List Value} {p : α → Prop} {r : α → Value} {M : α → List Res} {fc : Operand} (hcall : ∀ args w, (callFunc f args).run P w = .ok (.enter f args) w) (hf : FE N F fc (.func (.func f) #[] cs.toArray)) (hx : FEL N F xs.toList vs)
    (hc : ∀ w, St w0 w L → Calls P f (vs ++ cs).toArray w (fun e w' => ∃ q : α, p q ∧ e = .returned (r q) ∧ St w0 w' (M q))) (h : ∀ q, p q → K (fput F d (r q)) (M q)) : OpJ P N w0 F L ⟨d, .call ⟨.value fc, xs, ts⟩, ty, pos, af, gd⟩ K := fun a w hF hS => by
  have hargs : xs.map a.eval = vs.toArray := by
    have := hx a hF
    apply Array.toList_inj.1
    simpa using this
  have hr : (execOp a.eval ⟨d, .call ⟨.value fc, xs, ts⟩, ty, pos, af, gd⟩).run P w = .ok (.enter f (vs ++ cs).toArray) w := by
    simp [execOp, resolve, hf a hF, Deferred.ofValue, invoke, hargs, hcall]
  unfold Oper.wp
  rw [hr]
  refine (hc w hS).mono fun e w' ⟨q, hp, he, hS'⟩ => ?_
  subst he
  exact ⟨_, _, h q hp, hF.put _ _, hS'⟩
end
end Go.Proofs.YtoibebmhfcjpfaaGreatDoor.E
