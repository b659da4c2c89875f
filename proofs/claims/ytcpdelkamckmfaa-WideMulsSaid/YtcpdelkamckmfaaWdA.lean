/- Words added and taken away. -/
import Derived.Laws.Externs
import Derived.Test.YtcpdelkamckmfaaKnD
namespace Go.Proofs.Ytcpdelkamckmfaa.Frac
open Go.RowKit Go.Proofs.Ytcpdelkamckmfaa.E Go.Proofs.Ytcpdelkamckmfaa.Big

section
variable {P : Program} {N : Nat} {w0 : World} {F : Frm} {L : List Res} {d : Option Tmp} {ty : TypeId} {pos : String} {af : Array Edge} {gd : Option (Nat × Bool)}
theorem y_ext {xs : Array Operand} {ts : Array TypeId} {f : FuncId} {vs : List Value} {v : Value} {fc : Operand} (hcall : ∀ w, (callFunc f vs.toArray).run P w = .ok (.value v) w) (hf : FE N F fc (.func (.func f) #[] #[])) (hx : FEL N F xs.toList vs) : Yld P N w0 F L ⟨d, .call ⟨.value fc, xs, ts⟩, ty, pos, af, gd⟩ v := fun a w hF _ => by
  have hargs : xs.map a.eval = vs.toArray := by
    have := hx a hF
    apply Array.toList_inj.1
    simpa using this
  simp [execOp, resolve, hf a hF, Deferred.ofValue, invoke, hargs, hcall]
end
theorem addC (x y c : Int) (hx : 0 ≤ x) (hy : 0 ≤ y) (hc0 : 0 ≤ c) (hc : c ≤ 1) (w : World) : (callFunc 119 #[.int .u64 x, .int .u64 y, .int .u64 c]).run Try.prog w = .ok (.value (.tuple #[.int .u64 ((x + y + c) % 18446744073709551616), .int .u64 ((x + y + c) / 18446744073709551616)])) w := by
  rw [run_callFunc_extern Try.func119 (by kernel_rfl) (by kernel_rfl) (by kernel_rfl) (e := add64Entry) (by kernel_rfl), run_add64 x y c hx hy hc0 hc]
  rfl
theorem run_sub (X Y k : Nat) (hk : k ≤ 1) {P : Program} (w : World) : ((Extern.MathBitsCarry.rows[1]'(by decide)).2 #[.int .u64 (X : Int), .int .u64 (Y : Int), .int .u64 (k : Int)]).run P w = .ok (Extern.MathBitsCarry.pair ((X + Extern.MathBitsCarry.m64 - Y - k) % Extern.MathBitsCarry.m64) (if X < Y + k then 1 else 0)) w := by
  have : k = 0 ∨ k = 1 := by omega
  rcases this with rfl | rfl <;> rfl
def bw (z : Int) : Int := if z < 0 then 1 else 0
theorem subC (x y b : Int) (hx : 0 ≤ x) (hy : 0 ≤ y) (hy' : y < 18446744073709551616) (hb0 : 0 ≤ b) (hb : b ≤ 1) (w : World) : (callFunc 120 #[.int .u64 x, .int .u64 y, .int .u64 b]).run Try.prog w = .ok (.value (.tuple #[.int .u64 ((x - y - b) % 18446744073709551616), .int .u64 (bw (x - y - b))])) w := by
  obtain ⟨X, rfl⟩ := Int.eq_ofNat_of_zero_le hx
  obtain ⟨Y, rfl⟩ := Int.eq_ofNat_of_zero_le hy
  obtain ⟨k, rfl⟩ := Int.eq_ofNat_of_zero_le hb0
  rw [run_callFunc_extern Try.func120 (by kernel_rfl) (by kernel_rfl) (by kernel_rfl) (e := (Extern.MathBitsCarry.rows[1]'(by decide)).2) (by kernel_rfl), run_sub X Y k (by omega)]
  have e1 : (((X + Extern.MathBitsCarry.m64 - Y - k) % Extern.MathBitsCarry.m64 : Nat) : Int) = ((X : Int) - Y - k) % 18446744073709551616 := by
    simp only [show Extern.MathBitsCarry.m64 = 18446744073709551616 from rfl]
    omega
  have e2 : ((if X < Y + k then 1 else 0 : Nat) : Int) = bw ((X : Int) - Y - k) := by
    unfold bw
    split <;> split <;> omega
  simp only [Extern.MathBitsCarry.pair, Result.andThen, Int.ofNat_eq_natCast, e1, e2]
/-- A number in two words, and whether it goes over. -/
def wr (z : Int) : Value := .agg #[.int .u64 (z / 18446744073709551616 % 18446744073709551616), .int .u64 (z % 18446744073709551616)]
def wo (z : Int) : Bool := decide (¬ (0 ≤ z ∧ z < 340282366920938463463374607431768211456))
structure WB (h l : Int) : Prop where
  h0 : 0 ≤ h
  h1 : h < 18446744073709551616
  l0 : 0 ≤ l
  l1 : l < 18446744073709551616
theorem wadd {h l h' l' : Int} (a : WB h l) (b : WB h' l') : (Value.tuple #[.agg #[.int .u64 ((h + h' + (l + l' + 0) / 18446744073709551616) % 18446744073709551616), .int .u64 ((l + l' + 0) % 18446744073709551616)], .bool (decide ((h + h' + (l + l' + 0) / 18446744073709551616) / 18446744073709551616 = 1))]) = .tuple #[wr ((h * 18446744073709551616 + l) + (h' * 18446744073709551616 + l')), .bool (wo ((h * 18446744073709551616 + l) + (h' * 18446744073709551616 + l')))] := by
  obtain ⟨a0, a1, a2, a3⟩ := a
  obtain ⟨b0, b1, b2, b3⟩ := b
  have e1 : (h + h' + (l + l' + 0) / 18446744073709551616) % 18446744073709551616 = ((h * 18446744073709551616 + l) + (h' * 18446744073709551616 + l')) / 18446744073709551616 % 18446744073709551616 := by omega
  have e2 : (l + l' + 0) % 18446744073709551616 = ((h * 18446744073709551616 + l) + (h' * 18446744073709551616 + l')) % 18446744073709551616 := by omega
  have e3 : decide ((h + h' + (l + l' + 0) / 18446744073709551616) / 18446744073709551616 = 1) = decide (¬ (0 ≤ ((h * 18446744073709551616 + l) + (h' * 18446744073709551616 + l')) ∧ ((h * 18446744073709551616 + l) + (h' * 18446744073709551616 + l')) < 340282366920938463463374607431768211456)) := decide_eq_decide.2 (by omega)
  rw [e1, e2, e3]
  rfl
theorem wsub {h l h' l' : Int} (a : WB h l) (b : WB h' l') : (Value.tuple #[.agg #[.int .u64 ((h - h' - bw (l - l' - 0)) % 18446744073709551616), .int .u64 ((l - l' - 0) % 18446744073709551616)], .bool (decide (bw (h - h' - bw (l - l' - 0)) = 1))]) = .tuple #[wr ((h * 18446744073709551616 + l) - (h' * 18446744073709551616 + l')), .bool (wo ((h * 18446744073709551616 + l) - (h' * 18446744073709551616 + l')))] := by
  obtain ⟨a0, a1, a2, a3⟩ := a
  obtain ⟨b0, b1, b2, b3⟩ := b
  have g1 : bw (l - l' - 0) = 0 ∧ 0 ≤ l - l' ∨ bw (l - l' - 0) = 1 ∧ l - l' < 0 := by unfold bw; split <;> omega
  generalize bw (l - l' - 0) = c at *
  have g2 : bw (h - h' - c) = 0 ∧ 0 ≤ h - h' - c ∨ bw (h - h' - c) = 1 ∧ h - h' - c < 0 := by unfold bw; split <;> omega
  generalize bw (h - h' - c) = d at *
  have e1 : (h - h' - c) % 18446744073709551616 = ((h * 18446744073709551616 + l) - (h' * 18446744073709551616 + l')) / 18446744073709551616 % 18446744073709551616 := by omega
  have e2 : (l - l' - 0) % 18446744073709551616 = ((h * 18446744073709551616 + l) - (h' * 18446744073709551616 + l')) % 18446744073709551616 := by omega
  have e3 : decide (d = 1) = decide (¬ (0 ≤ ((h * 18446744073709551616 + l) - (h' * 18446744073709551616 + l')) ∧ ((h * 18446744073709551616 + l) - (h' * 18446744073709551616 + l')) < 340282366920938463463374607431768211456)) := decide_eq_decide.2 (by omega)
  rw [e1, e2, e3]
  rfl

set_option maxRecDepth 100000 in
set_option maxHeartbeats 1000000 in
theorem waddE {h l h' l' : Int} (ha : WB h l) (hb : WB h' l') (w : World) :
    Calls Try.prog 38 #[.agg #[.int .u64 h, .int .u64 l], .agg #[.int .u64 h', .int .u64 l']] w fun e w' => e = .returned (.tuple #[wr ((h * 18446744073709551616 + l) + (h' * 18446744073709551616 + l')), .bool (wo ((h * 18446744073709551616 + l) + (h' * 18446744073709551616 + l')))]) ∧ St w w' [] := by
  have ha2 := ha
  have hb2 := hb
  obtain ⟨a0, a1, a2, a3⟩ := ha2
  obtain ⟨c0, c1, c2, c3⟩ := hb2
  refine calls_tr Try.func38 Try.ntmps38 rfl rfl (St.refl _) ?_
  refine tr_seq ?_
  refine tr_region ?_
  refine tl_step rfl (oj_box (fe_t rfl) (fun b1 => ?_))
  refine tl_step rfl (oj_box (fe_t rfl) (fun b2 => ?_))
  refine tl_step rfl (oj_alloc Try.zeroValue54 (fun b3 => ?_))
  refine tl_step rfl (oj_val (y_assign fe_c) ?_)
  refine tl_nil ?_
  refine tx_then ?_
  refine tr_seq ?_
  refine tr_region ?_
  refine tl_step rfl (oj_val (y_fieldAddr (td := 41) Try.underlying54 rfl rfl Try.sizeOf41 (o' := 1) rfl (fe_t rfl)) ?_)
  refine tl_step rfl (oj_val (y_ldb 2 Try.isAgg41 (fe_t rfl) rfl rfl) ?_)
  refine tl_step rfl (oj_val (y_fieldAddr (td := 41) Try.underlying54 rfl rfl Try.sizeOf41 (o' := 1) rfl (fe_t rfl)) ?_)
  refine tl_step rfl (oj_val (y_ldb 1 Try.isAgg41 (fe_t rfl) rfl rfl) ?_)
  refine tl_step rfl (oj_val (y_ext (fun w => addC _ _ _ (by omega) (by omega) (by omega) (by omega) w) fe_f (fel_cons (fe_t rfl) (fel_cons (fe_t rfl) (fel_cons fe_c fel_nil)))) ?_)
  refine tl_step rfl (oj_val (y_move (fe_t rfl)) ?_)
  refine tl_step rfl (oj_val (y_extract (fe_t rfl) rfl) ?_)
  refine tl_step rfl (oj_val (y_extract (fe_t rfl) rfl) ?_)
  refine tl_step rfl (oj_val (y_assign (fe_t rfl)) ?_)
  refine tl_step rfl (oj_val (y_assign (fe_t rfl)) ?_)
  refine tl_nil ?_
  refine tx_then ?_
  refine tr_seq ?_
  refine tr_region ?_
  refine tl_step rfl (oj_val (y_fieldAddr (td := 41) Try.underlying54 rfl rfl Try.sizeOf41 (o' := 0) rfl (fe_t rfl)) ?_)
  refine tl_step rfl (oj_val (y_ldb 2 Try.isAgg41 (fe_t rfl) rfl rfl) ?_)
  refine tl_step rfl (oj_val (y_fieldAddr (td := 41) Try.underlying54 rfl rfl Try.sizeOf41 (o' := 0) rfl (fe_t rfl)) ?_)
  refine tl_step rfl (oj_val (y_ldb 1 Try.isAgg41 (fe_t rfl) rfl rfl) ?_)
  refine tl_step rfl (oj_val (y_move (fe_t rfl)) ?_)
  refine tl_step rfl (oj_val (y_ext (fun w => addC _ _ _ (by omega) (by omega) (by omega) (by omega) w) fe_f (fel_cons (fe_t rfl) (fel_cons (fe_t rfl) (fel_cons (fe_t rfl) fel_nil)))) ?_)
  refine tl_step rfl (oj_val (y_move (fe_t rfl)) ?_)
  refine tl_step rfl (oj_val (y_extract (fe_t rfl) rfl) ?_)
  refine tl_step rfl (oj_val (y_extract (fe_t rfl) rfl) ?_)
  refine tl_step rfl (oj_val (y_assign (fe_t rfl)) ?_)
  refine tl_step rfl (oj_val (y_assign (fe_t rfl)) ?_)
  refine tl_nil ?_
  refine tx_then ?_
  refine tr_seq ?_
  refine tr_region ?_
  refine tl_step rfl (oj_val (y_move (fe_t rfl)) ?_)
  refine tl_step rfl (oj_val (y_move (fe_t rfl)) ?_)
  refine tl_step rfl (oj_val ((fun {u0 u1} hx hb => y_build (is := [0, 1]) (vs := [u0, u1]) (cs := [u0, u1]) rfl hx hb) (fel_cons (fe_t rfl) (fel_cons (fe_t rfl) fel_nil)) (by kernel_rfl)) ?_)
  refine tl_step rfl (oj_val (y_move (fe_t rfl)) ?_)
  refine tl_step rfl (oj_val (y_eq (fe_t rfl) fe_c) ?_)
  refine tl_step rfl (oj_storeW 0 Try.sizeOf54 (fe_t rfl) (fe_t rfl) rfl rfl rfl rfl rfl (?_))
  refine tl_step rfl (oj_val (y_assign (fe_t rfl)) ?_)
  refine tl_nil ?_
  refine tx_then ?_
  refine tr_ret ?_
  refine tx_ret (res2 Try.results38 (rok_b 0 Try.isAgg54 Try.sizeOf54 rfl rfl rfl) (rok_t rfl)) (fun w' hS => ?_)
  exact ⟨(by rw [← wadd ha hb] <;> rfl), hS.pick [] _ rfl (by decide)⟩

set_option maxRecDepth 100000 in
set_option maxHeartbeats 1000000 in
theorem wsubE {h l h' l' : Int} (ha : WB h l) (hb : WB h' l') (w : World) :
    Calls Try.prog 39 #[.agg #[.int .u64 h, .int .u64 l], .agg #[.int .u64 h', .int .u64 l']] w fun e w' => e = .returned (.tuple #[wr ((h * 18446744073709551616 + l) - (h' * 18446744073709551616 + l')), .bool (wo ((h * 18446744073709551616 + l) - (h' * 18446744073709551616 + l')))]) ∧ St w w' [] := by
  have ha2 := ha
  have hb2 := hb
  obtain ⟨a0, a1, a2, a3⟩ := ha2
  obtain ⟨c0, c1, c2, c3⟩ := hb2
  have hbw : 0 ≤ bw (l - l' - 0) ∧ bw (l - l' - 0) ≤ 1 := by unfold bw; split <;> omega
  refine calls_tr Try.func39 Try.ntmps39 rfl rfl (St.refl _) ?_
  refine tr_seq ?_
  refine tr_region ?_
  refine tl_step rfl (oj_box (fe_t rfl) (fun b1 => ?_))
  refine tl_step rfl (oj_box (fe_t rfl) (fun b2 => ?_))
  refine tl_step rfl (oj_alloc Try.zeroValue54 (fun b3 => ?_))
  refine tl_step rfl (oj_val (y_assign fe_c) ?_)
  refine tl_nil ?_
  refine tx_then ?_
  refine tr_seq ?_
  refine tr_region ?_
  refine tl_step rfl (oj_val (y_fieldAddr (td := 41) Try.underlying54 rfl rfl Try.sizeOf41 (o' := 1) rfl (fe_t rfl)) ?_)
  refine tl_step rfl (oj_val (y_ldb 2 Try.isAgg41 (fe_t rfl) rfl rfl) ?_)
  refine tl_step rfl (oj_val (y_fieldAddr (td := 41) Try.underlying54 rfl rfl Try.sizeOf41 (o' := 1) rfl (fe_t rfl)) ?_)
  refine tl_step rfl (oj_val (y_ldb 1 Try.isAgg41 (fe_t rfl) rfl rfl) ?_)
  refine tl_step rfl (oj_val (y_ext (fun w => subC _ _ _ (by omega) (by omega) (by omega) (by omega) (by omega) w) fe_f (fel_cons (fe_t rfl) (fel_cons (fe_t rfl) (fel_cons fe_c fel_nil)))) ?_)
  refine tl_step rfl (oj_val (y_move (fe_t rfl)) ?_)
  refine tl_step rfl (oj_val (y_extract (fe_t rfl) rfl) ?_)
  refine tl_step rfl (oj_val (y_extract (fe_t rfl) rfl) ?_)
  refine tl_step rfl (oj_val (y_assign (fe_t rfl)) ?_)
  refine tl_step rfl (oj_val (y_assign (fe_t rfl)) ?_)
  refine tl_nil ?_
  refine tx_then ?_
  refine tr_seq ?_
  refine tr_region ?_
  refine tl_step rfl (oj_val (y_fieldAddr (td := 41) Try.underlying54 rfl rfl Try.sizeOf41 (o' := 0) rfl (fe_t rfl)) ?_)
  refine tl_step rfl (oj_val (y_ldb 2 Try.isAgg41 (fe_t rfl) rfl rfl) ?_)
  refine tl_step rfl (oj_val (y_fieldAddr (td := 41) Try.underlying54 rfl rfl Try.sizeOf41 (o' := 0) rfl (fe_t rfl)) ?_)
  refine tl_step rfl (oj_val (y_ldb 1 Try.isAgg41 (fe_t rfl) rfl rfl) ?_)
  refine tl_step rfl (oj_val (y_move (fe_t rfl)) ?_)
  refine tl_step rfl (oj_val (y_ext (fun w => subC _ _ _ (by omega) (by omega) (by omega) hbw.1 hbw.2 w) fe_f (fel_cons (fe_t rfl) (fel_cons (fe_t rfl) (fel_cons (fe_t rfl) fel_nil)))) ?_)
  refine tl_step rfl (oj_val (y_move (fe_t rfl)) ?_)
  refine tl_step rfl (oj_val (y_extract (fe_t rfl) rfl) ?_)
  refine tl_step rfl (oj_val (y_extract (fe_t rfl) rfl) ?_)
  refine tl_step rfl (oj_val (y_assign (fe_t rfl)) ?_)
  refine tl_step rfl (oj_val (y_assign (fe_t rfl)) ?_)
  refine tl_nil ?_
  refine tx_then ?_
  refine tr_seq ?_
  refine tr_region ?_
  refine tl_step rfl (oj_val (y_move (fe_t rfl)) ?_)
  refine tl_step rfl (oj_val (y_move (fe_t rfl)) ?_)
  refine tl_step rfl (oj_val ((fun {u0 u1} hx hb => y_build (is := [0, 1]) (vs := [u0, u1]) (cs := [u0, u1]) rfl hx hb) (fel_cons (fe_t rfl) (fel_cons (fe_t rfl) fel_nil)) (by kernel_rfl)) ?_)
  refine tl_step rfl (oj_val (y_move (fe_t rfl)) ?_)
  refine tl_step rfl (oj_val (y_eq (fe_t rfl) fe_c) ?_)
  refine tl_step rfl (oj_storeW 0 Try.sizeOf54 (fe_t rfl) (fe_t rfl) rfl rfl rfl rfl rfl (?_))
  refine tl_step rfl (oj_val (y_assign (fe_t rfl)) ?_)
  refine tl_nil ?_
  refine tx_then ?_
  refine tr_ret ?_
  refine tx_ret (res2 Try.results39 (rok_b 0 Try.isAgg54 Try.sizeOf54 rfl rfl rfl) (rok_t rfl)) (fun w' hS => ?_)
  exact ⟨(by rw [← wsub ha hb] <;> rfl), hS.pick [] _ rfl (by decide)⟩

end Go.Proofs.Ytcpdelkamckmfaa.Frac
