/- Fractions of small numbers: Right. -/
import Derived.Test.YtcpdelkamckmfaaBV
namespace Go.Proofs.Ytcpdelkamckmfaa.Frac
open Go.RowKit Go.Proofs.Ytcpdelkamckmfaa.E Go.Proofs.Ytcpdelkamckmfaa.Big

def bright (n d : Int) : Bool := decide (0 < d ∧ d ≤ 1073741824 ∧ n ≤ 1073741824 ∧ -1073741824 ≤ n)
theorem bright_iff {n d : Int} : bright n d = true ↔ 0 < d ∧ d ≤ 1073741824 ∧ n ≤ 1073741824 ∧ -1073741824 ≤ n := by simp [bright]
/-- In lowest terms, if that is small enough. -/
def lo (n d : Int) : Int × Int × Int := if bright (n.tdiv (Int.gcd n d : Int)) (d.tdiv (Int.gcd n d : Int)) then (n.tdiv (Int.gcd n d : Int), d.tdiv (Int.gcd n d : Int), 0) else (0, 0, 4)
def cmpv (n d n' d' : Int) : Int := if n * d' < n' * d then -1 else if n' * d < n * d' then 1 else 0
theorem tdiv_bd {a : Int} (b : Int) : (a.tdiv b).natAbs ≤ a.natAbs := by
  have h : (a.tdiv b).natAbs = a.natAbs / b.natAbs := Int.natAbs_tdiv a b
  rw [h]; exact Nat.div_le_self _ _
theorem tmod_bd {a b : Int} (hb : b ≠ 0) : (a.tmod b).natAbs < b.natAbs := by
  have h : (a.tmod b).natAbs = a.natAbs % b.natAbs := Int.natAbs_tmod a b
  rw [h]; exact Nat.mod_lt _ (by omega)
theorem gcd_tmod (a b : Int) : Int.gcd b (a.tmod b) = Int.gcd a b := by
  have h : (a.tmod b).natAbs = a.natAbs % b.natAbs := Int.natAbs_tmod a b
  unfold Int.gcd
  rw [h, Nat.gcd_comm b.natAbs, ← Nat.gcd_rec, Nat.gcd_comm]
section
variable {P : Program} {N : Nat} {w0 : World} {F : Frm} {L : List Res} {d : Option Tmp} {x y : Operand} {ty t t' : TypeId} {pos : String} {af : Array Edge} {gd : Option (Nat × Bool)} {k : IntKind} {a b : Int}
theorem y_remt (hx : FE N F x (.int k a)) (hy : FE N F y (.int k b)) (h : b ≠ 0) : Yld P N w0 F L ⟨d, .binOp .rem t x y t', ty, pos, af, gd⟩ (.int k (a.tmod b)) := fun c w hF _ => by
  simp [execOp, hx c hF, hy c hF, eqGuard, binOp, Op.intDiv, h]
theorem y_quot (hx : FE N F x (.int .i64 a)) (hy : FE N F y (.int .i64 b)) (h : b ≠ 0) (h' : -9223372036854775808 < a ∧ a ≤ 9223372036854775807) : Yld P N w0 F L ⟨d, .binOp .quo t x y t', ty, pos, af, gd⟩ (.int .i64 (a.tdiv b)) := fun c w hF _ => by
  have h2 := tdiv_bd (a := a) b
  have h5 : IntKind.i64.wrap (a.tdiv b) = a.tdiv b := IntWalk.i64_in _ (by omega)
  simp [execOp, hx c hF, hy c hF, eqGuard, binOp, Op.intDiv, h, h5]
end
theorem prod_bd {a b A B : Int} (h0 : -A ≤ a) (h1 : a ≤ A) (h2 : -B ≤ b) (h3 : b ≤ B) : -(A * B) ≤ a * b ∧ a * b ≤ A * B := by
  have ha : 0 ≤ A := by omega
  have hb : 0 ≤ B := by omega
  have e : (a * b).natAbs = a.natAbs * b.natAbs := Int.natAbs_mul a b
  have f : a.natAbs * b.natAbs ≤ A.natAbs * B.natAbs := Nat.mul_le_mul (by omega) (by omega)
  have g : ((A.natAbs * B.natAbs : Nat) : Int) = A * B := by rw [Int.natCast_mul]; congr 1 <;> omega
  omega
/-- What is small enough, multiplied. -/
theorem bd4 {n d n' d' : Int} (ha : bright n d = true) (hb : bright n' d' = true) : (-1152921504606846976 ≤ n * d' ∧ n * d' ≤ 1152921504606846976) ∧ (-1152921504606846976 ≤ n' * d ∧ n' * d ≤ 1152921504606846976) ∧ (0 < d * d' ∧ d * d' ≤ 1152921504606846976) ∧ (-1152921504606846976 ≤ n * n' ∧ n * n' ≤ 1152921504606846976) := by
  obtain ⟨a1, a2, a3, a4⟩ := bright_iff.1 ha
  obtain ⟨b1, b2, b3, b4⟩ := bright_iff.1 hb
  refine ⟨?_, ?_, ⟨Int.mul_pos a1 b1, ?_⟩, ?_⟩
  · have := prod_bd (a := n) (b := d') (A := 1073741824) (B := 1073741824) (by omega) (by omega) (by omega) (by omega); omega
  · have := prod_bd (a := n') (b := d) (A := 1073741824) (B := 1073741824) (by omega) (by omega) (by omega) (by omega); omega
  · have := prod_bd (a := d) (b := d') (A := 1073741824) (B := 1073741824) (by omega) (by omega) (by omega) (by omega); omega
  · have := prod_bd (a := n) (b := n') (A := 1073741824) (B := 1073741824) (by omega) (by omega) (by omega) (by omega); omega

set_option maxRecDepth 100000 in
set_option maxHeartbeats 1000000 in
theorem rightE {n d : Int} {r : Bool} (h : bright n d = r) (w : World) :
    Calls Try.prog 18 #[.agg #[(.int .i64 n), (.int .i64 d)]] w fun e w' => e = .returned (.bool r) ∧ St w w' [] := by
  unfold bright at h
  refine calls_tr Try.func18 Try.ntmps18 rfl rfl (St.refl _) ?_
  refine tr_seq ?_
  refine tr_region ?_
  refine tl_step rfl (oj_box (fe_t rfl) (fun b1 => ?_))
  refine tl_step rfl (oj_val (y_assign fe_c) ?_)
  refine tl_nil ?_
  refine tx_then ?_
  refine tr_seq ?_
  refine tr_region ?_
  refine tl_step rfl (oj_val (y_fieldAddr (td := 3) Try.underlying23 rfl rfl Try.sizeOf3 (o' := 1) rfl (fe_t rfl)) ?_)
  refine tl_step rfl (oj_val (y_ldb 0 Try.isAgg3 (fe_t rfl) rfl rfl) ?_)
  refine tl_step rfl (oj_val (y_geq (fe_t rfl) fe_c) ?_)
  refine tl_step rfl (oj_val (y_move (fe_t rfl)) ?_)
  refine tl_splitp (d := 6) rfl (fun hq1 => ?_) (fun hq2 => ?_)
  · refine tl_want rfl rfl rfl (oj_val (y_fieldAddr (td := 3) Try.underlying23 rfl rfl Try.sizeOf3 (o' := 1) rfl (fe_t rfl)) ?_)
    refine tl_want rfl rfl rfl (oj_val (y_ldb 0 Try.isAgg3 (fe_t rfl) rfl rfl) ?_)
    refine tl_want rfl rfl rfl (oj_val (y_leq (fe_t rfl) fe_c) ?_)
    refine tl_step rfl (oj_val (y_pickt (fe_t rfl) (fe_t rfl)) ?_)
    refine tl_step rfl (oj_val (y_move (fe_t rfl)) ?_)
    refine tl_splitp (d := 11) rfl (fun hq3 => ?_) (fun hq4 => ?_)
    · refine tl_want rfl rfl rfl (oj_val (y_fieldAddr (td := 3) Try.underlying23 rfl rfl Try.sizeOf3 (o' := 0) rfl (fe_t rfl)) ?_)
      refine tl_want rfl rfl rfl (oj_val (y_ldb 0 Try.isAgg3 (fe_t rfl) rfl rfl) ?_)
      refine tl_want rfl rfl rfl (oj_val (y_geq (fe_t rfl) fe_c) ?_)
      refine tl_step rfl (oj_val (y_pickt (fe_t rfl) (fe_t rfl)) ?_)
      refine tl_step rfl (oj_val (y_move (fe_t rfl)) ?_)
      refine tl_splitp (d := 16) rfl (fun hq5 => ?_) (fun hq6 => ?_)
      · refine tl_want rfl rfl rfl (oj_val (y_fieldAddr (td := 3) Try.underlying23 rfl rfl Try.sizeOf3 (o' := 0) rfl (fe_t rfl)) ?_)
        refine tl_want rfl rfl rfl (oj_val (y_ldb 0 Try.isAgg3 (fe_t rfl) rfl rfl) ?_)
        refine tl_want rfl rfl rfl (oj_val (y_leq (fe_t rfl) fe_c) ?_)
        refine tl_step rfl (oj_val (y_pickt (fe_t rfl) (fe_t rfl)) ?_)
        refine tl_step rfl (oj_val (y_assign (fe_t rfl)) ?_)
        refine tl_nil ?_
        refine tx_then ?_
        refine tr_ret ?_
        refine tx_ret (res1 Try.results18 (rok_t rfl)) (fun w' hS => ?_)
        subst h
        exact ⟨ret_bool (by first | exact decide_eq_decide.2 (by omega) | exact (decide_eq_false (by omega)).symm | exact (decide_eq_true (by omega)).symm), hS.pick [] _ rfl (by decide)⟩
      · refine tl_skip rfl rfl rfl rfl ?_
        refine tl_skip rfl rfl rfl rfl ?_
        refine tl_skip rfl rfl rfl rfl ?_
        refine tl_step rfl (oj_val (y_pickf (fe_t rfl) fe_c) ?_)
        refine tl_step rfl (oj_val (y_assign (fe_t rfl)) ?_)
        refine tl_nil ?_
        refine tx_then ?_
        refine tr_ret ?_
        refine tx_ret (res1 Try.results18 (rok_t rfl)) (fun w' hS => ?_)
        subst h
        exact ⟨ret_bool (by first | exact decide_eq_decide.2 (by omega) | exact (decide_eq_false (by omega)).symm | exact (decide_eq_true (by omega)).symm), hS.pick [] _ rfl (by decide)⟩
    · refine tl_skip rfl rfl rfl rfl ?_
      refine tl_skip rfl rfl rfl rfl ?_
      refine tl_skip rfl rfl rfl rfl ?_
      refine tl_step rfl (oj_val (y_pickf (fe_t rfl) fe_c) ?_)
      refine tl_step rfl (oj_val (y_move (fe_t rfl)) ?_)
      refine tl_skip rfl rfl rfl rfl ?_
      refine tl_skip rfl rfl rfl rfl ?_
      refine tl_skip rfl rfl rfl rfl ?_
      refine tl_step rfl (oj_val (y_pickf (fe_t rfl) fe_c) ?_)
      refine tl_step rfl (oj_val (y_assign (fe_t rfl)) ?_)
      refine tl_nil ?_
      refine tx_then ?_
      refine tr_ret ?_
      refine tx_ret (res1 Try.results18 (rok_t rfl)) (fun w' hS => ?_)
      subst h
      exact ⟨ret_bool (by first | exact decide_eq_decide.2 (by omega) | exact (decide_eq_false (by omega)).symm | exact (decide_eq_true (by omega)).symm), hS.pick [] _ rfl (by decide)⟩
  · refine tl_skip rfl rfl rfl rfl ?_
    refine tl_skip rfl rfl rfl rfl ?_
    refine tl_skip rfl rfl rfl rfl ?_
    refine tl_step rfl (oj_val (y_pickf (fe_t rfl) fe_c) ?_)
    refine tl_step rfl (oj_val (y_move (fe_t rfl)) ?_)
    refine tl_skip rfl rfl rfl rfl ?_
    refine tl_skip rfl rfl rfl rfl ?_
    refine tl_skip rfl rfl rfl rfl ?_
    refine tl_step rfl (oj_val (y_pickf (fe_t rfl) fe_c) ?_)
    refine tl_step rfl (oj_val (y_move (fe_t rfl)) ?_)
    refine tl_skip rfl rfl rfl rfl ?_
    refine tl_skip rfl rfl rfl rfl ?_
    refine tl_skip rfl rfl rfl rfl ?_
    refine tl_step rfl (oj_val (y_pickf (fe_t rfl) fe_c) ?_)
    refine tl_step rfl (oj_val (y_assign (fe_t rfl)) ?_)
    refine tl_nil ?_
    refine tx_then ?_
    refine tr_ret ?_
    refine tx_ret (res1 Try.results18 (rok_t rfl)) (fun w' hS => ?_)
    subst h
    exact ⟨ret_bool (by first | exact decide_eq_decide.2 (by omega) | exact (decide_eq_false (by omega)).symm | exact (decide_eq_true (by omega)).symm), hS.pick [] _ rfl (by decide)⟩

set_option maxRecDepth 100000 in
set_option maxHeartbeats 1000000 in
theorem brightE {n d : Int} {r : Bool} (h : bright n d = r) (w : World) :
    Calls Try.prog 19 #[.agg #[(.int .i64 n), (.int .i64 d)]] w fun e w' => e = .returned (.bool r) ∧ St w w' [] := by
  unfold bright at h
  refine calls_tr Try.func19 Try.ntmps19 rfl rfl (St.refl _) ?_
  refine tr_seq ?_
  refine tr_region ?_
  refine tl_step rfl (oj_box (fe_t rfl) (fun b1 => ?_))
  refine tl_step rfl (oj_val (y_assign fe_c) ?_)
  refine tl_nil ?_
  refine tx_then ?_
  refine tr_seq ?_
  refine tr_region ?_
  refine tl_step rfl (oj_val (y_fieldAddr (td := 3) Try.underlying23 rfl rfl Try.sizeOf3 (o' := 1) rfl (fe_t rfl)) ?_)
  refine tl_step rfl (oj_val (y_ldb 0 Try.isAgg3 (fe_t rfl) rfl rfl) ?_)
  refine tl_step rfl (oj_val (y_gtr (fe_t rfl) fe_c) ?_)
  refine tl_step rfl (oj_val (y_move (fe_t rfl)) ?_)
  refine tl_splitp (d := 6) rfl (fun hq1 => ?_) (fun hq2 => ?_)
  · refine tl_want rfl rfl rfl (oj_val (y_fieldAddr (td := 3) Try.underlying23 rfl rfl Try.sizeOf3 (o' := 1) rfl (fe_t rfl)) ?_)
    refine tl_want rfl rfl rfl (oj_val (y_ldb 0 Try.isAgg3 (fe_t rfl) rfl rfl) ?_)
    refine tl_want rfl rfl rfl (oj_val (y_leq (fe_t rfl) fe_c) ?_)
    refine tl_step rfl (oj_val (y_pickt (fe_t rfl) (fe_t rfl)) ?_)
    refine tl_step rfl (oj_val (y_move (fe_t rfl)) ?_)
    refine tl_splitp (d := 11) rfl (fun hq3 => ?_) (fun hq4 => ?_)
    · refine tl_want rfl rfl rfl (oj_val (y_fieldAddr (td := 3) Try.underlying23 rfl rfl Try.sizeOf3 (o' := 0) rfl (fe_t rfl)) ?_)
      refine tl_want rfl rfl rfl (oj_val (y_ldb 0 Try.isAgg3 (fe_t rfl) rfl rfl) ?_)
      refine tl_want rfl rfl rfl (oj_val (y_leq (fe_t rfl) fe_c) ?_)
      refine tl_step rfl (oj_val (y_pickt (fe_t rfl) (fe_t rfl)) ?_)
      refine tl_step rfl (oj_val (y_move (fe_t rfl)) ?_)
      refine tl_splitp (d := 16) rfl (fun hq5 => ?_) (fun hq6 => ?_)
      · refine tl_want rfl rfl rfl (oj_val (y_fieldAddr (td := 3) Try.underlying23 rfl rfl Try.sizeOf3 (o' := 0) rfl (fe_t rfl)) ?_)
        refine tl_want rfl rfl rfl (oj_val (y_ldb 0 Try.isAgg3 (fe_t rfl) rfl rfl) ?_)
        refine tl_want rfl rfl rfl (oj_val (y_leq fe_c (fe_t rfl)) ?_)
        refine tl_step rfl (oj_val (y_pickt (fe_t rfl) (fe_t rfl)) ?_)
        refine tl_step rfl (oj_val (y_assign (fe_t rfl)) ?_)
        refine tl_nil ?_
        refine tx_then ?_
        refine tr_ret ?_
        refine tx_ret (res1 Try.results19 (rok_t rfl)) (fun w' hS => ?_)
        subst h
        exact ⟨ret_bool (by first | exact decide_eq_decide.2 (by omega) | exact (decide_eq_false (by omega)).symm | exact (decide_eq_true (by omega)).symm), hS.pick [] _ rfl (by decide)⟩
      · refine tl_skip rfl rfl rfl rfl ?_
        refine tl_skip rfl rfl rfl rfl ?_
        refine tl_skip rfl rfl rfl rfl ?_
        refine tl_step rfl (oj_val (y_pickf (fe_t rfl) fe_c) ?_)
        refine tl_step rfl (oj_val (y_assign (fe_t rfl)) ?_)
        refine tl_nil ?_
        refine tx_then ?_
        refine tr_ret ?_
        refine tx_ret (res1 Try.results19 (rok_t rfl)) (fun w' hS => ?_)
        subst h
        exact ⟨ret_bool (by first | exact decide_eq_decide.2 (by omega) | exact (decide_eq_false (by omega)).symm | exact (decide_eq_true (by omega)).symm), hS.pick [] _ rfl (by decide)⟩
    · refine tl_skip rfl rfl rfl rfl ?_
      refine tl_skip rfl rfl rfl rfl ?_
      refine tl_skip rfl rfl rfl rfl ?_
      refine tl_step rfl (oj_val (y_pickf (fe_t rfl) fe_c) ?_)
      refine tl_step rfl (oj_val (y_move (fe_t rfl)) ?_)
      refine tl_skip rfl rfl rfl rfl ?_
      refine tl_skip rfl rfl rfl rfl ?_
      refine tl_skip rfl rfl rfl rfl ?_
      refine tl_step rfl (oj_val (y_pickf (fe_t rfl) fe_c) ?_)
      refine tl_step rfl (oj_val (y_assign (fe_t rfl)) ?_)
      refine tl_nil ?_
      refine tx_then ?_
      refine tr_ret ?_
      refine tx_ret (res1 Try.results19 (rok_t rfl)) (fun w' hS => ?_)
      subst h
      exact ⟨ret_bool (by first | exact decide_eq_decide.2 (by omega) | exact (decide_eq_false (by omega)).symm | exact (decide_eq_true (by omega)).symm), hS.pick [] _ rfl (by decide)⟩
  · refine tl_skip rfl rfl rfl rfl ?_
    refine tl_skip rfl rfl rfl rfl ?_
    refine tl_skip rfl rfl rfl rfl ?_
    refine tl_step rfl (oj_val (y_pickf (fe_t rfl) fe_c) ?_)
    refine tl_step rfl (oj_val (y_move (fe_t rfl)) ?_)
    refine tl_skip rfl rfl rfl rfl ?_
    refine tl_skip rfl rfl rfl rfl ?_
    refine tl_skip rfl rfl rfl rfl ?_
    refine tl_step rfl (oj_val (y_pickf (fe_t rfl) fe_c) ?_)
    refine tl_step rfl (oj_val (y_move (fe_t rfl)) ?_)
    refine tl_skip rfl rfl rfl rfl ?_
    refine tl_skip rfl rfl rfl rfl ?_
    refine tl_skip rfl rfl rfl rfl ?_
    refine tl_step rfl (oj_val (y_pickf (fe_t rfl) fe_c) ?_)
    refine tl_step rfl (oj_val (y_assign (fe_t rfl)) ?_)
    refine tl_nil ?_
    refine tx_then ?_
    refine tr_ret ?_
    refine tx_ret (res1 Try.results19 (rok_t rfl)) (fun w' hS => ?_)
    subst h
    exact ⟨ret_bool (by first | exact decide_eq_decide.2 (by omega) | exact (decide_eq_false (by omega)).symm | exact (decide_eq_true (by omega)).symm), hS.pick [] _ rfl (by decide)⟩

end Go.Proofs.Ytcpdelkamckmfaa.Frac
