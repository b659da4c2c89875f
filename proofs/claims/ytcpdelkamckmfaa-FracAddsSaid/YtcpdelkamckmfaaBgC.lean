/- The Int library by the engine: SetInt64, NewInt. A number is a header block and a slice of its own for the digits; T is whatever else is held. -/
import Derived.Test.YtcpdelkamckmfaaBgB
namespace Go.Proofs.Ytcpdelkamckmfaa.Big
open Go.RowKit Go.Proofs.Ytcpdelkamckmfaa.E

theorem neg_nm {q : Nm} {u : Int} (h : q.is u) (hu : 0 < u) : (⟨true, q.A, q.n, q.c, q.ds⟩ : Nm).is (-u) := by
  have h0 := dval_nonneg h.dig
  have hv := h.val
  have hn : q.neg = false := by
    cases hn : q.neg
    · rfl
    · rw [hn] at hv
      simp [sg] at hv
      omega
  rw [hn] at hv
  simp [sg] at hv
  refine ⟨h.len, h.cap, h.dig, h.trim, fun _ e => ?_, by simp [sg]; omega⟩
  dsimp only at e
  rw [e] at hv
  simp [dval] at hv
  omega
theorem wrap_neg {v : Int} (h0 : -9223372036854775808 ≤ v) (h1 : v < 0) : IntKind.u64.wrap (-(IntKind.u64.wrap v)) = -v := by
  simp only [IntKind.wrap, IntKind.signed, IntKind.bits]
  simp
  omega

set_option maxRecDepth 100000 in
set_option maxHeartbeats 1000000 in
theorem setiE {w0 w : World} {T : List Res} (b : Nat) (q : Nm) (hS : St w0 w (q.h b :: q.d :: T)) (v : Int) (h0 : -9223372036854775808 ≤ v) (h1 : v ≤ 9223372036854775807) :
    Calls Try.prog 166 #[.pointer (some ⟨b, 0, none⟩), .int .i64 v] w fun e w' => ∃ q' : Nm, q'.is v ∧ e = .returned (.pointer (some ⟨b, 0, none⟩)) ∧ St w0 w' (q'.h b :: q'.d :: T) := by
  refine calls_tr Try.func166 Try.ntmps166 rfl rfl hS ?_
  refine tr_seq ?_
  refine tr_region ?_
  refine tl_step rfl (oj_val (y_assign fe_c) ?_)
  refine tl_nil ?_
  refine tx_then ?_
  refine tr_seq ?_
  refine tr_seq ?_
  refine tr_region ?_
  refine tl_step rfl (oj_val (y_move (fe_t rfl)) ?_)
  refine tl_step rfl (oj_val (y_lss (fe_t rfl) fe_c) ?_)
  refine tl_nil ?_
  refine tx_then ?_
  refine tr_condp (fe_t rfl) (fun hq1 => ?_) (fun hq2 => ?_)
  · refine tr_seq ?_
    refine tr_region ?_
    refine tl_step rfl (oj_val (y_move (fe_t rfl)) ?_)
    refine tl_step rfl (oj_val (y_move (fe_t rfl)) ?_)
    refine tl_step rfl (oj_val (y_conv Try.underlying2 Try.underlying41 (fe_t rfl)) ?_)
    refine tl_step rfl (oj_val (y_as (y_negk (fe_t rfl)) (wrap_neg h0 (by omega))) ?_)
    refine tl_step rfl (oj_call2 Try.call116 fe_f (fel_cons (fe_t rfl) (fel_cons (fe_t rfl) fel_nil)) (fun w' hS => setuE b q hS (-v) (by omega) (by omega)) (fun q1 hq1 => ?_))
    refine tl_nil ?_
    refine tx_then ?_
    refine tr_seq ?_
    refine tr_region ?_
    refine tl_step rfl (oj_val (y_move (fe_t rfl)) ?_)
    refine tl_step rfl (oj_val (y_nilCheck (fe_t rfl)) ?_)
    refine tl_step rfl (oj_val (y_fieldAddr (td := 4) Try.underlying35 rfl rfl Try.sizeOf4 (o' := 0) rfl (fe_t rfl)) ?_)
    refine tl_step rfl (oj_store1 0 Try.sizeOf4 (fe_t rfl) fe_c rfl rfl rfl rfl (?_))
    refine tl_nil ?_
    refine tx_then ?_
    refine tr_seq ?_
    refine tr_region ?_
    refine tl_step rfl (oj_val (y_move (fe_t rfl)) ?_)
    refine tl_step rfl (oj_val (y_assign (fe_t rfl)) ?_)
    refine tl_nil ?_
    refine tx_then ?_
    refine tr_ret ?_
    refine tx_then_ret ?_
    refine tx_ret (res1 Try.results166 (rok_t rfl)) (fun w' hS => ?_)
    have hq2 := neg_nm hq1 (by omega)
    rw [Int.neg_neg] at hq2
    exact ⟨_, hq2, rfl, hS⟩
  · refine tr_skip ?_
    refine tx_then ?_
    refine tr_seq ?_
    refine tr_region ?_
    refine tl_step rfl (oj_val (y_move (fe_t rfl)) ?_)
    refine tl_step rfl (oj_val (y_move (fe_t rfl)) ?_)
    refine tl_step rfl (oj_val (y_convi Try.underlying2 Try.underlying41 (fe_t rfl) (IntWalk.u64_in _ (by omega))) ?_)
    refine tl_step rfl (oj_call2 Try.call116 fe_f (fel_cons (fe_t rfl) (fel_cons (fe_t rfl) fel_nil)) (fun w' hS => setuE b q hS (v) (by omega) (by omega)) (fun q1 hq1 => ?_))
    refine tl_step rfl (oj_val (y_assign (fe_t rfl)) ?_)
    refine tl_nil ?_
    refine tx_then ?_
    refine tr_ret ?_
    refine tx_ret (res1 Try.results166 (rok_t rfl)) (fun w' hS => ?_)
    exact ⟨q1, hq1, rfl, hS⟩

set_option maxRecDepth 100000 in
set_option maxHeartbeats 1000000 in
theorem newE {w0 w : World} {T : List Res} (hS : St w0 w T) (v : Int) (h0 : -9223372036854775808 ≤ v) (h1 : v ≤ 9223372036854775807) :
    Calls Try.prog 111 #[.int .i64 v] w fun e w' => ∃ p : Nat × Nm, p.2.is v ∧ e = .returned (.pointer (some ⟨p.1, 0, none⟩)) ∧ St w0 w' (p.2.h p.1 :: p.2.d :: T) := by
  refine calls_tr Try.func111 Try.ntmps111 rfl rfl hS ?_
  refine tr_seq ?_
  refine tr_region ?_
  refine tl_step rfl (oj_val (y_assign fe_c) ?_)
  refine tl_nil ?_
  refine tx_then ?_
  refine tr_seq ?_
  refine tr_region ?_
  refine tl_add (r := dig none 0 0 []) vec_nil rfl ?_
  refine tl_step rfl (oj_alloc Try.zeroValue35 (fun b => ?_))
  refine tl_step rfl (oj_val (y_move (fe_t rfl)) ?_)
  refine tl_step rfl (oj_call2 Try.call166 fe_f (fel_cons (fe_t rfl) (fel_cons (fe_t rfl) fel_nil)) (fun w' hS => setiE b ⟨false, none, 0, 0, []⟩ hS v h0 h1) (fun q1 hq1 => ?_))
  refine tl_step rfl (oj_val (y_assign (fe_t rfl)) ?_)
  refine tl_nil ?_
  refine tx_then ?_
  refine tr_ret ?_
  refine tx_ret (res1 Try.results111 (rok_t rfl)) (fun w' hS => ?_)
  exact ⟨(b, q1), hq1, rfl, hS⟩

end Go.Proofs.Ytcpdelkamckmfaa.Big
