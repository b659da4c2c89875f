/- Walks: alive. -/
import Derived.Test.YtoibebmhfcjpfaaGreatDoorZfBnTc
namespace Go.Proofs.YtoibebmhfcjpfaaGreatDoor.Bn
open Go.RowKit Go.Lib Go.Proofs.YtoibebmhfcjpfaaGreatDoor.E Go.Proofs.YtoibebmhfcjpfaaGreatDoor.Pace Go.Proofs.YtoibebmhfcjpfaaGreatDoor.Bucket

set_option maxRecDepth 100000 in
theorem aliveE {w : World} (hw : Gw w) :
    Calls Tryz.prog 4 #[] w fun e w' => e = .returned (.bool true) ∧ St w w' [] := by
  refine calls_tr Tryz.func4 Tryz.ntmps4 rfl rfl (St.refl _) ?_
  refine tr_seq ?_
  refine tr_region ?_
  refine tl_step rfl (oj_val (y_assign fe_c) ?_)
  refine tl_nil ?_
  refine tx_then ?_
  refine tr_seq ?_
  refine tr_region ?_
  refine tl_step rfl (oj_call Tryz.call9 fe_f (fel_cons fe_c fel_nil) (fun w' hS => tellE (hw.st hS) aliveT alive_TOk) (fun r0 hr0 => ?_))
  refine tl_step rfl (oj_val (y_move (fe_t rfl)) ?_)
  refine tl_step rfl (oj_val (y_extract (fe_t rfl) rfl) ?_)
  refine tl_step rfl (oj_val (y_extract (fe_t rfl) rfl) ?_)
  refine tl_step rfl (oj_val (y_assign (fe_t rfl)) ?_)
  refine tl_step rfl (oj_val (y_assign (fe_t rfl)) ?_)
  refine tl_nil ?_
  refine tx_then ?_
  refine tr_seq ?_
  refine tr_region ?_
  refine tl_step rfl (oj_val (y_move (fe_t rfl)) ?_)
  refine tl_step rfl (oj_val (y_eq (fe_t rfl) fe_c) ?_)
  refine tl_step rfl (oj_val (y_move (fe_t rfl)) ?_)
  refine tl_splitp (d := 9) rfl (fun hq1 => ?_) (fun hq2 => ?_)
  · refine tl_want rfl rfl rfl (oj_val (y_move (fe_t rfl)) ?_)
    refine tl_want rfl rfl rfl (oj_lit4 Tryz.underlying39 Tryz.sizeOf9 Tryz.zeroValue9 rfl fe_c fe_c fe_c fe_c rfl rfl rfl rfl (fun g_lv => ?_))
    refine tl_want rfl rfl rfl (oj_callv Tryz.call10 fe_f (fel_cons (fe_t rfl) (fel_cons (fe_t rfl) fel_nil)) (fun w' hS => eqsE (ls := (tell aliveT).1) w' (rd_at hS 1 rfl) (rd_at hS 0 rfl) hr0.2 (by rw [alive_tell]; rfl) hr0.1 (by rw [alive_tell]; rfl) (by rw [hr0.1, alive_tell]; decide)) ?_)
    refine tl_step rfl (oj_val (y_pickt (fe_t rfl) (fe_t rfl)) ?_)
    refine tl_step rfl (oj_val (y_assign (fe_t rfl)) ?_)
    refine tl_nil ?_
    refine tx_then ?_
    refine tr_ret ?_
    refine tx_ret (res1 Tryz.results4 (rok_t rfl)) (fun w' hS => ?_)
    exact ⟨rfl, hS.pick [] _ rfl (by decide)⟩
  · exact absurd (by rw [alive_tell]) hq2

end Go.Proofs.YtoibebmhfcjpfaaGreatDoor.Bn
