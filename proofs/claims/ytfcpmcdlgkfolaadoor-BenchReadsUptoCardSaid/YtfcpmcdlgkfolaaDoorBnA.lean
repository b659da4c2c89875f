/- Walks: a number. -/
import Derived.Test.YtfcpmcdlgkfolaaDoorBnK
namespace Go.Proofs.YtfcpmcdlgkfolaaDoor.Bn
open Go.RowKit Go.Lib Go.Proofs.YtfcpmcdlgkfolaaDoor.E

set_option maxRecDepth 100000 in
theorem numberE {w : World} (hw : Gw w) (l : List UInt8) (hl : l.length < 4294967281) :
    Calls Tryd.prog 68 #[str l] w fun e w' => ∃ q : Int × Bool, (q.2 = okNum l ∧ (q.2 = true → q.1 = (val l : Int))) ∧ e = .returned (.tuple #[(.int .i64 q.1), .bool q.2]) ∧ St w w' [] := by
  refine calls_tr Tryd.func68 Tryd.ntmps68 rfl rfl (St.refl _) ?_
  refine tr_seq ?_
  refine tr_region ?_
  refine tl_step rfl (oj_val (y_assign fe_c) ?_)
  refine tl_step rfl (oj_val (y_assign fe_c) ?_)
  refine tl_nil ?_
  refine tx_then ?_
  refine tr_seq ?_
  refine tr_region ?_
  refine tl_step rfl (oj_val (y_move (fe_t rfl)) ?_)
  refine tl_step rfl (oj_call Tryd.call95 fe_f (fel_cons (fe_t rfl) fel_nil) (fun w' hS => atoiE (hw.st hS) l hl) (fun q0 hq0 => ?_))
  refine tl_step rfl (oj_val (y_move (fe_t rfl)) ?_)
  refine tl_step rfl (oj_val (y_extract (fe_t rfl) rfl) ?_)
  refine tl_step rfl (oj_val (y_extract (fe_t rfl) rfl) ?_)
  refine tl_step rfl (oj_val (y_assign (fe_t rfl)) ?_)
  refine tl_step rfl (oj_val (y_assign (fe_t rfl)) ?_)
  refine tl_nil ?_
  refine tx_then ?_
  refine tr_seq ?_
  refine tr_region ?_
  refine tl_step rfl (oj_val (y_move (fe_t rfl)) ?_)
  refine tl_step rfl (oj_val (y_move (fe_t rfl)) ?_)
  refine tl_step rfl (oj_val (y_eqi Tryd.underlying100 (fe_t rfl) hq0.err) ?_)
  refine tl_step rfl (oj_val (y_move (fe_t rfl)) ?_)
  refine tl_split (d := 14) rfl (fun hq1 => ?_) (fun hq2 => ?_)
  · refine tl_want rfl rfl rfl (oj_val (y_move (fe_t rfl)) ?_)
    refine tl_want rfl rfl rfl (oj_val (y_geq (fe_t rfl) fe_c) ?_)
    refine tl_step rfl (oj_val (y_pickt (fe_t rfl) (fe_t rfl)) ?_)
    refine tl_step rfl (oj_val (y_move (fe_t rfl)) ?_)
    refine tl_splitp (d := 18) rfl (fun hq3 => ?_) (fun hq4 => ?_)
    · refine tl_want rfl rfl rfl (oj_val (y_move (fe_t rfl)) ?_)
      refine tl_want rfl rfl rfl (oj_val (y_leq (fe_t rfl) fe_c) ?_)
      refine tl_step rfl (oj_val (y_pickt (fe_t rfl) (fe_t rfl)) ?_)
      refine tl_step rfl (oj_val (y_move (fe_t rfl)) ?_)
      refine tl_splitp (d := 22) rfl (fun hq5 => ?_) (fun hq6 => ?_)
      · refine tl_want rfl rfl rfl (oj_val (y_move (fe_t rfl)) ?_)
        refine tl_want rfl rfl rfl (oj_callv Tryd.call20 fe_f (fel_cons (fe_t rfl) fel_nil) (fun w' hS => itoaE (hw.st hS) q0.1 (by omega) (by omega)) ?_)
        refine tl_want rfl rfl rfl (oj_val (y_move (fe_t rfl)) ?_)
        refine tl_want rfl rfl rfl (oj_val (y_eqs (fe_t rfl) (fe_t rfl)) ?_)
        refine tl_step rfl (oj_val (y_pickt (fe_t rfl) (fe_t rfl)) ?_)
        refine tl_step rfl (oj_val (y_assign (fe_t rfl)) ?_)
        refine tl_step rfl (oj_val (y_assign (fe_t rfl)) ?_)
        refine tl_nil ?_
        refine tx_then ?_
        refine tr_ret ?_
        refine tx_ret (res2 Tryd.results68 (rok_t rfl) (rok_t rfl)) (fun w' hS => ?_)
        exact ⟨(q0.1, _), hq0.num ‹_› ‹_› ‹_›, rfl, hS.pick [] _ rfl (by decide)⟩
      · refine tl_skip rfl rfl rfl rfl ?_
        refine tl_skip rfl rfl rfl rfl ?_
        refine tl_skip rfl rfl rfl rfl ?_
        refine tl_skip rfl rfl rfl rfl ?_
        refine tl_step rfl (oj_val (y_pickf (fe_t rfl) fe_c) ?_)
        refine tl_step rfl (oj_val (y_assign (fe_t rfl)) ?_)
        refine tl_step rfl (oj_val (y_assign (fe_t rfl)) ?_)
        refine tl_nil ?_
        refine tx_then ?_
        refine tr_ret ?_
        refine tx_ret (res2 Tryd.results68 (rok_t rfl) (rok_t rfl)) (fun w' hS => ?_)
        exact ⟨(q0.1, false), ⟨(hq0.no (.inr (.inr ‹_›))).symm, fun h => by cases h⟩, rfl, hS.pick [] _ rfl (by decide)⟩
    · refine tl_skip rfl rfl rfl rfl ?_
      refine tl_skip rfl rfl rfl rfl ?_
      refine tl_step rfl (oj_val (y_pickf (fe_t rfl) fe_c) ?_)
      refine tl_step rfl (oj_val (y_move (fe_t rfl)) ?_)
      refine tl_skip rfl rfl rfl rfl ?_
      refine tl_skip rfl rfl rfl rfl ?_
      refine tl_skip rfl rfl rfl rfl ?_
      refine tl_skip rfl rfl rfl rfl ?_
      refine tl_step rfl (oj_val (y_pickf (fe_t rfl) fe_c) ?_)
      refine tl_step rfl (oj_val (y_assign (fe_t rfl)) ?_)
      refine tl_step rfl (oj_val (y_assign (fe_t rfl)) ?_)
      refine tl_nil ?_
      refine tx_then ?_
      refine tr_ret ?_
      refine tx_ret (res2 Tryd.results68 (rok_t rfl) (rok_t rfl)) (fun w' hS => ?_)
      exact ⟨(q0.1, false), ⟨(hq0.no (.inr (.inl ‹_›))).symm, fun h => by cases h⟩, rfl, hS.pick [] _ rfl (by decide)⟩
  · refine tl_skip rfl rfl rfl rfl ?_
    refine tl_skip rfl rfl rfl rfl ?_
    refine tl_step rfl (oj_val (y_pickf (fe_t rfl) fe_c) ?_)
    refine tl_step rfl (oj_val (y_move (fe_t rfl)) ?_)
    refine tl_skip rfl rfl rfl rfl ?_
    refine tl_skip rfl rfl rfl rfl ?_
    refine tl_step rfl (oj_val (y_pickf (fe_t rfl) fe_c) ?_)
    refine tl_step rfl (oj_val (y_move (fe_t rfl)) ?_)
    refine tl_skip rfl rfl rfl rfl ?_
    refine tl_skip rfl rfl rfl rfl ?_
    refine tl_skip rfl rfl rfl rfl ?_
    refine tl_skip rfl rfl rfl rfl ?_
    refine tl_step rfl (oj_val (y_pickf (fe_t rfl) fe_c) ?_)
    refine tl_step rfl (oj_val (y_assign (fe_t rfl)) ?_)
    refine tl_step rfl (oj_val (y_assign (fe_t rfl)) ?_)
    refine tl_nil ?_
    refine tx_then ?_
    refine tr_ret ?_
    refine tx_ret (res2 Tryd.results68 (rok_t rfl) (rok_t rfl)) (fun w' hS => ?_)
    exact ⟨(q0.1, false), ⟨(hq0.no (.inl ‹_›)).symm, fun h => by cases h⟩, rfl, hS.pick [] _ rfl (by decide)⟩

end Go.Proofs.YtfcpmcdlgkfolaaDoor.Bn
