/- A text is what it says: for every script of bulk at most 1048576 the law returns true, and its argument reads afterwards as it did. The row. -/
import Derived.Test.YtfcpmcdlgkfolaaDoorTopTextW
import Derived.Test.YtfcpmcdlgkfolaaDoorBnY
namespace Go.Proofs.YtfcpmcdlgkfolaaDoor.TopText
open Go.RowKit Go.ChangeShapes Go.WideShapes Go.ChangeAt
open Go.ChangeMaps (open_string)

set_option maxRecDepth 100000 in
theorem lifted (os : Os) (started : os.Started) (H : Type) (enc : TypeId × Value → H) (F : Stop.Interp) :
    ReturnsInHanded {} Tryd.checked os 5 .any (fun w args => ((Rows.OpenSpec.upto Rows.topTextSpec).pre enc Tryd.prog Tryd.f5 Rows.topTextUptoRow.domain false w args ∧ laidMetH Tryd.prog Rows.topTextUptoRow.laid w) ∧ sizedMet enc Tryd.prog Tryd.f5 (Rows.OpenSpec.upto Rows.topTextSpec) false w args)
      (((Rows.OpenSpec.upto Rows.topTextSpec).at F).post enc Tryd.prog Tryd.f5 false true false false) := by
  refine ret_cond (C := Tryd.checked) (s := (Rows.OpenSpec.upto Rows.topTextSpec)) (k := Rows.uptoSmall) (X := fun w => laidMetH Tryd.prog Rows.topTextUptoRow.laid w) rfl laid_heap own started (by kernel_rfl) Tryd.func5
    (wit_cond (enc := enc) (C := Tryd.checked) (s := (Rows.OpenSpec.upto Rows.topTextSpec)) (k := Rows.uptoSmall) (X := fun w => laidMetH Tryd.prog Rows.topTextUptoRow.laid w) rfl (World.laidAll Tryd.prog os Rows.topTextUptoRow.laid) #[.agg #[.int .i64 0, .int .i64 0, .int .i64 0, .slice none 0 0]] 8 (World.laidAll_os _ _ _)
      (World.shaped_of_ZipB (by kernel_rfl) (by kernel_rfl)) (by kernel_rfl) (x := ([.agg [.lit (.int .i64 0), .lit (.int .i64 0), .lit (.int .i64 0), .nil]], [], [])) (by kernel_rfl) rfl (by kernel_rfl) (by kernel_rfl)
      (by rw [MakeChecks.laidMetH_plain _ _ _ (by kernel_rfl)]; exact laidMet_laidAll _ (by kernel_rfl) (by kernel_rfl))) ?_
  intro W base args ds gs before hval0 hW hk0 hsz0 hL hsh
  have hval : ∀ (j : Nat) t v, Tryd.f5.params[j]? = some t → args[j]? = some v → Value.okWide Tryd.prog W .any base t v := hval0
  have hsz : (DataW.weightsEach Tryd.prog (Tryd.f5.params.toList ++ Rows.topTextSpec.plain.varTypes Tryd.prog) (ds ++ gs)).all (· ≤ reachBytes) = true := hsz0
  have hW' := hW
  obtain ⟨p, q, hA0, hV, rfl, hfz, hnd⟩ := hW
  have hA : DataW.TrodAll enc Tryd.prog W 0 (fun _ => true) true Tryd.f5.params.toList args.toList ds p := hA0
  rw [Tryd.params5] at hA hval hsz
  obtain ⟨v0, vs0, d0, ds0, p0, q0, hargs, rfl, rfl, h0, k0⟩ := trodAll_cons hA
  obtain ⟨rfl, rfl, rfl⟩ := trodAll_nil k0
  obtain rfl : args = #[v0] := by cases args; simp_all
  obtain ⟨rfl, rfl⟩ := trodVars_none hV
  obtain ⟨s0, hsz⟩ := weights_cons hsz
  clear hA0 hval0
  obtain ⟨a0, b0, c0, A0, n0, m0, rows0, rfl, wa0, wb0, wc0, lc0, l0, r0, w0, mm0⟩ := arg_iiis (e := 3) (ee := 52) (sl := 22) (ks := [.i64, .i64]) Tryd.underlying3 Tryd.underlying22 (by kernel_rfl) (by kernel_rfl) (by decide) Tryd.underlying24 (by kernel_rfl) (by kernel_rfl) (hval 0 24 v0 rfl rfl) h0 s0
  have u0 : n0 ≤ 1048576 := Nat.le_trans (script_bulk (e := 3) (ee := 52) (sl := 22) Tryd.underlying22 (by rw [show Tryd.prog.cellsOf 52 = 2 by kernel_rfl]; decide) Tryd.underlying24 (by kernel_rfl) h0) (bulk_le hk0 (by simp))
  obtain ⟨z0, zl0, zr0, zw0⟩ := _root_.Go.Proofs.YtfcpmcdlgkfolaaDoor.rows2 (fun r hr => (w0 r hr).1)
  rw [zr0] at r0
  have b0_ : ∀ s ∈ z0, (-9223372036854775808 ≤ s.1 ∧ s.1 ≤ 9223372036854775807) ∧ -9223372036854775808 ≤ s.2 ∧ s.2 ≤ 9223372036854775807 := fun s hs => ⟨bounds_i64 ((w0 _ (zw0 s hs)).2 0 _ _ rfl rfl), bounds_i64 ((w0 _ (zw0 s hs)).2 1 _ _ rfl rfl)⟩
  replace wa0 := bounds_i64 wa0
  replace wb0 := bounds_i64 wb0
  replace wc0 := bounds_i64 wc0
  refine (Bn.text_walk (gw_of hsh hL) a0 b0 c0 z0 A0 n0 m0 r0 (by omega) u0).mono fun e W' ⟨he, hS⟩ => ?_
  subst he
  exact ⟨_, rfl, law_post laidOut (of_decide_eq_true (by kernel_rfl)) rfl rfl Tryd.underlying4 hW' rfl hS.below⟩

theorem over : Rows.topTextUptoRow.holds Tryd.pinned ((Rows.OpenSpec.upto Rows.topTextSpec)) :=
  OpenClaim.holds_of_cond 5 Tryd.f5 rfl rfl rfl rfl rfl rfl rfl ⟨rfl, rfl, rfl, rfl, rfl⟩ rfl rfl rfl rfl rfl (by kernel_rfl) Tryd.func5 (by kernel_rfl)
    (of_decide_eq_true (by kernel_rfl)) (by unfold Func.isWrapper; first | (rw [if_pos (by decide +kernel)]; kernel_rfl) | (rw [if_neg (by decide +kernel)]; exact ⟨rfl, rfl⟩))
    (fun os started H enc _ F => lifted os started H enc F)
end Go.Proofs.YtfcpmcdlgkfolaaDoor.TopText
