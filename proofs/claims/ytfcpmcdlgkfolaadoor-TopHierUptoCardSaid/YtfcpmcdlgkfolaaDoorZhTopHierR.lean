/- Each leaf has its part, however many steps it is below: for all trees, bytes and numbers the law returns true, and its arguments read afterwards as they did. The row. -/
import Derived.Test.YtfcpmcdlgkfolaaDoorZhTopHierW
import Derived.Test.YtfcpmcdlgkfolaaDoorZhBnY
namespace Go.Proofs.YtfcpmcdlgkfolaaDoor.TopHier
open Go.RowKit Go.ChangeShapes Go.WideShapes Go.ChangeAt
open Go.ChangeMaps (open_string)

set_option maxRecDepth 100000 in
theorem lifted (os : Os) (started : os.Started) (H : Type) (enc : TypeId × Value → H) (F : Stop.Interp) :
    ReturnsInHanded {} Tryd.checked os 7 .any (fun w args => ((Rows.OpenSpec.upto Rows.topHierSpec).pre enc Tryd.prog Tryd.f7 Rows.topHierUptoRow.domain false w args ∧ laidMetH Tryd.prog Rows.topHierUptoRow.laid w) ∧ sizedMet enc Tryd.prog Tryd.f7 (Rows.OpenSpec.upto Rows.topHierSpec) false w args)
      (((Rows.OpenSpec.upto Rows.topHierSpec).at F).post enc Tryd.prog Tryd.f7 false true false false) := by
  refine ret_cond (C := Tryd.checked) (s := (Rows.OpenSpec.upto Rows.topHierSpec)) (k := Rows.uptoSmall) (X := fun w => laidMetH Tryd.prog Rows.topHierUptoRow.laid w) rfl laid_heap own started (by kernel_rfl) Tryd.func7
    (wit_cond (enc := enc) (C := Tryd.checked) (s := (Rows.OpenSpec.upto Rows.topHierSpec)) (k := Rows.uptoSmall) (X := fun w => laidMetH Tryd.prog Rows.topHierUptoRow.laid w) rfl (World.laidAll Tryd.prog os Rows.topHierUptoRow.laid) #[.slice none 0 0, .int .i64 0, .int .i64 0] 8 (World.laidAll_os _ _ _)
      (World.shaped_of_ZipB (by kernel_rfl) (by kernel_rfl)) (by kernel_rfl) (x := ([.nil, .lit (.int .i64 0), .lit (.int .i64 0)], [], [])) (by kernel_rfl) rfl (by kernel_rfl) (by kernel_rfl)
      (by rw [MakeChecks.laidMetH_plain _ _ _ (by kernel_rfl)]; exact laidMet_laidAll _ (by kernel_rfl) (by kernel_rfl))) ?_
  intro W base args ds gs before hval0 hW hk0 hsz0 hL hsh
  have hval : ∀ (j : Nat) t v, Tryd.f7.params[j]? = some t → args[j]? = some v → Value.okWide Tryd.prog W .any base t v := hval0
  have hsz : (DataW.weightsEach Tryd.prog (Tryd.f7.params.toList ++ Rows.topHierSpec.plain.varTypes Tryd.prog) (ds ++ gs)).all (· ≤ reachBytes) = true := hsz0
  have hW' := hW
  obtain ⟨p, q, hA0, hV, rfl, hfz, hnd⟩ := hW
  have hA : DataW.TrodAll enc Tryd.prog W 0 (fun _ => true) true Tryd.f7.params.toList args.toList ds p := hA0
  rw [Tryd.params7] at hA hval hsz
  obtain ⟨v0, vs0, d0, ds0, p0, q0, hargs, rfl, rfl, h0, k0⟩ := trodAll_cons hA
  obtain ⟨v1, vs1, d1, ds1, p1, q1, rfl, rfl, rfl, h1, k1⟩ := trodAll_cons k0
  obtain ⟨v2, vs2, d2, ds2, p2, q2, rfl, rfl, rfl, h2, k2⟩ := trodAll_cons k1
  obtain ⟨rfl, rfl, rfl⟩ := trodAll_nil k2
  obtain rfl : args = #[v0, v1, v2] := by cases args; simp_all
  obtain ⟨rfl, rfl⟩ := trodVars_none hV
  obtain ⟨s0, hsz⟩ := weights_cons hsz
  obtain ⟨s1, hsz⟩ := weights_cons hsz
  obtain ⟨s2, hsz⟩ := weights_cons hsz
  clear hA0 hval0
  obtain ⟨A0, n0, c0, rows0, rfl, lc0, l0, r0, w0, m0⟩ := arg_sts (e := 72) (ks := [.i64, .i64]) Tryd.underlying67 (by kernel_rfl) (by kernel_rfl) (by decide) (hval 0 67 v0 rfl rfl) h0 s0
  rw [show Tryd.prog.bytesOf 72 = 16 from by kernel_rfl] at m0
  have u0 : n0 ≤ 1048576 := Nat.le_trans (bulk_slice (q := 2) Tryd.underlying67 (show Tryd.prog.cellsOf 72 = 2 by kernel_rfl) (by decide) h0) (bulk_le hk0 (by simp))
  obtain ⟨z0, zl0, zr0, zw0⟩ := _root_.Go.Proofs.YtfcpmcdlgkfolaaDoor.rows2 (fun r hr => (w0 r hr).1)
  rw [zr0] at r0
  rw [l0] at zl0
  obtain ⟨a1, rfl, rfl, rfl, w1⟩ := open_int Tryd.underlying3 (hval 1 3 v1 rfl rfl) h1
  replace w1 := bounds_i64 w1
  obtain ⟨a2, rfl, rfl, rfl, w2⟩ := open_int Tryd.underlying3 (hval 2 3 v2 rfl rfl) h2
  replace w2 := bounds_i64 w2
  refine (Hier.hier_walk (gw_of hsh hL) A0 n0 c0 z0 a1 a2 r0 zl0 u0).mono fun e W' ⟨he, hS⟩ => ?_
  subst he
  exact ⟨_, rfl, law_post laidOut (of_decide_eq_true (by kernel_rfl)) rfl rfl Tryd.underlying4 hW' rfl hS.below⟩

theorem over : Rows.topHierUptoRow.holds Tryd.pinned ((Rows.OpenSpec.upto Rows.topHierSpec)) :=
  OpenClaim.holds_of_cond 7 Tryd.f7 rfl rfl rfl rfl rfl rfl rfl ⟨rfl, rfl, rfl, rfl, rfl⟩ rfl rfl rfl rfl rfl (by kernel_rfl) Tryd.func7 (by kernel_rfl)
    (of_decide_eq_true (by kernel_rfl)) (by unfold Func.isWrapper; first | (rw [if_pos (by decide +kernel)]; kernel_rfl) | (rw [if_neg (by decide +kernel)]; exact ⟨rfl, rfl⟩))
    (fun os started H enc _ F => lifted os started H enc F)
end Go.Proofs.YtfcpmcdlgkfolaaDoor.TopHier
