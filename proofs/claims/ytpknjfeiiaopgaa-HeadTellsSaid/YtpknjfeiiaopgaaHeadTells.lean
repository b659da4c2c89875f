/- HeadTells: for every input the law returns true, and its arguments read afterwards as they did. No condition. -/
import Derived.Test.YtpknjfeiiaopgaaHeadTellsW
import Derived.Test.YtpknjfeiiaopgaaFrame
namespace Go.Proofs.Ytpknjfeiiaopgaa.HeadTells
open Go.RowKit Go.ChangeShapes Go.WideShapes Go.ChangeAt

set_option maxRecDepth 100000 in
theorem lifted (os : Os) (started : os.Started) (H : Type) (enc : TypeId × Value → H) :
    ReturnsInHanded {} Try.checked os 4 .any (Rows.headTellsSpec.pre6 enc Try.prog Try.f4 Rows.headTellsRow.domain false) (Rows.headTellsSpec.post enc Try.prog Try.f4 false true false false) := by
  refine returnsInHanded_of_change_sized (C := Try.checked) own started (by kernel_rfl) Try.func4
    (ChangeSpec.witness6 (enc := enc) (C := Try.checked) false ⟨#[], #[.agg #[.int .u8 0, .int .u8 0, .int .u8 0, .int .u8 0, .int .u8 0, .int .u8 0, .int .u8 0, .int .u8 0, .int .i64 0, .int .i64 0, .int .i64 0, .int .i64 0, .int .i64 0], .slice none 0 0], []⟩ 8 (by kernel_rfl) (by kernel_rfl) (by kernel_rfl) (by kernel_rfl)) ?_
  intro W base args ds gs before hval0 hW _ hsz0 _
  have hval : ∀ (j : Nat) t v, Try.f4.params[j]? = some t → args[j]? = some v → Value.okWide Try.prog W .any base t v := hval0
  have hsz : (DataW.weightsEach Try.prog (Try.f4.params.toList ++ Rows.headTellsSpec.plain.varTypes Try.prog) (ds ++ gs)).all (· ≤ reachBytes) = true := hsz0
  have hW' := hW
  obtain ⟨p, q, hA0, hV, rfl, hfz, hnd⟩ := hW
  have hA : DataW.TrodAll enc Try.prog W 0 (fun _ => true) true Try.f4.params.toList args.toList ds p := hA0
  rw [Try.params4] at hA hval hsz
  obtain ⟨v0, vs0, d0, ds0, p0, q0, hargs, rfl, rfl, h0, k0⟩ := trodAll_cons hA
  obtain ⟨v1, vs1, d1, ds1, p1, q1, rfl, rfl, rfl, h1, k1⟩ := trodAll_cons k0
  obtain ⟨rfl, rfl, rfl⟩ := trodAll_nil k1
  obtain rfl : args = #[v0, v1] := by cases args; simp_all
  obtain ⟨rfl, rfl⟩ := trodVars_none hV
  obtain ⟨s0, hsz⟩ := weights_cons hsz
  obtain ⟨s1, hsz⟩ := weights_cons hsz
  clear hA0 hval0
  obtain ⟨zs0, hl0, rfl, hw0⟩ := arg_st (ks := [.u8, .u8, .u8, .u8, .u8, .u8, .u8, .u8, .i64, .i64, .i64, .i64, .i64]) Try.underlying38 (by kernel_rfl) (by kernel_rfl) (hval 0 38 v0 rfl rfl) h0
  obtain ⟨x0_0, x0_1, x0_2, x0_3, x0_4, x0_5, x0_6, x0_7, x0_8, x0_9, x0_10, x0_11, x0_12, rfl⟩ := list_13 hl0
  have wx0_0 := bounds_u8 (hw0 0 _ _ rfl rfl)
  have wx0_1 := bounds_u8 (hw0 1 _ _ rfl rfl)
  have wx0_2 := bounds_u8 (hw0 2 _ _ rfl rfl)
  have wx0_3 := bounds_u8 (hw0 3 _ _ rfl rfl)
  have wx0_4 := bounds_u8 (hw0 4 _ _ rfl rfl)
  have wx0_5 := bounds_u8 (hw0 5 _ _ rfl rfl)
  have wx0_6 := bounds_u8 (hw0 6 _ _ rfl rfl)
  have wx0_7 := bounds_u8 (hw0 7 _ _ rfl rfl)
  have wx0_8 := bounds_i64 (hw0 8 _ _ rfl rfl)
  have wx0_9 := bounds_i64 (hw0 9 _ _ rfl rfl)
  have wx0_10 := bounds_i64 (hw0 10 _ _ rfl rfl)
  have wx0_11 := bounds_i64 (hw0 11 _ _ rfl rfl)
  have wx0_12 := bounds_i64 (hw0 12 _ _ rfl rfl)
  obtain ⟨A1, n1, c1, z1, rfl, lc1, r1, l1, w1, m1⟩ := arg_ints Try.underlying39 Try.underlying5 (by kernel_rfl) (hval 1 39 v1 rfl rfl) h1 s1
  replace w1 : ∀ z ∈ z1, _ := fun z hz => bounds_u8 (w1 z hz)
  rw [show Try.prog.bytesOf 5 = 1 from by kernel_rfl] at m1
  refine (walk ⟨x0_0, x0_1, x0_2, x0_3, x0_4, x0_5, x0_6, x0_7, x0_8, x0_9, x0_10, x0_11, x0_12⟩ ⟨wx0_0, wx0_1, wx0_2, wx0_3, wx0_4, wx0_5, wx0_6, wx0_7⟩ A1 n1 c1 z1 W r1 l1 w1 (by omega) lc1).mono fun e W' ⟨he, bel⟩ => ?_
  subst he
  exact ⟨_, rfl, law_post laidOut (of_decide_eq_true (by kernel_rfl)) rfl rfl Try.underlying4 hW' rfl bel⟩

theorem over : Rows.headTellsRow.holds Try.pinned (OpenSpec.ofChange Rows.headTellsSpec) :=
  OpenClaim.holds_of_wide 4 Try.f4 rfl rfl rfl rfl rfl rfl rfl ⟨rfl, rfl, rfl, rfl, rfl⟩ rfl rfl rfl rfl rfl (by kernel_rfl) Try.func4 (by kernel_rfl)
    (of_decide_eq_true (by kernel_rfl)) (by unfold Func.isWrapper; first | (rw [if_pos (by decide +kernel)]; kernel_rfl) | (rw [if_neg (by decide +kernel)]; exact ⟨rfl, rfl⟩))
    (fun os started H enc _ => lifted os started H enc)
end Go.Proofs.Ytpknjfeiiaopgaa.HeadTells

namespace Go.Proofs.Ytpknjfeiiaopgaa
theorem headTells_holds : Rows.HeadTellsSaid := HeadTells.over
end Go.Proofs.Ytpknjfeiiaopgaa
