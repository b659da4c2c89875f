/- RulesClass: for every input the law returns true, and its arguments read afterwards as they did. No condition. -/
import Derived.Test.YtadjbgdblfblbaaRulesClassZ
import Derived.Test.YtadjbgdblfblbaaFrame
namespace Go.Proofs.Ytadjbgdblfblbaa.RulesClass
open Go.RowKit Go.ChangeShapes Go.WideShapes Go.ChangeAt

set_option maxRecDepth 100000 in
theorem lifted (os : Os) (started : os.Started) (H : Type) (enc : TypeId × Value → H) :
    ReturnsInHanded {} Try.checked os 9 .any (Rows.rulesClassSpec.pre6 enc Try.prog Try.f9 Rows.rulesClassRow.domain false) (Rows.rulesClassSpec.post enc Try.prog Try.f9 false true false false) := by
  refine returnsInHanded_of_change_sized (C := Try.checked) own started (by kernel_rfl) Try.func9
    (ChangeSpec.witness6 (enc := enc) (C := Try.checked) false ⟨#[], #[.slice none 0 0, .agg #[.int .u8 0, .int .u8 0, .int .u8 0, .int .u8 0, .int .u8 0, .int .u8 0, .int .u8 0, .int .u8 0, .int .i64 0, .int .i64 0, .int .i64 0, .int .i64 0, .int .i64 0]], []⟩ 8 (by kernel_rfl) (by kernel_rfl) (by kernel_rfl) (by kernel_rfl)) ?_
  intro W base args ds gs before hval0 hW _ hsz0 _
  have hval : ∀ (j : Nat) t v, Try.f9.params[j]? = some t → args[j]? = some v → Value.okWide Try.prog W .any base t v := hval0
  have hsz : (DataW.weightsEach Try.prog (Try.f9.params.toList ++ Rows.rulesClassSpec.plain.varTypes Try.prog) (ds ++ gs)).all (· ≤ reachBytes) = true := hsz0
  have hW' := hW
  obtain ⟨p, q, hA0, hV, rfl, hfz, hnd⟩ := hW
  have hA : DataW.TrodAll enc Try.prog W 0 (fun _ => true) true Try.f9.params.toList args.toList ds p := hA0
  rw [Try.params9] at hA hval hsz
  obtain ⟨v0, vs0, d0, ds0, p0, q0, hargs, rfl, rfl, h0, k0⟩ := trodAll_cons hA
  obtain ⟨v1, vs1, d1, ds1, p1, q1, rfl, rfl, rfl, h1, k1⟩ := trodAll_cons k0
  obtain ⟨rfl, rfl, rfl⟩ := trodAll_nil k1
  obtain rfl : args = #[v0, v1] := by cases args; simp_all
  obtain ⟨rfl, rfl⟩ := trodVars_none hV
  obtain ⟨s0, hsz⟩ := weights_cons hsz
  obtain ⟨s1, hsz⟩ := weights_cons hsz
  clear hA0 hval0
  obtain ⟨A0, n0, c0, rows0, rfl, lc0, l0, r0, w0, m0⟩ := arg_sts (e := 92) (ks := [.u8, .u8, .u8, .u8, .u8, .u8, .u8, .u8, .i64, .i64, .i64, .i64, .i64, .i64]) Try.underlying84 (by kernel_rfl) (by kernel_rfl) (by decide) (hval 0 84 v0 rfl rfl) h0 s0
  rw [show Try.prog.bytesOf 92 = 56 from by kernel_rfl] at m0
  obtain ⟨zs1, hl1, rfl, hw1⟩ := arg_st (ks := [.u8, .u8, .u8, .u8, .u8, .u8, .u8, .u8, .i64, .i64, .i64, .i64, .i64]) Try.underlying87 (by kernel_rfl) (by kernel_rfl) (hval 1 87 v1 rfl rfl) h1
  obtain ⟨x1_0, x1_1, x1_2, x1_3, x1_4, x1_5, x1_6, x1_7, x1_8, x1_9, x1_10, x1_11, x1_12, rfl⟩ := list_13 hl1
  have wx1_0 := bounds_u8 (hw1 0 _ _ rfl rfl)
  have wx1_1 := bounds_u8 (hw1 1 _ _ rfl rfl)
  have wx1_2 := bounds_u8 (hw1 2 _ _ rfl rfl)
  have wx1_3 := bounds_u8 (hw1 3 _ _ rfl rfl)
  have wx1_4 := bounds_u8 (hw1 4 _ _ rfl rfl)
  have wx1_5 := bounds_u8 (hw1 5 _ _ rfl rfl)
  have wx1_6 := bounds_u8 (hw1 6 _ _ rfl rfl)
  have wx1_7 := bounds_u8 (hw1 7 _ _ rfl rfl)
  have wx1_8 := bounds_i64 (hw1 8 _ _ rfl rfl)
  have wx1_9 := bounds_i64 (hw1 9 _ _ rfl rfl)
  have wx1_10 := bounds_i64 (hw1 10 _ _ rfl rfl)
  have wx1_11 := bounds_i64 (hw1 11 _ _ rfl rfl)
  have wx1_12 := bounds_i64 (hw1 12 _ _ rfl rfl)
  refine (walkR A0 n0 c0 rows0 W r0 l0 (by omega) w0 ⟨x1_0, x1_1, x1_2, x1_3, x1_4, x1_5, x1_6, x1_7, x1_8, x1_9, x1_10, x1_11, x1_12⟩ ⟨⟨wx1_0, wx1_1, wx1_2, wx1_3⟩, wx1_4, wx1_5, wx1_6, wx1_7⟩).mono fun e W' ⟨he, bel⟩ => ?_
  subst he
  exact ⟨_, rfl, law_post laidOut (of_decide_eq_true (by kernel_rfl)) rfl rfl Try.underlying4 hW' rfl bel⟩

theorem over : Rows.rulesClassRow.holds Try.pinned (OpenSpec.ofChange Rows.rulesClassSpec) :=
  OpenClaim.holds_of_wide 9 Try.f9 rfl rfl rfl rfl rfl rfl rfl ⟨rfl, rfl, rfl, rfl, rfl⟩ rfl rfl rfl rfl rfl (by kernel_rfl) Try.func9 (by kernel_rfl)
    (of_decide_eq_true (by kernel_rfl)) (by unfold Func.isWrapper; first | (rw [if_pos (by decide +kernel)]; kernel_rfl) | (rw [if_neg (by decide +kernel)]; exact ⟨rfl, rfl⟩))
    (fun os started H enc _ => lifted os started H enc)
end Go.Proofs.Ytadjbgdblfblbaa.RulesClass

namespace Go.Proofs.Ytadjbgdblfblbaa
theorem rulesClass_holds : Rows.RulesClassSaid := RulesClass.over
end Go.Proofs.Ytadjbgdblfblbaa
