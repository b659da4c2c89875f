/- WideAdds: for every input the law returns true, and its arguments read afterwards as they did. No condition. -/
import Derived.Test.YtcpdelkamckmfaaWideAddsW
import Derived.Test.YtcpdelkamckmfaaFrame
namespace Go.Proofs.Ytcpdelkamckmfaa.WideAdds
open Go.RowKit Go.ChangeShapes Go.WideShapes Go.ChangeAt

set_option maxRecDepth 100000 in
theorem lifted (os : Os) (started : os.Started) (H : Type) (enc : TypeId × Value → H) :
    ReturnsInHanded {} Try.checked os 5 .any (Rows.wideAddsSpec.pre6 enc Try.prog Try.f5 Rows.wideAddsRow.domain false) (Rows.wideAddsSpec.post enc Try.prog Try.f5 false true false false) := by
  refine returnsInHanded_of_change_sized (C := Try.checked) own started (by kernel_rfl) Try.func5
    (ChangeSpec.witness6 (enc := enc) (C := Try.checked) false ⟨#[], #[.agg #[.int .u64 0, .int .u64 0], .agg #[.int .u64 0, .int .u64 0]], []⟩ 8 (by kernel_rfl) (by kernel_rfl) (by kernel_rfl) (by kernel_rfl)) ?_
  intro W base args ds gs before hval0 hW _ hsz0 _
  have hval : ∀ (j : Nat) t v, Try.f5.params[j]? = some t → args[j]? = some v → Value.okWide Try.prog W .any base t v := hval0
  have hsz : (DataW.weightsEach Try.prog (Try.f5.params.toList ++ Rows.wideAddsSpec.plain.varTypes Try.prog) (ds ++ gs)).all (· ≤ reachBytes) = true := hsz0
  have hW' := hW
  obtain ⟨p, q, hA0, hV, rfl, hfz, hnd⟩ := hW
  have hA : DataW.TrodAll enc Try.prog W 0 (fun _ => true) true Try.f5.params.toList args.toList ds p := hA0
  rw [Try.params5] at hA hval hsz
  obtain ⟨v0, vs0, d0, ds0, p0, q0, hargs, rfl, rfl, h0, k0⟩ := trodAll_cons hA
  obtain ⟨v1, vs1, d1, ds1, p1, q1, rfl, rfl, rfl, h1, k1⟩ := trodAll_cons k0
  obtain ⟨rfl, rfl, rfl⟩ := trodAll_nil k1
  obtain rfl : args = #[v0, v1] := by cases args; simp_all
  obtain ⟨rfl, rfl⟩ := trodVars_none hV
  obtain ⟨s0, hsz⟩ := weights_cons hsz
  obtain ⟨s1, hsz⟩ := weights_cons hsz
  clear hA0 hval0
  obtain ⟨zs0, hl0, rfl, hw0⟩ := arg_st (ks := [.u64, .u64]) Try.underlying54 (by kernel_rfl) (by kernel_rfl) (hval 0 54 v0 rfl rfl) h0
  obtain ⟨x0_0, x0_1, rfl⟩ := list_2 hl0
  have wx0_0 := bounds_u64 (hw0 0 _ _ rfl rfl)
  have wx0_1 := bounds_u64 (hw0 1 _ _ rfl rfl)
  obtain ⟨zs1, hl1, rfl, hw1⟩ := arg_st (ks := [.u64, .u64]) Try.underlying54 (by kernel_rfl) (by kernel_rfl) (hval 1 54 v1 rfl rfl) h1
  obtain ⟨x1_0, x1_1, rfl⟩ := list_2 hl1
  have wx1_0 := bounds_u64 (hw1 0 _ _ rfl rfl)
  have wx1_1 := bounds_u64 (hw1 1 _ _ rfl rfl)
  refine (walk x0_0 x0_1 x1_0 x1_1 W wx0_0.1 wx0_0.2 wx0_1.1 wx0_1.2 wx1_0.1 wx1_0.2 wx1_1.1 wx1_1.2).mono fun e W' ⟨he, bel⟩ => ?_
  subst he
  exact ⟨_, rfl, law_post laidOut (of_decide_eq_true (by kernel_rfl)) rfl rfl Try.underlying4 hW' rfl bel⟩

theorem over : Rows.wideAddsRow.holds Try.pinned (OpenSpec.ofChange Rows.wideAddsSpec) :=
  OpenClaim.holds_of_wide 5 Try.f5 rfl rfl rfl rfl rfl rfl rfl ⟨rfl, rfl, rfl, rfl, rfl⟩ rfl rfl rfl rfl rfl (by kernel_rfl) Try.func5 (by kernel_rfl)
    (of_decide_eq_true (by kernel_rfl)) (by unfold Func.isWrapper; first | (rw [if_pos (by decide +kernel)]; kernel_rfl) | (rw [if_neg (by decide +kernel)]; exact ⟨rfl, rfl⟩))
    (fun os started H enc _ => lifted os started H enc)
end Go.Proofs.Ytcpdelkamckmfaa.WideAdds

namespace Go.Proofs.Ytcpdelkamckmfaa
theorem wideAdds_holds : Rows.WideAddsSaid := WideAdds.over
end Go.Proofs.Ytcpdelkamckmfaa
