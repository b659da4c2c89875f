/- SketchCounts: for every input the law returns true, and its arguments read afterwards as they did. No condition. -/
import Derived.Test.YtcpdelkamckmfaaSketchCountsW
import Derived.Test.YtcpdelkamckmfaaFrame
import Derived.Test.YtcpdelkamckmfaaFrameS
namespace Go.Proofs.Ytcpdelkamckmfaa.SketchCounts
open Go.RowKit Go.ChangeShapes Go.WideShapes Go.ChangeAt

set_option maxRecDepth 100000 in
theorem lifted (os : Os) (started : os.Started) (H : Type) (enc : TypeId × Value → H) :
    ReturnsInHanded {} Try.checked os 8 .any (Rows.sketchCountsSpec.pre6 enc Try.prog Try.f8 Rows.sketchCountsRow.domain false) (Rows.sketchCountsSpec.post enc Try.prog Try.f8 false true false false) := by
  refine returnsInHanded_of_change_sized (C := Try.checked) own started (by kernel_rfl) Try.func8
    (ChangeSpec.witness6 (enc := enc) (C := Try.checked) false ⟨#[], #[.agg #[.int .i64 0, .int .i64 0, .slice none 0 0], .int .i64 0, .int .u64 0, .int .i64 0, .bool false], []⟩ 8 (by kernel_rfl) (by kernel_rfl) (by kernel_rfl) (by kernel_rfl)) ?_
  intro W base args ds gs before hval0 hW _ hsz0 _
  have hval : ∀ (j : Nat) t v, Try.f8.params[j]? = some t → args[j]? = some v → Value.okWide Try.prog W .any base t v := hval0
  have hsz : (DataW.weightsEach Try.prog (Try.f8.params.toList ++ Rows.sketchCountsSpec.plain.varTypes Try.prog) (ds ++ gs)).all (· ≤ reachBytes) = true := hsz0
  have hW' := hW
  obtain ⟨p, q, hA0, hV, rfl, hfz, hnd⟩ := hW
  have hA : DataW.TrodAll enc Try.prog W 0 (fun _ => true) true Try.f8.params.toList args.toList ds p := hA0
  rw [Try.params8] at hA hval hsz
  obtain ⟨v0, vs0, d0, ds0, p0, q0, hargs, rfl, rfl, h0, k0⟩ := trodAll_cons hA
  obtain ⟨v1, vs1, d1, ds1, p1, q1, rfl, rfl, rfl, h1, k1⟩ := trodAll_cons k0
  obtain ⟨v2, vs2, d2, ds2, p2, q2, rfl, rfl, rfl, h2, k2⟩ := trodAll_cons k1
  obtain ⟨v3, vs3, d3, ds3, p3, q3, rfl, rfl, rfl, h3, k3⟩ := trodAll_cons k2
  obtain ⟨v4, vs4, d4, ds4, p4, q4, rfl, rfl, rfl, h4, k4⟩ := trodAll_cons k3
  obtain ⟨rfl, rfl, rfl⟩ := trodAll_nil k4
  obtain rfl : args = #[v0, v1, v2, v3, v4] := by cases args; simp_all
  obtain ⟨rfl, rfl⟩ := trodVars_none hV
  obtain ⟨s0, hsz⟩ := weights_cons hsz
  obtain ⟨s1, hsz⟩ := weights_cons hsz
  obtain ⟨s2, hsz⟩ := weights_cons hsz
  obtain ⟨s3, hsz⟩ := weights_cons hsz
  obtain ⟨s4, hsz⟩ := weights_cons hsz
  clear hA0 hval0
  obtain ⟨x0_0, x0_1, A0, n0, c0, z0, rfl, wx0_0, wx0_1, lc0, r0, l0, w0, m0⟩ := arg_iis (e := 3) (sl := 79) Try.underlying3 Try.underlying79 (by kernel_rfl) Try.underlying81 (by kernel_rfl) (by kernel_rfl) (hval 0 81 v0 rfl rfl) h0 s0
  replace wx0_0 := bounds_i64 wx0_0
  replace wx0_1 := bounds_i64 wx0_1
  replace w0 : ∀ z ∈ z0, _ := fun z hz => bounds_i64 (w0 z hz)
  rw [show Try.prog.bytesOf 3 = 8 from by kernel_rfl] at m0
  obtain ⟨a1, rfl, rfl, rfl, w1⟩ := open_int Try.underlying3 (hval 1 3 v1 rfl rfl) h1
  replace w1 := bounds_i64 w1
  obtain ⟨a2, rfl, rfl, rfl, w2⟩ := open_int Try.underlying41 (hval 2 41 v2 rfl rfl) h2
  replace w2 := bounds_u64 w2
  obtain ⟨a3, rfl, rfl, rfl, w3⟩ := open_int Try.underlying3 (hval 3 3 v3 rfl rfl) h3
  replace w3 := bounds_i64 w3
  obtain ⟨a4, rfl, rfl, rfl⟩ := open_bool Try.underlying4 (hval 4 4 v4 rfl rfl) h4
  refine (walk x0_0 x0_1 A0 n0 c0 z0 a1 a2 a3 a4 W r0 l0 (by omega) w2.1 w2.2).mono fun e W' ⟨he, bel⟩ => ?_
  subst he
  exact ⟨_, rfl, law_post laidOut (of_decide_eq_true (by kernel_rfl)) rfl rfl Try.underlying4 hW' rfl bel⟩

theorem over : Rows.sketchCountsRow.holds Try.pinned (OpenSpec.ofChange Rows.sketchCountsSpec) :=
  OpenClaim.holds_of_wide 8 Try.f8 rfl rfl rfl rfl rfl rfl rfl ⟨rfl, rfl, rfl, rfl, rfl⟩ rfl rfl rfl rfl rfl (by kernel_rfl) Try.func8 (by kernel_rfl)
    (of_decide_eq_true (by kernel_rfl)) (by unfold Func.isWrapper; first | (rw [if_pos (by decide +kernel)]; kernel_rfl) | (rw [if_neg (by decide +kernel)]; exact ⟨rfl, rfl⟩))
    (fun os started H enc _ => lifted os started H enc)
end Go.Proofs.Ytcpdelkamckmfaa.SketchCounts

namespace Go.Proofs.Ytcpdelkamckmfaa
theorem sketchCounts_holds : Rows.SketchCountsSaid := SketchCounts.over
end Go.Proofs.Ytcpdelkamckmfaa
