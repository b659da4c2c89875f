/- SketchJoins: for every input the law returns true, and its arguments read afterwards as they did. No condition. -/
import Derived.Test.YtdfjeoifeladfaaSketchJoinsW
import Derived.Test.YtdfjeoifeladfaaFrame
import Derived.Test.YtdfjeoifeladfaaFrameS
namespace Go.Proofs.Ytdfjeoifeladfaa.SketchJoins
open Go.RowKit Go.ChangeShapes Go.WideShapes Go.ChangeAt

set_option maxRecDepth 100000 in
theorem lifted (os : Os) (started : os.Started) (H : Type) (enc : TypeId × Value → H) :
    ReturnsInHanded {} Try.checked os 4 .any (Rows.sketchJoinsSpec.pre6 enc Try.prog Try.f4 Rows.sketchJoinsRow.domain false) (Rows.sketchJoinsSpec.post enc Try.prog Try.f4 false true false false) := by
  refine returnsInHanded_of_change_sized (C := Try.checked) own started (by kernel_rfl) Try.func4
    (ChangeSpec.witness6 (enc := enc) (C := Try.checked) false ⟨#[], #[.int .i64 0, .int .i64 0, .agg #[.int .i64 0, .int .i64 0, .slice none 0 0], .agg #[.int .i64 0, .int .i64 0, .slice none 0 0]], []⟩ 8 (by kernel_rfl) (by kernel_rfl) (by kernel_rfl) (by kernel_rfl)) ?_
  intro W base args ds gs before hval0 hW _ hsz0 _
  have hval : ∀ (j : Nat) t v, Try.f4.params[j]? = some t → args[j]? = some v → Value.okWide Try.prog W .any base t v := hval0
  have hsz : (DataW.weightsEach Try.prog (Try.f4.params.toList ++ Rows.sketchJoinsSpec.plain.varTypes Try.prog) (ds ++ gs)).all (· ≤ reachBytes) = true := hsz0
  have hW' := hW
  obtain ⟨p, q, hA0, hV, rfl, hfz, hnd⟩ := hW
  have hA : DataW.TrodAll enc Try.prog W 0 (fun _ => true) true Try.f4.params.toList args.toList ds p := hA0
  rw [Try.params4] at hA hval hsz
  obtain ⟨v0, vs0, d0, ds0, p0, q0, hargs, rfl, rfl, h0, k0⟩ := trodAll_cons hA
  obtain ⟨v1, vs1, d1, ds1, p1, q1, rfl, rfl, rfl, h1, k1⟩ := trodAll_cons k0
  obtain ⟨v2, vs2, d2, ds2, p2, q2, rfl, rfl, rfl, h2, k2⟩ := trodAll_cons k1
  obtain ⟨v3, vs3, d3, ds3, p3, q3, rfl, rfl, rfl, h3, k3⟩ := trodAll_cons k2
  obtain ⟨rfl, rfl, rfl⟩ := trodAll_nil k3
  obtain rfl : args = #[v0, v1, v2, v3] := by cases args; simp_all
  obtain ⟨rfl, rfl⟩ := trodVars_none hV
  obtain ⟨s0, hsz⟩ := weights_cons hsz
  obtain ⟨s1, hsz⟩ := weights_cons hsz
  obtain ⟨s2, hsz⟩ := weights_cons hsz
  obtain ⟨s3, hsz⟩ := weights_cons hsz
  clear hA0 hval0
  obtain ⟨a0, rfl, rfl, rfl, w0⟩ := open_int Try.underlying3 (hval 0 3 v0 rfl rfl) h0
  replace w0 := bounds_i64 w0
  obtain ⟨a1, rfl, rfl, rfl, w1⟩ := open_int Try.underlying3 (hval 1 3 v1 rfl rfl) h1
  replace w1 := bounds_i64 w1
  obtain ⟨x2_0, x2_1, A2, n2, c2, z2, rfl, wx2_0, wx2_1, lc2, r2, l2, w2, m2⟩ := arg_iis (e := 3) (sl := 31) Try.underlying3 Try.underlying31 (by kernel_rfl) Try.underlying33 (by kernel_rfl) (by kernel_rfl) (hval 2 33 v2 rfl rfl) h2 s2
  replace wx2_0 := bounds_i64 wx2_0
  replace wx2_1 := bounds_i64 wx2_1
  replace w2 : ∀ z ∈ z2, _ := fun z hz => bounds_i64 (w2 z hz)
  rw [show Try.prog.bytesOf 3 = 8 from by kernel_rfl] at m2
  obtain ⟨x3_0, x3_1, A3, n3, c3, z3, rfl, wx3_0, wx3_1, lc3, r3, l3, w3, m3⟩ := arg_iis (e := 3) (sl := 31) Try.underlying3 Try.underlying31 (by kernel_rfl) Try.underlying33 (by kernel_rfl) (by kernel_rfl) (hval 3 33 v3 rfl rfl) h3 s3
  replace wx3_0 := bounds_i64 wx3_0
  replace wx3_1 := bounds_i64 wx3_1
  replace w3 : ∀ z ∈ z3, _ := fun z hz => bounds_i64 (w3 z hz)
  rw [show Try.prog.bytesOf 3 = 8 from by kernel_rfl] at m3
  refine (walk a0 a1 x2_0 x2_1 x3_0 x3_1 A2 A3 n2 n3 c2 c3 z2 z3 W r2 r3 l2 l3 (by omega) (by omega)).mono fun e W' ⟨he, bel⟩ => ?_
  subst he
  exact ⟨_, rfl, law_post laidOut (of_decide_eq_true (by kernel_rfl)) rfl rfl Try.underlying4 hW' rfl bel⟩

theorem over : Rows.sketchJoinsRow.holds Try.pinned (OpenSpec.ofChange Rows.sketchJoinsSpec) :=
  OpenClaim.holds_of_wide 4 Try.f4 rfl rfl rfl rfl rfl rfl rfl ⟨rfl, rfl, rfl, rfl, rfl⟩ rfl rfl rfl rfl rfl (by kernel_rfl) Try.func4 (by kernel_rfl)
    (of_decide_eq_true (by kernel_rfl)) (by unfold Func.isWrapper; first | (rw [if_pos (by decide +kernel)]; kernel_rfl) | (rw [if_neg (by decide +kernel)]; exact ⟨rfl, rfl⟩))
    (fun os started H enc _ => lifted os started H enc)
end Go.Proofs.Ytdfjeoifeladfaa.SketchJoins

namespace Go.Proofs.Ytdfjeoifeladfaa
theorem sketchJoins_holds : Rows.SketchJoinsSaid := SketchJoins.over
end Go.Proofs.Ytdfjeoifeladfaa
