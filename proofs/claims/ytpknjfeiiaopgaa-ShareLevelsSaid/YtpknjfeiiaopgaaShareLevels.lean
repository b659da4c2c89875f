/- ShareLevels: for every input the law returns true, and its arguments read afterwards as they did. No condition. -/
import Derived.Test.YtpknjfeiiaopgaaShareLevelsW
import Derived.Test.YtpknjfeiiaopgaaFrame
namespace Go.Proofs.Ytpknjfeiiaopgaa.ShareLevels
open Go.RowKit Go.ChangeShapes Go.WideShapes Go.ChangeAt

set_option maxRecDepth 100000 in
theorem lifted (os : Os) (started : os.Started) (H : Type) (enc : TypeId × Value → H) :
    ReturnsInHanded {} Try.checked os 8 .any (Rows.shareLevelsSpec.pre6 enc Try.prog Try.f8 Rows.shareLevelsRow.domain false) (Rows.shareLevelsSpec.post enc Try.prog Try.f8 false true false false) := by
  refine returnsInHanded_of_change_sized (C := Try.checked) own started (by kernel_rfl) Try.func8
    (ChangeSpec.witness6 (enc := enc) (C := Try.checked) false ⟨#[], #[.int .i64 0, .slice none 0 0, .slice none 0 0], []⟩ 8 (by kernel_rfl) (by kernel_rfl) (by kernel_rfl) (by kernel_rfl)) ?_
  intro W base args ds gs before hval0 hW _ hsz0 _
  have hval : ∀ (j : Nat) t v, Try.f8.params[j]? = some t → args[j]? = some v → Value.okWide Try.prog W .any base t v := hval0
  have hsz : (DataW.weightsEach Try.prog (Try.f8.params.toList ++ Rows.shareLevelsSpec.plain.varTypes Try.prog) (ds ++ gs)).all (· ≤ reachBytes) = true := hsz0
  have hW' := hW
  obtain ⟨p, q, hA0, hV, rfl, hfz, hnd⟩ := hW
  have hA : DataW.TrodAll enc Try.prog W 0 (fun _ => true) true Try.f8.params.toList args.toList ds p := hA0
  rw [Try.params8] at hA hval hsz
  obtain ⟨v0, vs0, d0, ds0, p0, q0, hargs, rfl, rfl, h0, k0⟩ := trodAll_cons hA
  obtain ⟨v1, vs1, d1, ds1, p1, q1, rfl, rfl, rfl, h1, k1⟩ := trodAll_cons k0
  obtain ⟨v2, vs2, d2, ds2, p2, q2, rfl, rfl, rfl, h2, k2⟩ := trodAll_cons k1
  obtain ⟨rfl, rfl, rfl⟩ := trodAll_nil k2
  obtain rfl : args = #[v0, v1, v2] := by cases args; simp_all
  obtain ⟨rfl, rfl⟩ := trodVars_none hV
  obtain ⟨s0, hsz⟩ := weights_cons hsz
  obtain ⟨s1, hsz⟩ := weights_cons hsz
  obtain ⟨s2, hsz⟩ := weights_cons hsz
  clear hA0 hval0
  obtain ⟨a0, rfl, rfl, rfl, w0⟩ := open_int Try.underlying3 (hval 0 3 v0 rfl rfl) h0
  replace w0 := bounds_i64 w0
  obtain ⟨A1, n1, c1, z1, rfl, lc1, r1, l1, w1, m1⟩ := arg_ints Try.underlying27 Try.underlying3 (by kernel_rfl) (hval 1 27 v1 rfl rfl) h1 s1
  replace w1 : ∀ z ∈ z1, _ := fun z hz => bounds_i64 (w1 z hz)
  rw [show Try.prog.bytesOf 3 = 8 from by kernel_rfl] at m1
  obtain ⟨A2, n2, c2, z2, rfl, lc2, r2, l2, w2, m2⟩ := arg_ints Try.underlying27 Try.underlying3 (by kernel_rfl) (hval 2 27 v2 rfl rfl) h2 s2
  replace w2 : ∀ z ∈ z2, _ := fun z hz => bounds_i64 (w2 z hz)
  rw [show Try.prog.bytesOf 3 = 8 from by kernel_rfl] at m2
  refine (walk a0 A1 n1 c1 z1 A2 n2 c2 z2 W r1 l1 (by omega) r2 l2 (by omega)).mono fun e W' ⟨he, bel⟩ => ?_
  subst he
  exact ⟨_, rfl, law_post laidOut (of_decide_eq_true (by kernel_rfl)) rfl rfl Try.underlying4 hW' rfl bel⟩

theorem over : Rows.shareLevelsRow.holds Try.pinned (OpenSpec.ofChange Rows.shareLevelsSpec) :=
  OpenClaim.holds_of_wide 8 Try.f8 rfl rfl rfl rfl rfl rfl rfl ⟨rfl, rfl, rfl, rfl, rfl⟩ rfl rfl rfl rfl rfl (by kernel_rfl) Try.func8 (by kernel_rfl)
    (of_decide_eq_true (by kernel_rfl)) (by unfold Func.isWrapper; first | (rw [if_pos (by decide +kernel)]; kernel_rfl) | (rw [if_neg (by decide +kernel)]; exact ⟨rfl, rfl⟩))
    (fun os started H enc _ => lifted os started H enc)
end Go.Proofs.Ytpknjfeiiaopgaa.ShareLevels

namespace Go.Proofs.Ytpknjfeiiaopgaa
theorem shareLevels_holds : Rows.ShareLevelsSaid := ShareLevels.over
end Go.Proofs.Ytpknjfeiiaopgaa
