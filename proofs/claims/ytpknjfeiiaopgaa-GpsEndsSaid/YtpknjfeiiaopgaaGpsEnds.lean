/- GpsEnds: for every input the law returns true, and its arguments read afterwards as they did. No condition. -/
import Derived.Test.YtpknjfeiiaopgaaGpsEndsW
import Derived.Test.YtpknjfeiiaopgaaFrame
namespace Go.Proofs.Ytpknjfeiiaopgaa.GpsEnds
open Go.RowKit Go.ChangeShapes Go.WideShapes Go.ChangeAt

set_option maxRecDepth 100000 in
theorem lifted (os : Os) (started : os.Started) (H : Type) (enc : TypeId × Value → H) :
    ReturnsInHanded {} Try.checked os 7 .any (Rows.gpsEndsSpec.pre6 enc Try.prog Try.f7 Rows.gpsEndsRow.domain false) (Rows.gpsEndsSpec.post enc Try.prog Try.f7 false true false false) := by
  refine returnsInHanded_of_change_sized (C := Try.checked) own started (by kernel_rfl) Try.func7
    (ChangeSpec.witness6 (enc := enc) (C := Try.checked) false ⟨#[], #[.slice none 0 0, .slice none 0 0], []⟩ 8 (by kernel_rfl) (by kernel_rfl) (by kernel_rfl) (by kernel_rfl)) ?_
  intro W base args ds gs before hval0 hW _ hsz0 _
  have hval : ∀ (j : Nat) t v, Try.f7.params[j]? = some t → args[j]? = some v → Value.okWide Try.prog W .any base t v := hval0
  have hsz : (DataW.weightsEach Try.prog (Try.f7.params.toList ++ Rows.gpsEndsSpec.plain.varTypes Try.prog) (ds ++ gs)).all (· ≤ reachBytes) = true := hsz0
  have hW' := hW
  obtain ⟨p, q, hA0, hV, rfl, hfz, hnd⟩ := hW
  have hA : DataW.TrodAll enc Try.prog W 0 (fun _ => true) true Try.f7.params.toList args.toList ds p := hA0
  rw [Try.params7] at hA hval hsz
  obtain ⟨v0, vs0, d0, ds0, p0, q0, hargs, rfl, rfl, h0, k0⟩ := trodAll_cons hA
  obtain ⟨v1, vs1, d1, ds1, p1, q1, rfl, rfl, rfl, h1, k1⟩ := trodAll_cons k0
  obtain ⟨rfl, rfl, rfl⟩ := trodAll_nil k1
  obtain rfl : args = #[v0, v1] := by cases args; simp_all
  obtain ⟨rfl, rfl⟩ := trodVars_none hV
  obtain ⟨s0, hsz⟩ := weights_cons hsz
  obtain ⟨s1, hsz⟩ := weights_cons hsz
  clear hA0 hval0
  obtain ⟨A0, n0, c0, z0, rfl, lc0, r0, l0, w0, m0⟩ := arg_ints Try.underlying27 Try.underlying3 (by kernel_rfl) (hval 0 27 v0 rfl rfl) h0 s0
  replace w0 : ∀ z ∈ z0, _ := fun z hz => bounds_i64 (w0 z hz)
  rw [show Try.prog.bytesOf 3 = 8 from by kernel_rfl] at m0
  obtain ⟨A1, n1, c1, z1, rfl, lc1, r1, l1, w1, m1⟩ := arg_ints Try.underlying27 Try.underlying3 (by kernel_rfl) (hval 1 27 v1 rfl rfl) h1 s1
  replace w1 : ∀ z ∈ z1, _ := fun z hz => bounds_i64 (w1 z hz)
  rw [show Try.prog.bytesOf 3 = 8 from by kernel_rfl] at m1
  refine (walk A0 n0 c0 z0 A1 n1 c1 z1 W r0 l0 (by omega) r1 l1 (by omega)).mono fun e W' ⟨he, bel⟩ => ?_
  subst he
  exact ⟨_, rfl, law_post laidOut (of_decide_eq_true (by kernel_rfl)) rfl rfl Try.underlying4 hW' rfl bel⟩

theorem over : Rows.gpsEndsRow.holds Try.pinned (OpenSpec.ofChange Rows.gpsEndsSpec) :=
  OpenClaim.holds_of_wide 7 Try.f7 rfl rfl rfl rfl rfl rfl rfl ⟨rfl, rfl, rfl, rfl, rfl⟩ rfl rfl rfl rfl rfl (by kernel_rfl) Try.func7 (by kernel_rfl)
    (of_decide_eq_true (by kernel_rfl)) (by unfold Func.isWrapper; first | (rw [if_pos (by decide +kernel)]; kernel_rfl) | (rw [if_neg (by decide +kernel)]; exact ⟨rfl, rfl⟩))
    (fun os started H enc _ => lifted os started H enc)
end Go.Proofs.Ytpknjfeiiaopgaa.GpsEnds

namespace Go.Proofs.Ytpknjfeiiaopgaa
theorem gpsEnds_holds : Rows.GpsEndsSaid := GpsEnds.over
end Go.Proofs.Ytpknjfeiiaopgaa
