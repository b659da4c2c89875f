/- HeavyJoins: for every input the law returns true, and its arguments read afterwards as they did. No condition. -/
import Derived.Test.YtpknjfeiiaopgaaHeavyJoinsW
import Derived.Test.YtpknjfeiiaopgaaFrame
namespace Go.Proofs.Ytpknjfeiiaopgaa.HeavyJoins
open Go.RowKit Go.ChangeShapes Go.WideShapes Go.ChangeAt

set_option maxRecDepth 100000 in
theorem lifted (os : Os) (started : os.Started) (H : Type) (enc : TypeId × Value → H) :
    ReturnsInHanded {} Try.checked os 9 .any (Rows.heavyJoinsSpec.pre6 enc Try.prog Try.f9 Rows.heavyJoinsRow.domain false) (Rows.heavyJoinsSpec.post enc Try.prog Try.f9 false true false false) := by
  refine returnsInHanded_of_change_sized (C := Try.checked) own started (by kernel_rfl) Try.func9
    (ChangeSpec.witness6 (enc := enc) (C := Try.checked) false ⟨#[], #[.int .i64 0, .slice none 0 0, .slice none 0 0], []⟩ 8 (by kernel_rfl) (by kernel_rfl) (by kernel_rfl) (by kernel_rfl)) ?_
  intro W base args ds gs before hval0 hW _ hsz0 _
  have hval : ∀ (j : Nat) t v, Try.f9.params[j]? = some t → args[j]? = some v → Value.okWide Try.prog W .any base t v := hval0
  have hsz : (DataW.weightsEach Try.prog (Try.f9.params.toList ++ Rows.heavyJoinsSpec.plain.varTypes Try.prog) (ds ++ gs)).all (· ≤ reachBytes) = true := hsz0
  have hW' := hW
  obtain ⟨p, q, hA0, hV, rfl, hfz, hnd⟩ := hW
  have hA : DataW.TrodAll enc Try.prog W 0 (fun _ => true) true Try.f9.params.toList args.toList ds p := hA0
  rw [Try.params9] at hA hval hsz
  obtain ⟨v0, vs0, d0, ds0, p0, q0, hargs, rfl, rfl, h0, k0⟩ := trodAll_cons hA
  obtain ⟨v1, vs1, d1, ds1, p1, q1, rfl, rfl, rfl, h1, k1⟩ := trodAll_cons k0
  obtain ⟨v2, vs2, d2, ds2, p2, q2, rfl, rfl, rfl, h2, k2⟩ := trodAll_cons k1
  obtain ⟨rfl, rfl, rfl⟩ := trodAll_nil k2
  obtain rfl : args = #[v0, v1, v2] := by cases args; simp_all
  obtain ⟨rfl, rfl⟩ := trodVars_none hV
  obtain ⟨s0, hsz⟩ := weights_cons hsz
  obtain ⟨s1, hsz⟩ := weights_cons hsz
  obtain ⟨s2, hsz⟩ := weights_cons hsz
  clear hA0 hval0
  obtain ⟨a0, rfl, rfl, rfl, w0⟩ := open_int Try.underlying3 (hval 0 3 v0 rfl rfl) h0
  replace w0 := bounds_i64 w0
  obtain ⟨A1, n1, c1, rows1, rfl, lc1, l1, r1, w1, m1⟩ := arg_sts (e := 92) (ks := [.i64, .i64]) Try.underlying87 (by kernel_rfl) (by kernel_rfl) (by decide) (hval 1 87 v1 rfl rfl) h1 s1
  rw [show Try.prog.bytesOf 92 = 16 from by kernel_rfl] at m1
  obtain ⟨z1, zl1, zr1, zw1⟩ := _root_.Go.Proofs.Ytpknjfeiiaopgaa.rows2 (fun r hr => (w1 r hr).1)
  rw [zr1] at r1
  rw [l1] at zl1
  have b1 : ∀ s ∈ z1, (-9223372036854775808 ≤ s.1 ∧ s.1 ≤ 9223372036854775807) ∧ -9223372036854775808 ≤ s.2 ∧ s.2 ≤ 9223372036854775807 := fun s hs => ⟨bounds_i64 ((w1 _ (zw1 s hs)).2 0 _ _ rfl rfl), bounds_i64 ((w1 _ (zw1 s hs)).2 1 _ _ rfl rfl)⟩
  obtain ⟨A2, n2, c2, rows2, rfl, lc2, l2, r2, w2, m2⟩ := arg_sts (e := 92) (ks := [.i64, .i64]) Try.underlying87 (by kernel_rfl) (by kernel_rfl) (by decide) (hval 2 87 v2 rfl rfl) h2 s2
  rw [show Try.prog.bytesOf 92 = 16 from by kernel_rfl] at m2
  obtain ⟨z2, zl2, zr2, zw2⟩ := _root_.Go.Proofs.Ytpknjfeiiaopgaa.rows2 (fun r hr => (w2 r hr).1)
  rw [zr2] at r2
  rw [l2] at zl2
  have b2 : ∀ s ∈ z2, (-9223372036854775808 ≤ s.1 ∧ s.1 ≤ 9223372036854775807) ∧ -9223372036854775808 ≤ s.2 ∧ s.2 ≤ 9223372036854775807 := fun s hs => ⟨bounds_i64 ((w2 _ (zw2 s hs)).2 0 _ _ rfl rfl), bounds_i64 ((w2 _ (zw2 s hs)).2 1 _ _ rfl rfl)⟩
  refine (walk a0 A1 n1 c1 z1 A2 n2 c2 z2 W r1 zl1 (by omega) r2 zl2 (by omega)).mono fun e W' ⟨he, bel⟩ => ?_
  subst he
  exact ⟨_, rfl, law_post laidOut (of_decide_eq_true (by kernel_rfl)) rfl rfl Try.underlying4 hW' rfl bel⟩

theorem over : Rows.heavyJoinsRow.holds Try.pinned (OpenSpec.ofChange Rows.heavyJoinsSpec) :=
  OpenClaim.holds_of_wide 9 Try.f9 rfl rfl rfl rfl rfl rfl rfl ⟨rfl, rfl, rfl, rfl, rfl⟩ rfl rfl rfl rfl rfl (by kernel_rfl) Try.func9 (by kernel_rfl)
    (of_decide_eq_true (by kernel_rfl)) (by unfold Func.isWrapper; first | (rw [if_pos (by decide +kernel)]; kernel_rfl) | (rw [if_neg (by decide +kernel)]; exact ⟨rfl, rfl⟩))
    (fun os started H enc _ => lifted os started H enc)
end Go.Proofs.Ytpknjfeiiaopgaa.HeavyJoins

namespace Go.Proofs.Ytpknjfeiiaopgaa
theorem heavyJoins_holds : Rows.HeavyJoinsSaid := HeavyJoins.over
end Go.Proofs.Ytpknjfeiiaopgaa
