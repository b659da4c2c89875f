/- HierPlays: for every input the law returns true, and its arguments read afterwards as they did. No condition. -/
import Derived.Test.YtcpdelkamckmfaaHierPlaysW
import Derived.Test.YtcpdelkamckmfaaFrame
import Derived.Test.YtcpdelkamckmfaaFl3
namespace Go.Proofs.Ytcpdelkamckmfaa.HierPlays
open Go.RowKit Go.ChangeShapes Go.WideShapes Go.ChangeAt

set_option maxRecDepth 100000 in
theorem lifted (os : Os) (started : os.Started) (H : Type) (enc : TypeId × Value → H) :
    ReturnsInHanded {} Try.checked os 10 .any (Rows.hierPlaysSpec.pre6 enc Try.prog Try.f10 Rows.hierPlaysRow.domain false) (Rows.hierPlaysSpec.post enc Try.prog Try.f10 false true false false) := by
  refine returnsInHanded_of_change_sized (C := Try.checked) own started (by kernel_rfl) Try.func10
    (ChangeSpec.witness6 (enc := enc) (C := Try.checked) false ⟨#[], #[.slice none 0 0, .slice none 0 0], []⟩ 8 (by kernel_rfl) (by kernel_rfl) (by kernel_rfl) (by kernel_rfl)) ?_
  intro W base args ds gs before hval0 hW _ hsz0 _
  have hval : ∀ (j : Nat) t v, Try.f10.params[j]? = some t → args[j]? = some v → Value.okWide Try.prog W .any base t v := hval0
  have hsz : (DataW.weightsEach Try.prog (Try.f10.params.toList ++ Rows.hierPlaysSpec.plain.varTypes Try.prog) (ds ++ gs)).all (· ≤ reachBytes) = true := hsz0
  have hW' := hW
  obtain ⟨p, q, hA0, hV, rfl, hfz, hnd⟩ := hW
  have hA : DataW.TrodAll enc Try.prog W 0 (fun _ => true) true Try.f10.params.toList args.toList ds p := hA0
  rw [Try.params10] at hA hval hsz
  obtain ⟨v0, vs0, d0, ds0, p0, q0, hargs, rfl, rfl, h0, k0⟩ := trodAll_cons hA
  obtain ⟨v1, vs1, d1, ds1, p1, q1, rfl, rfl, rfl, h1, k1⟩ := trodAll_cons k0
  obtain ⟨rfl, rfl, rfl⟩ := trodAll_nil k1
  obtain rfl : args = #[v0, v1] := by cases args; simp_all
  obtain ⟨rfl, rfl⟩ := trodVars_none hV
  obtain ⟨s0, hsz⟩ := weights_cons hsz
  obtain ⟨s1, hsz⟩ := weights_cons hsz
  clear hA0 hval0
  obtain ⟨A0, n0, c0, rows0, rfl, lc0, l0, r0, w0, m0⟩ := arg_sts (e := 121) (ks := [.i64, .i64]) Try.underlying105 (by kernel_rfl) (by kernel_rfl) (by decide) (hval 0 105 v0 rfl rfl) h0 s0
  rw [show Try.prog.bytesOf 121 = 16 from by kernel_rfl] at m0
  obtain ⟨z0, zl0, zr0, zw0⟩ := _root_.Go.Proofs.Ytcpdelkamckmfaa.rows2 (fun r hr => (w0 r hr).1)
  rw [zr0] at r0
  rw [l0] at zl0
  have b0 : ∀ s ∈ z0, (-9223372036854775808 ≤ s.1 ∧ s.1 ≤ 9223372036854775807) ∧ -9223372036854775808 ≤ s.2 ∧ s.2 ≤ 9223372036854775807 := fun s hs => ⟨bounds_i64 ((w0 _ (zw0 s hs)).2 0 _ _ rfl rfl), bounds_i64 ((w0 _ (zw0 s hs)).2 1 _ _ rfl rfl)⟩
  obtain ⟨A1, n1, c1, rows1, rfl, lc1, l1, r1, w1, m1⟩ := arg_sts (e := 174) (ks := [.i64, .i64, .i64]) Try.underlying91 (by kernel_rfl) (by kernel_rfl) (by decide) (hval 1 91 v1 rfl rfl) h1 s1
  rw [show Try.prog.bytesOf 174 = 24 from by kernel_rfl] at m1
  obtain ⟨z1, zl1, zr1, zw1⟩ := _root_.Go.Proofs.Ytcpdelkamckmfaa.rows3 (fun r hr => (w1 r hr).1)
  rw [zr1] at r1
  rw [l1] at zl1
  have b1 : ∀ s ∈ z1, (-9223372036854775808 ≤ s.1 ∧ s.1 ≤ 9223372036854775807) ∧ (-9223372036854775808 ≤ s.2.1 ∧ s.2.1 ≤ 9223372036854775807) ∧ -9223372036854775808 ≤ s.2.2 ∧ s.2.2 ≤ 9223372036854775807 := fun s hs => ⟨bounds_i64 ((w1 _ (zw1 s hs)).2 0 _ _ rfl rfl), bounds_i64 ((w1 _ (zw1 s hs)).2 1 _ _ rfl rfl), bounds_i64 ((w1 _ (zw1 s hs)).2 2 _ _ rfl rfl)⟩
  refine (walk A0 n0 c0 z0 A1 n1 c1 z1 W r0 zl0 (by omega) r1 zl1 (by omega)).mono fun e W' ⟨he, bel⟩ => ?_
  subst he
  exact ⟨_, rfl, law_post laidOut (of_decide_eq_true (by kernel_rfl)) rfl rfl Try.underlying4 hW' rfl bel⟩

theorem over : Rows.hierPlaysRow.holds Try.pinned (OpenSpec.ofChange Rows.hierPlaysSpec) :=
  OpenClaim.holds_of_wide 10 Try.f10 rfl rfl rfl rfl rfl rfl rfl ⟨rfl, rfl, rfl, rfl, rfl⟩ rfl rfl rfl rfl rfl (by kernel_rfl) Try.func10 (by kernel_rfl)
    (of_decide_eq_true (by kernel_rfl)) (by unfold Func.isWrapper; first | (rw [if_pos (by decide +kernel)]; kernel_rfl) | (rw [if_neg (by decide +kernel)]; exact ⟨rfl, rfl⟩))
    (fun os started H enc _ => lifted os started H enc)
end Go.Proofs.Ytcpdelkamckmfaa.HierPlays

namespace Go.Proofs.Ytcpdelkamckmfaa
theorem hierPlays_holds : Rows.HierPlaysSaid := HierPlays.over
end Go.Proofs.Ytcpdelkamckmfaa
