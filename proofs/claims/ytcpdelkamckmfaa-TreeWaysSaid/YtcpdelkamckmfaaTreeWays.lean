/- TreeWays: for every input the law returns true, and its arguments read afterwards as they did. No condition. -/
import Derived.Test.YtcpdelkamckmfaaTreeWaysW
import Derived.Test.YtcpdelkamckmfaaFrame
namespace Go.Proofs.Ytcpdelkamckmfaa.TreeWays
open Go.RowKit Go.ChangeShapes Go.WideShapes Go.ChangeAt

set_option maxRecDepth 100000 in
theorem lifted (os : Os) (started : os.Started) (H : Type) (enc : TypeId × Value → H) :
    ReturnsInHanded {} Try.checked os 12 .any (Rows.treeWaysSpec.pre6 enc Try.prog Try.f12 Rows.treeWaysRow.domain false) (Rows.treeWaysSpec.post enc Try.prog Try.f12 false true false false) := by
  refine returnsInHanded_of_change_sized (C := Try.checked) own started (by kernel_rfl) Try.func12
    (ChangeSpec.witness6 (enc := enc) (C := Try.checked) false ⟨#[], #[.slice none 0 0, .int .i64 0, .int .i64 0], []⟩ 8 (by kernel_rfl) (by kernel_rfl) (by kernel_rfl) (by kernel_rfl)) ?_
  intro W base args ds gs before hval0 hW _ hsz0 _
  have hval : ∀ (j : Nat) t v, Try.f12.params[j]? = some t → args[j]? = some v → Value.okWide Try.prog W .any base t v := hval0
  have hsz : (DataW.weightsEach Try.prog (Try.f12.params.toList ++ Rows.treeWaysSpec.plain.varTypes Try.prog) (ds ++ gs)).all (· ≤ reachBytes) = true := hsz0
  have hW' := hW
  obtain ⟨p, q, hA0, hV, rfl, hfz, hnd⟩ := hW
  have hA : DataW.TrodAll enc Try.prog W 0 (fun _ => true) true Try.f12.params.toList args.toList ds p := hA0
  rw [Try.params12] at hA hval hsz
  obtain ⟨v0, vs0, d0, ds0, p0, q0, hargs, rfl, rfl, h0, k0⟩ := trodAll_cons hA
  obtain ⟨v1, vs1, d1, ds1, p1, q1, rfl, rfl, rfl, h1, k1⟩ := trodAll_cons k0
  obtain ⟨v2, vs2, d2, ds2, p2, q2, rfl, rfl, rfl, h2, k2⟩ := trodAll_cons k1
  obtain ⟨rfl, rfl, rfl⟩ := trodAll_nil k2
  obtain rfl : args = #[v0, v1, v2] := by cases args; simp_all
  obtain ⟨rfl, rfl⟩ := trodVars_none hV
  obtain ⟨s0, hsz⟩ := weights_cons hsz
  obtain ⟨s1, hsz⟩ := weights_cons hsz
  obtain ⟨s2, hsz⟩ := weights_cons hsz
  clear hA0 hval0
  obtain ⟨A0, n0, c0, rows0, rfl, lc0, l0, r0, w0, m0⟩ := arg_sts (e := 121) (ks := [.i64, .i64]) Try.underlying105 (by kernel_rfl) (by kernel_rfl) (by decide) (hval 0 105 v0 rfl rfl) h0 s0
  rw [show Try.prog.bytesOf 121 = 16 from by kernel_rfl] at m0
  obtain ⟨z0, zl0, zr0, zw0⟩ := _root_.Go.Proofs.Ytcpdelkamckmfaa.rows2 (fun r hr => (w0 r hr).1)
  rw [zr0] at r0
  rw [l0] at zl0
  have b0 : ∀ s ∈ z0, (-9223372036854775808 ≤ s.1 ∧ s.1 ≤ 9223372036854775807) ∧ -9223372036854775808 ≤ s.2 ∧ s.2 ≤ 9223372036854775807 := fun s hs => ⟨bounds_i64 ((w0 _ (zw0 s hs)).2 0 _ _ rfl rfl), bounds_i64 ((w0 _ (zw0 s hs)).2 1 _ _ rfl rfl)⟩
  obtain ⟨a1, rfl, rfl, rfl, w1⟩ := open_int Try.underlying3 (hval 1 3 v1 rfl rfl) h1
  replace w1 := bounds_i64 w1
  obtain ⟨a2, rfl, rfl, rfl, w2⟩ := open_int Try.underlying3 (hval 2 3 v2 rfl rfl) h2
  replace w2 := bounds_i64 w2
  refine (walk A0 n0 c0 z0 a1 a2 W r0 zl0 (by omega)).mono fun e W' ⟨he, bel⟩ => ?_
  subst he
  exact ⟨_, rfl, law_post laidOut (of_decide_eq_true (by kernel_rfl)) rfl rfl Try.underlying4 hW' rfl bel⟩

theorem over : Rows.treeWaysRow.holds Try.pinned (OpenSpec.ofChange Rows.treeWaysSpec) :=
  OpenClaim.holds_of_wide 12 Try.f12 rfl rfl rfl rfl rfl rfl rfl ⟨rfl, rfl, rfl, rfl, rfl⟩ rfl rfl rfl rfl rfl (by kernel_rfl) Try.func12 (by kernel_rfl)
    (of_decide_eq_true (by kernel_rfl)) (by unfold Func.isWrapper; first | (rw [if_pos (by decide +kernel)]; kernel_rfl) | (rw [if_neg (by decide +kernel)]; exact ⟨rfl, rfl⟩))
    (fun os started H enc _ => lifted os started H enc)
end Go.Proofs.Ytcpdelkamckmfaa.TreeWays

namespace Go.Proofs.Ytcpdelkamckmfaa
theorem treeWays_holds : Rows.TreeWaysSaid := TreeWays.over
end Go.Proofs.Ytcpdelkamckmfaa
