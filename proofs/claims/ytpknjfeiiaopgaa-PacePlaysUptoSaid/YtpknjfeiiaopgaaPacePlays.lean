/- PacePlays: for every input the law returns true, and its arguments read afterwards as they did. The second form: bulk at most 1048576. -/
import Derived.Test.YtpknjfeiiaopgaaPacePlaysW
import Derived.Test.YtpknjfeiiaopgaaUpto
namespace Go.Proofs.Ytpknjfeiiaopgaa.PacePlays
open Go.RowKit Go.ChangeShapes Go.WideShapes Go.ChangeAt

set_option maxRecDepth 100000 in
theorem lifted (os : Os) (started : os.Started) (H : Type) (enc : TypeId × Value → H) (F : Stop.Interp) :
    ReturnsInHanded {} Try.checked os 6 .any ((Rows.OpenSpec.upto Rows.pacePlaysSpec).pre6 enc Try.prog Try.f6 Rows.pacePlaysUptoRow.domain false) (((Rows.OpenSpec.upto Rows.pacePlaysSpec).at F).post enc Try.prog Try.f6 false true false false) := by
  refine returnsInHanded_of_cond_sized (C := Try.checked) (s := (Rows.OpenSpec.upto Rows.pacePlaysSpec)) (k := Rows.uptoSmall) rfl own started (by kernel_rfl) Try.func6
    (OpenSpec.witness (enc := enc) (C := Try.checked) (s := (Rows.OpenSpec.upto Rows.pacePlaysSpec)) (k := Rows.uptoSmall) rfl false ⟨#[], #[.int .i64 0, .int .i64 0, .int .i64 0, .slice none 0 0], []⟩ 8 (by kernel_rfl) (by kernel_rfl) (by kernel_rfl) (x := ([.lit (.int .i64 0), .lit (.int .i64 0), .lit (.int .i64 0), .nil], [], [])) (by kernel_rfl) rfl (by kernel_rfl)) ?_
  intro W base args ds gs before hval0 hW _ hk0 hsz0 _
  have hval : ∀ (j : Nat) t v, Try.f6.params[j]? = some t → args[j]? = some v → Value.okWide Try.prog W .any base t v := hval0
  have hsz : (DataW.weightsEach Try.prog (Try.f6.params.toList ++ Rows.pacePlaysSpec.plain.varTypes Try.prog) (ds ++ gs)).all (· ≤ reachBytes) = true := hsz0
  have hW' := hW
  obtain ⟨p, q, hA0, hV, rfl, hfz, hnd⟩ := hW
  have hA : DataW.TrodAll enc Try.prog W 0 (fun _ => true) true Try.f6.params.toList args.toList ds p := hA0
  rw [Try.params6] at hA hval hsz
  obtain ⟨v0, vs0, d0, ds0, p0, q0, hargs, rfl, rfl, h0, k0⟩ := trodAll_cons hA
  obtain ⟨v1, vs1, d1, ds1, p1, q1, rfl, rfl, rfl, h1, k1⟩ := trodAll_cons k0
  obtain ⟨v2, vs2, d2, ds2, p2, q2, rfl, rfl, rfl, h2, k2⟩ := trodAll_cons k1
  obtain ⟨v3, vs3, d3, ds3, p3, q3, rfl, rfl, rfl, h3, k3⟩ := trodAll_cons k2
  obtain ⟨rfl, rfl, rfl⟩ := trodAll_nil k3
  obtain rfl : args = #[v0, v1, v2, v3] := by cases args; simp_all
  obtain ⟨rfl, rfl⟩ := trodVars_none hV
  obtain ⟨s0, hsz⟩ := weights_cons hsz
  obtain ⟨s1, hsz⟩ := weights_cons hsz
  obtain ⟨s2, hsz⟩ := weights_cons hsz
  obtain ⟨s3, hsz⟩ := weights_cons hsz
  clear hA0 hval0
  obtain ⟨a0, rfl, rfl, rfl, w0⟩ := open_int Try.underlying3 (hval 0 3 v0 rfl rfl) h0
  replace w0 := bounds_i64 w0
  obtain ⟨a1, rfl, rfl, rfl, w1⟩ := open_int Try.underlying3 (hval 1 3 v1 rfl rfl) h1
  replace w1 := bounds_i64 w1
  obtain ⟨a2, rfl, rfl, rfl, w2⟩ := open_int Try.underlying3 (hval 2 3 v2 rfl rfl) h2
  replace w2 := bounds_i64 w2
  obtain ⟨A3, n3, c3, rows3, rfl, lc3, l3, r3, w3, m3⟩ := arg_sts (e := 134) (ks := [.i64, .i64]) Try.underlying53 (by kernel_rfl) (by kernel_rfl) (by decide) (hval 3 53 v3 rfl rfl) h3 s3
  have u3 : n3 ≤ 1048576 := Nat.le_trans (bulk_slice (q := 2) Try.underlying53 (show Try.prog.cellsOf 134 = 2 by kernel_rfl) (by decide) h3) (bulk_le hk0 (by simp))
  rw [show Try.prog.bytesOf 134 = 16 from by kernel_rfl] at m3
  obtain ⟨z3, zl3, zr3, zw3⟩ := _root_.Go.Proofs.Ytpknjfeiiaopgaa.rows2 (fun r hr => (w3 r hr).1)
  rw [zr3] at r3
  rw [l3] at zl3
  have b3 : ∀ s ∈ z3, (-9223372036854775808 ≤ s.1 ∧ s.1 ≤ 9223372036854775807) ∧ -9223372036854775808 ≤ s.2 ∧ s.2 ≤ 9223372036854775807 := fun s hs => ⟨bounds_i64 ((w3 _ (zw3 s hs)).2 0 _ _ rfl rfl), bounds_i64 ((w3 _ (zw3 s hs)).2 1 _ _ rfl rfl)⟩
  refine (walk a0 a1 a2 A3 n3 c3 z3 W r3 zl3 u3).mono fun e W' ⟨he, bel⟩ => ?_
  subst he
  exact ⟨_, rfl, law_post laidOut (of_decide_eq_true (by kernel_rfl)) rfl rfl Try.underlying4 hW' rfl bel⟩

theorem over : Rows.pacePlaysUptoRow.holds Try.pinned (Rows.OpenSpec.upto Rows.pacePlaysSpec) :=
  OpenClaim.holds_of_cond 6 Try.f6 rfl rfl rfl rfl rfl rfl rfl ⟨rfl, rfl, rfl, rfl, rfl⟩ rfl rfl rfl rfl rfl (by kernel_rfl) Try.func6 (by kernel_rfl)
    (of_decide_eq_true (by kernel_rfl)) (by unfold Func.isWrapper; first | (rw [if_pos (by decide +kernel)]; kernel_rfl) | (rw [if_neg (by decide +kernel)]; exact ⟨rfl, rfl⟩))
    (fun os started H enc _ F => lifted os started H enc F)
end Go.Proofs.Ytpknjfeiiaopgaa.PacePlays

namespace Go.Proofs.Ytpknjfeiiaopgaa
theorem pacePlays_holds : Rows.PacePlaysUptoSaid := PacePlays.over
end Go.Proofs.Ytpknjfeiiaopgaa
