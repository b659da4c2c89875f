/- By a heap, and by a row: for all bytes and weights the law returns true, and its arguments read afterwards as they did. The row. -/
import Derived.Test.YtfcpmcdlgkfolaaDoorZsTopSortedW
import Derived.Test.YtfcpmcdlgkfolaaDoorZsBnY
namespace Go.Proofs.YtfcpmcdlgkfolaaDoor.TopSorted
open Go.RowKit Go.ChangeShapes Go.WideShapes Go.ChangeAt
open Go.ChangeMaps (open_string)

set_option maxRecDepth 100000 in
theorem lifted (os : Os) (started : os.Started) (H : Type) (enc : TypeId × Value → H) :
    ReturnsInHanded {} Tryd.checked os 8 .any (fun w args => (Rows.topSortedSpec.pre enc Tryd.prog Tryd.f8 Rows.topSortedRow.domain false w args ∧ laidMetH Tryd.prog Rows.topSortedRow.laid w) ∧ sizedMet enc Tryd.prog Tryd.f8 (OpenSpec.ofChange Rows.topSortedSpec) false w args)
      (Rows.topSortedSpec.post enc Tryd.prog Tryd.f8 false true false false) := by
  refine ret_all (C := Tryd.checked) (s := Rows.topSortedSpec) (X := fun w => laidMetH Tryd.prog Rows.topSortedRow.laid w) laid_heap own started (by kernel_rfl) Tryd.func8
    (ChangeSpec.witness_shaped (enc := enc) (C := Tryd.checked) (os := os) (X := fun w _ => laidMetH Tryd.prog Rows.topSortedRow.laid w) false (World.laidAll Tryd.prog os Rows.topSortedRow.laid) #[.slice none 0 0, .slice none 0 0] 8 (World.laidAll_os _ _ _)
      (World.shaped_of_ZipB (by kernel_rfl) (by kernel_rfl)) (by kernel_rfl) (by kernel_rfl) (by kernel_rfl)
      (by rw [MakeChecks.laidMetH_plain _ _ _ (by kernel_rfl)]; exact laidMet_laidAll _ (by kernel_rfl) (by kernel_rfl))) ?_
  intro W base args ds gs before hval0 hW hsz0 hL hsh
  have hval : ∀ (j : Nat) t v, Tryd.f8.params[j]? = some t → args[j]? = some v → Value.okWide Tryd.prog W .any base t v := hval0
  have hsz : (DataW.weightsEach Tryd.prog (Tryd.f8.params.toList ++ Rows.topSortedSpec.plain.varTypes Tryd.prog) (ds ++ gs)).all (· ≤ reachBytes) = true := hsz0
  have hW' := hW
  obtain ⟨p, q, hA0, hV, rfl, hfz, hnd⟩ := hW
  have hA : DataW.TrodAll enc Tryd.prog W 0 (fun _ => true) true Tryd.f8.params.toList args.toList ds p := hA0
  rw [Tryd.params8] at hA hval hsz
  obtain ⟨v0, vs0, d0, ds0, p0, q0, hargs, rfl, rfl, h0, k0⟩ := trodAll_cons hA
  obtain ⟨v1, vs1, d1, ds1, p1, q1, rfl, rfl, rfl, h1, k1⟩ := trodAll_cons k0
  obtain ⟨rfl, rfl, rfl⟩ := trodAll_nil k1
  obtain rfl : args = #[v0, v1] := by cases args; simp_all
  obtain ⟨rfl, rfl⟩ := trodVars_none hV
  obtain ⟨s0, hsz⟩ := weights_cons hsz
  obtain ⟨s1, hsz⟩ := weights_cons hsz
  clear hA0 hval0
  obtain ⟨A0, n0, c0, z0, rfl, lc0, r0, l0, w0, m0⟩ := arg_ints Tryd.underlying39 Tryd.underlying3 (by kernel_rfl) (hval 0 39 v0 rfl rfl) h0 s0
  replace w0 : ∀ z ∈ z0, _ := fun z hz => bounds_i64 (w0 z hz)
  rw [show Tryd.prog.bytesOf 3 = 8 from by kernel_rfl] at m0
  obtain ⟨A1, n1, c1, z1, rfl, lc1, r1, l1, w1, m1⟩ := arg_ints Tryd.underlying39 Tryd.underlying3 (by kernel_rfl) (hval 1 39 v1 rfl rfl) h1 s1
  replace w1 : ∀ z ∈ z1, _ := fun z hz => bounds_i64 (w1 z hz)
  rw [show Tryd.prog.bytesOf 3 = 8 from by kernel_rfl] at m1
  refine (Top.sorted_walk (gw_of hsh hL) A0 A1 n0 n1 c0 c1 z0 z1 r0 r1 l0 l1 (by omega) (by omega)).mono fun e W' ⟨he, hS⟩ => ?_
  subst he
  exact ⟨_, rfl, law_post laidOut (of_decide_eq_true (by kernel_rfl)) rfl rfl Tryd.underlying4 hW' rfl hS.below⟩

theorem over : Rows.topSortedRow.holds Tryd.pinned (OpenSpec.ofChange Rows.topSortedSpec) :=
  OpenClaim.holds_of_wide 8 Tryd.f8 rfl rfl rfl rfl rfl rfl rfl ⟨rfl, rfl, rfl, rfl, rfl⟩ rfl rfl rfl rfl rfl (by kernel_rfl) Tryd.func8 (by kernel_rfl)
    (of_decide_eq_true (by kernel_rfl)) (by unfold Func.isWrapper; first | (rw [if_pos (by decide +kernel)]; kernel_rfl) | (rw [if_neg (by decide +kernel)]; exact ⟨rfl, rfl⟩))
    (fun os started H enc _ => lifted os started H enc)
end Go.Proofs.YtfcpmcdlgkfolaaDoor.TopSorted
