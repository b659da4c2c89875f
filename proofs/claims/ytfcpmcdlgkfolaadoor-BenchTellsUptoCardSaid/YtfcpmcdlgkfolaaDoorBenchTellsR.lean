/- bench.Tell answers what the reference does: for every text of bulk at most 1048576 the law returns true, and its argument reads afterwards as it did. The row. -/
import Derived.Test.YtfcpmcdlgkfolaaDoorBenchTellsW
import Derived.Test.YtfcpmcdlgkfolaaDoorBnY
namespace Go.Proofs.YtfcpmcdlgkfolaaDoor.BenchTells
open Go.RowKit Go.ChangeShapes Go.WideShapes Go.ChangeAt
open Go.ChangeMaps (open_string)

set_option maxRecDepth 100000 in
theorem lifted (os : Os) (started : os.Started) (H : Type) (enc : TypeId × Value → H) (F : Stop.Interp) :
    ReturnsInHanded {} Tryd.checked os 4 .any (fun w args => ((Rows.OpenSpec.upto Rows.benchTellsSpec).pre enc Tryd.prog Tryd.f4 Rows.benchTellsUptoRow.domain false w args ∧ laidMetH Tryd.prog Rows.benchTellsUptoRow.laid w) ∧ sizedMet enc Tryd.prog Tryd.f4 (Rows.OpenSpec.upto Rows.benchTellsSpec) false w args)
      (((Rows.OpenSpec.upto Rows.benchTellsSpec).at F).post enc Tryd.prog Tryd.f4 false true false false) := by
  refine ret_cond (C := Tryd.checked) (s := (Rows.OpenSpec.upto Rows.benchTellsSpec)) (k := Rows.uptoSmall) (X := fun w => laidMetH Tryd.prog Rows.benchTellsUptoRow.laid w) rfl laid_heap own started (by kernel_rfl) Tryd.func4
    (wit_cond (enc := enc) (C := Tryd.checked) (s := (Rows.OpenSpec.upto Rows.benchTellsSpec)) (k := Rows.uptoSmall) (X := fun w => laidMetH Tryd.prog Rows.benchTellsUptoRow.laid w) rfl (World.laidAll Tryd.prog os Rows.benchTellsUptoRow.laid) #[.string ⟨#[]⟩] 8 (World.laidAll_os _ _ _)
      (World.shaped_of_ZipB (by kernel_rfl) (by kernel_rfl)) (by kernel_rfl) (x := ([.lit (.string [])], [], [])) (by kernel_rfl) rfl (by kernel_rfl) (by kernel_rfl)
      (by rw [MakeChecks.laidMetH_plain _ _ _ (by kernel_rfl)]; exact laidMet_laidAll _ (by kernel_rfl) (by kernel_rfl))) ?_
  intro W base args ds gs before hval0 hW hk0 hsz0 hL hsh
  have hval : ∀ (j : Nat) t v, Tryd.f4.params[j]? = some t → args[j]? = some v → Value.okWide Tryd.prog W .any base t v := hval0
  have hsz : (DataW.weightsEach Tryd.prog (Tryd.f4.params.toList ++ Rows.benchTellsSpec.plain.varTypes Tryd.prog) (ds ++ gs)).all (· ≤ reachBytes) = true := hsz0
  have hW' := hW
  obtain ⟨p, q, hA0, hV, rfl, hfz, hnd⟩ := hW
  have hA : DataW.TrodAll enc Tryd.prog W 0 (fun _ => true) true Tryd.f4.params.toList args.toList ds p := hA0
  rw [Tryd.params4] at hA hval hsz
  obtain ⟨v0, vs0, d0, ds0, p0, q0, hargs, rfl, rfl, h0, k0⟩ := trodAll_cons hA
  obtain ⟨rfl, rfl, rfl⟩ := trodAll_nil k0
  obtain rfl : args = #[v0] := by cases args; simp_all
  obtain ⟨rfl, rfl⟩ := trodVars_none hV
  obtain ⟨s0, hsz⟩ := weights_cons hsz
  clear hA0 hval0
  obtain ⟨t0, rfl, rfl, rfl, ht0⟩ := open_string Tryd.underlying9 (hval 0 9 v0 rfl rfl) h0
  have u0 : t0.data.toList.length ≤ 1048576 := by
    have := bulk_le hk0 (d := .lit (.string t0.data.toList)) (by simp)
    simp only [Rows.uptoBulk] at this
    omega
  refine (Bn.tells_walk (gw_of hsh hL) t0.data.toList u0).mono fun e W' ⟨he, hS⟩ => ?_
  subst he
  exact ⟨_, rfl, law_post laidOut (of_decide_eq_true (by kernel_rfl)) rfl rfl Tryd.underlying4 hW' rfl hS.below⟩

theorem over : Rows.benchTellsUptoRow.holds Tryd.pinned ((Rows.OpenSpec.upto Rows.benchTellsSpec)) :=
  OpenClaim.holds_of_cond 4 Tryd.f4 rfl rfl rfl rfl rfl rfl rfl ⟨rfl, rfl, rfl, rfl, rfl⟩ rfl rfl rfl rfl rfl (by kernel_rfl) Tryd.func4 (by kernel_rfl)
    (of_decide_eq_true (by kernel_rfl)) (by unfold Func.isWrapper; first | (rw [if_pos (by decide +kernel)]; kernel_rfl) | (rw [if_neg (by decide +kernel)]; exact ⟨rfl, rfl⟩))
    (fun os started H enc _ F => lifted os started H enc F)
end Go.Proofs.YtfcpmcdlgkfolaaDoor.BenchTells
