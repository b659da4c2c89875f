/- bench.Print and Parse answer what the reference's do: for every script and every text of bulk at most 1048576 the law returns true, and its arguments read afterwards as they did; the tied card. -/
import Derived.Test.YtfcpmcdlgkfolaaDoorBenchReadsW
import Derived.Test.YtfcpmcdlgkfolaaDoorBnY
namespace Go.Proofs.YtfcpmcdlgkfolaaDoor.BenchReads
open Go.RowKit Go.ChangeShapes Go.WideShapes Go.ChangeAt
open Go.ChangeMaps (open_string)

set_option maxRecDepth 100000 in
theorem lifted (os : Os) (started : os.Started) (H : Type) (enc : TypeId × Value → H) (F : Stop.Interp) :
    ReturnsInHanded {} Tryd.checked os 3 .any (fun w args => ((Rows.OpenSpec.upto Rows.benchReadsSpec).pre enc Tryd.prog Tryd.f3 Rows.benchReadsUptoRow.domain false w args ∧ laidMetH Tryd.prog Rows.benchReadsUptoRow.laid w) ∧ sizedMet enc Tryd.prog Tryd.f3 (Rows.OpenSpec.upto Rows.benchReadsSpec) false w args)
      (((Rows.OpenSpec.upto Rows.benchReadsSpec).at F).post enc Tryd.prog Tryd.f3 false true false false) := by
  refine ret_cond (C := Tryd.checked) (s := (Rows.OpenSpec.upto Rows.benchReadsSpec)) (k := Rows.uptoSmall) (X := fun w => laidMetH Tryd.prog Rows.benchReadsUptoRow.laid w) rfl laid_heap own started (by kernel_rfl) Tryd.func3
    (wit_cond (enc := enc) (C := Tryd.checked) (s := (Rows.OpenSpec.upto Rows.benchReadsSpec)) (k := Rows.uptoSmall) (X := fun w => laidMetH Tryd.prog Rows.benchReadsUptoRow.laid w) rfl (World.laidAll Tryd.prog os Rows.benchReadsUptoRow.laid) #[.agg #[.int .i64 0, .int .i64 0, .int .i64 0, .slice none 0 0], .string ⟨#[]⟩] 8 (World.laidAll_os _ _ _)
      (World.shaped_of_ZipB (by kernel_rfl) (by kernel_rfl)) (by kernel_rfl) (x := ([.agg [.lit (.int .i64 0), .lit (.int .i64 0), .lit (.int .i64 0), .nil], .lit (.string [])], [], [])) (by kernel_rfl) rfl (by kernel_rfl) (by kernel_rfl)
      (by rw [MakeChecks.laidMetH_plain _ _ _ (by kernel_rfl)]; exact laidMet_laidAll _ (by kernel_rfl) (by kernel_rfl))) ?_
  intro W base args ds gs before hval0 hW hk0 hsz0 hL hsh
  have hval : ∀ (j : Nat) t v, Tryd.f3.params[j]? = some t → args[j]? = some v → Value.okWide Tryd.prog W .any base t v := hval0
  have hsz : (DataW.weightsEach Tryd.prog (Tryd.f3.params.toList ++ Rows.benchReadsSpec.plain.varTypes Tryd.prog) (ds ++ gs)).all (· ≤ reachBytes) = true := hsz0
  have hW' := hW
  obtain ⟨p, q, hA0, hV, rfl, hfz, hnd⟩ := hW
  have hA : DataW.TrodAll enc Tryd.prog W 0 (fun _ => true) true Tryd.f3.params.toList args.toList ds p := hA0
  rw [Tryd.params3] at hA hval hsz
  obtain ⟨v0, vs0, d0, ds0, p0, q0, hargs, rfl, rfl, h0, k0⟩ := trodAll_cons hA
  obtain ⟨v1, vs1, d1, ds1, p1, q1, rfl, rfl, rfl, h1, k1⟩ := trodAll_cons k0
  obtain ⟨rfl, rfl, rfl⟩ := trodAll_nil k1
  obtain rfl : args = #[v0, v1] := by cases args; simp_all
  obtain ⟨rfl, rfl⟩ := trodVars_none hV
  obtain ⟨s0, hsz⟩ := weights_cons hsz
  clear hA0 hval0
  obtain ⟨a, b, c, A, n, m, rows, rfl, wa, wb, wc, lc, l0, r0, w0, m0⟩ := arg_iiis (e := 3) (ee := 52) (sl := 22) (ks := [.i64, .i64]) Tryd.underlying3 Tryd.underlying22 (by kernel_rfl) (by kernel_rfl) (by decide) Tryd.underlying24 (by kernel_rfl) (by kernel_rfl) (hval 0 24 v0 rfl rfl) h0 s0
  have u0 : n ≤ 1048576 := Nat.le_trans (script_bulk (e := 3) (ee := 52) (sl := 22) Tryd.underlying22 (by rw [show Tryd.prog.cellsOf 52 = 2 by kernel_rfl]; decide) Tryd.underlying24 (by kernel_rfl) h0) (bulk_le hk0 (by simp))
  obtain ⟨z, zl, zr, zw⟩ := _root_.Go.Proofs.YtfcpmcdlgkfolaaDoor.rows2 (fun r hr => (w0 r hr).1)
  rw [zr] at r0
  obtain ⟨t, rfl, rfl, rfl, ht⟩ := open_string Tryd.underlying9 (hval 1 9 v1 rfl rfl) h1
  have u1 : t.data.toList.length ≤ 1000000000 := by
    have := bulk_le hk0 (d := .lit (.string t.data.toList)) (by simp)
    simp only [Rows.uptoBulk] at this
    omega
  refine (Bn.walk (gw_of hsh hL) a b c z A n m r0 (by omega) (by omega) t.data.toList u1).mono fun e W' ⟨he, hS⟩ => ?_
  subst he
  exact ⟨_, rfl, law_post laidOut (of_decide_eq_true (by kernel_rfl)) rfl rfl Tryd.underlying4 hW' rfl hS.below⟩

theorem over : Rows.benchReadsUptoRow.holds Tryd.pinned (Rows.OpenSpec.upto Rows.benchReadsSpec) :=
  OpenClaim.holds_of_cond 3 Tryd.f3 rfl rfl rfl rfl rfl rfl rfl ⟨rfl, rfl, rfl, rfl, rfl⟩ rfl rfl rfl rfl rfl (by kernel_rfl) Tryd.func3 (by kernel_rfl)
    (of_decide_eq_true (by kernel_rfl)) (by unfold Func.isWrapper; first | (rw [if_pos (by decide +kernel)]; kernel_rfl) | (rw [if_neg (by decide +kernel)]; exact ⟨rfl, rfl⟩))
    (fun os started H enc _ F => lifted os started H enc F)
end Go.Proofs.YtfcpmcdlgkfolaaDoor.BenchReads
