/- TrieFinds: for every input the law returns true, and its arguments read afterwards as they did. The second form: bulk at most 1048576. -/
import Derived.Test.YtpknjfeiiaopgaaTrieFindsW
import Derived.Test.YtpknjfeiiaopgaaUpto
namespace Go.Proofs.Ytpknjfeiiaopgaa.TrieFinds
open Go.RowKit Go.ChangeShapes Go.WideShapes Go.ChangeAt

set_option maxRecDepth 100000 in
theorem lifted (os : Os) (started : os.Started) (H : Type) (enc : TypeId × Value → H) (F : Stop.Interp) :
    ReturnsInHanded {} Try.checked os 3 .any ((Rows.OpenSpec.upto Rows.trieFindsSpec).pre6 enc Try.prog Try.f3 Rows.trieFindsUptoRow.domain false) (((Rows.OpenSpec.upto Rows.trieFindsSpec).at F).post enc Try.prog Try.f3 false true false false) := by
  refine returnsInHanded_of_cond_sized (C := Try.checked) (s := (Rows.OpenSpec.upto Rows.trieFindsSpec)) (k := Rows.uptoSmall) rfl own started (by kernel_rfl) Try.func3
    (OpenSpec.witness (enc := enc) (C := Try.checked) (s := (Rows.OpenSpec.upto Rows.trieFindsSpec)) (k := Rows.uptoSmall) rfl false ⟨#[], #[.slice none 0 0, .slice none 0 0, .agg #[.int .u8 0, .int .u8 0, .int .u8 0, .int .u8 0, .int .i64 0, .int .i64 0]], []⟩ 8 (by kernel_rfl) (by kernel_rfl) (by kernel_rfl) (x := ([.nil, .nil, .agg [.agg [.lit (.int .u8 0), .lit (.int .u8 0), .lit (.int .u8 0), .lit (.int .u8 0)], .lit (.int .i64 0), .lit (.int .i64 0)]], [], [])) (by kernel_rfl) rfl (by kernel_rfl)) ?_
  intro W base args ds gs before hval0 hW _ hk0 hsz0 _
  have hval : ∀ (j : Nat) t v, Try.f3.params[j]? = some t → args[j]? = some v → Value.okWide Try.prog W .any base t v := hval0
  have hsz : (DataW.weightsEach Try.prog (Try.f3.params.toList ++ Rows.trieFindsSpec.plain.varTypes Try.prog) (ds ++ gs)).all (· ≤ reachBytes) = true := hsz0
  have hW' := hW
  obtain ⟨p, q, hA0, hV, rfl, hfz, hnd⟩ := hW
  have hA : DataW.TrodAll enc Try.prog W 0 (fun _ => true) true Try.f3.params.toList args.toList ds p := hA0
  rw [Try.params3] at hA hval hsz
  obtain ⟨v0, vs0, d0, ds0, p0, q0, hargs, rfl, rfl, h0, k0⟩ := trodAll_cons hA
  obtain ⟨v1, vs1, d1, ds1, p1, q1, rfl, rfl, rfl, h1, k1⟩ := trodAll_cons k0
  obtain ⟨v2, vs2, d2, ds2, p2, q2, rfl, rfl, rfl, h2, k2⟩ := trodAll_cons k1
  obtain ⟨rfl, rfl, rfl⟩ := trodAll_nil k2
  obtain rfl : args = #[v0, v1, v2] := by cases args; simp_all
  obtain ⟨rfl, rfl⟩ := trodVars_none hV
  obtain ⟨s0, hsz⟩ := weights_cons hsz
  obtain ⟨s1, hsz⟩ := weights_cons hsz
  obtain ⟨s2, hsz⟩ := weights_cons hsz
  clear hA0 hval0
  obtain ⟨A0, n0, c0, rows0, rfl, lc0, l0, r0, w0, m0⟩ := arg_sts (e := 26) (ks := [.u8, .u8, .u8, .u8, .i64, .i64]) Try.underlying22 (by kernel_rfl) (by kernel_rfl) (by decide) (hval 0 22 v0 rfl rfl) h0 s0
  have u0 : n0 ≤ 1048576 := Nat.le_trans (bulk_slice (q := 6) Try.underlying22 (show Try.prog.cellsOf 26 = 6 by kernel_rfl) (by decide) h0) (bulk_le hk0 (by simp))
  rw [show Try.prog.bytesOf 26 = 24 from by kernel_rfl] at m0
  obtain ⟨A1, n1, c1, rows1, rfl, lc1, l1, r1, w1, m1⟩ := arg_sts (e := 24) (ks := [.u8, .u8, .u8, .u8]) Try.underlying23 (by kernel_rfl) (by kernel_rfl) (by decide) (hval 1 23 v1 rfl rfl) h1 s1
  have u1 : n1 ≤ 1048576 := Nat.le_trans (bulk_slice (q := 4) Try.underlying23 (show Try.prog.cellsOf 24 = 4 by kernel_rfl) (by decide) h1) (bulk_le hk0 (by simp))
  rw [show Try.prog.bytesOf 24 = 4 from by kernel_rfl] at m1
  obtain ⟨zs2, hl2, rfl, hw2⟩ := arg_st (ks := [.u8, .u8, .u8, .u8, .i64, .i64]) Try.underlying26 (by kernel_rfl) (by kernel_rfl) (hval 2 26 v2 rfl rfl) h2
  obtain ⟨x2_0, x2_1, x2_2, x2_3, x2_4, x2_5, rfl⟩ := list_6 hl2
  have wx2_0 := bounds_u8 (hw2 0 _ _ rfl rfl)
  have wx2_1 := bounds_u8 (hw2 1 _ _ rfl rfl)
  have wx2_2 := bounds_u8 (hw2 2 _ _ rfl rfl)
  have wx2_3 := bounds_u8 (hw2 3 _ _ rfl rfl)
  have wx2_4 := bounds_i64 (hw2 4 _ _ rfl rfl)
  have wx2_5 := bounds_i64 (hw2 5 _ _ rfl rfl)
  refine (walkR A0 n0 c0 rows0 A1 n1 c1 rows1 W r0 l0 u0 lc0 w0 r1 l1 u1 w1 ⟨⟨x2_0, x2_1, x2_2, x2_3⟩, x2_4, x2_5⟩ ⟨wx2_0, wx2_1, wx2_2, wx2_3⟩).mono fun e W' ⟨he, bel⟩ => ?_
  subst he
  exact ⟨_, rfl, law_post laidOut (of_decide_eq_true (by kernel_rfl)) rfl rfl Try.underlying4 hW' rfl bel⟩

theorem over : Rows.trieFindsUptoRow.holds Try.pinned (Rows.OpenSpec.upto Rows.trieFindsSpec) :=
  OpenClaim.holds_of_cond 3 Try.f3 rfl rfl rfl rfl rfl rfl rfl ⟨rfl, rfl, rfl, rfl, rfl⟩ rfl rfl rfl rfl rfl (by kernel_rfl) Try.func3 (by kernel_rfl)
    (of_decide_eq_true (by kernel_rfl)) (by unfold Func.isWrapper; first | (rw [if_pos (by decide +kernel)]; kernel_rfl) | (rw [if_neg (by decide +kernel)]; exact ⟨rfl, rfl⟩))
    (fun os started H enc _ F => lifted os started H enc F)
end Go.Proofs.Ytpknjfeiiaopgaa.TrieFinds

namespace Go.Proofs.Ytpknjfeiiaopgaa
theorem trieFinds_holds : Rows.TrieFindsUptoSaid := TrieFinds.over
end Go.Proofs.Ytpknjfeiiaopgaa
