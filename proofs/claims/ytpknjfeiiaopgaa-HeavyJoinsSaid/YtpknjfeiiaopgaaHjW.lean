/- the reference's WJoin. -/
import Derived.Test.YtpknjfeiiaopgaaHjT
import Derived.Test.YtpknjfeiiaopgaaHvA
namespace Go.Proofs.Ytpknjfeiiaopgaa.Heavy
open Go.RowKit Go.Proofs.Ytpknjfeiiaopgaa.E

set_option maxRecDepth 100000 in
set_option maxHeartbeats 8000000 in
theorem wjoinE (A B : Option Addr) (n m c d : Nat) (a b : List (Int × Int)) (w : World) (hra : Rd w A (a.flatMap c2)) (hrb : Rd w B (b.flatMap c2)) (han : a.length = n) (hbn : b.length = m) (hn : n ≤ 140737488355328) (hm : m ≤ 140737488355328) {k : Int} :
    Calls Try.prog 47 #[(.int .i64 k), .slice A n c, .slice B m d] w fun e w' => ∃ r : Vs × List (Int × Int) × Int, (JR k a b r.2.1 r.2.2 ∧ r.1.n = r.2.1.length ∧ r.1.xs = r.2.1.flatMap c2) ∧ e = .returned (.tuple #[.slice r.1.A r.1.n r.1.c, (.int .i64 r.2.2)]) ∧ St w w' [vec 92 2 (.slice r.1.A r.1.n r.1.c) r.1.n r.1.xs] := by
  refine calls_tr Try.func47 Try.ntmps47 rfl rfl (St.refl _) ?_
  refine tr_seq ?_
  refine tr_region ?_
  refine tl_step rfl (oj_val (y_assign fe_c) ?_)
  refine tl_step rfl (oj_val (y_assign fe_c) ?_)
  refine tl_nil ?_
  refine tx_then ?_
  refine tr_seq ?_
  refine tr_seq ?_
  refine tr_add (r := vec 92 2 (.slice none 0 0) 0 []) vec_nil rfl ?_
  refine tr_region ?_
  refine tl_step rfl (oj_val (y_move (fe_t rfl)) ?_)
  refine tl_step rfl (oj_val (y_move (fe_t rfl)) ?_)
  refine tl_step rfl (oj_callv Try.call91 fe_f (fel_cons (fe_t rfl) (fel_cons (fe_t rfl) fel_nil)) (fun w' hS => wrightE A n c a w' (Rd.below hra hS.below) han hn) ?_)
  refine tl_step rfl (oj_val (y_not (fe_t rfl)) ?_)
  refine tl_step rfl (oj_val (y_move (fe_t rfl)) ?_)
  refine tl_split (d := 25) rfl (fun hq1 => ?_) (fun hq2 => ?_)
  · try (exfalso; omega)
    all_goals
      have hnr : ¬ (Rt k a ∧ Rt k b) := fun h0 => by have h1 := hq1; rw [rB_t h0.1] at h1; cases h1
      refine tl_skip rfl rfl rfl rfl ?_
      refine tl_skip rfl rfl rfl rfl ?_
      refine tl_skip rfl rfl rfl rfl ?_
      refine tl_skip rfl rfl rfl rfl ?_
      refine tl_step rfl (oj_val (y_pickt (fe_t rfl) fe_c) ?_)
      refine tl_nil ?_
      refine tx_then ?_
      refine tr_condt (fe_t rfl) ?_
      refine tr_seq ?_
      refine tr_region ?_
      refine tl_step rfl (oj_val (y_assign fe_c) ?_)
      refine tl_step rfl (oj_val (y_assign fe_c) ?_)
      refine tl_nil ?_
      refine tx_then ?_
      refine tr_ret ?_
      refine tx_then_ret ?_
      refine tx_ret (res2 Try.results47 (rok_t rfl) (rok_t rfl)) (fun w' hS => ?_)
      exact ⟨(⟨none, 0, 0, []⟩, [], 1), ⟨.form hnr, rfl, rfl⟩, rfl, hS.pick [0] _ rfl (by decide)⟩
  · try (exfalso; omega)
    all_goals
      have hra1 : rB k a = true := by simpa using hq2
      refine tl_want rfl rfl rfl (oj_val (y_move (fe_t rfl)) ?_)
      refine tl_want rfl rfl rfl (oj_val (y_move (fe_t rfl)) ?_)
      refine tl_want rfl rfl rfl (oj_callv Try.call91 fe_f (fel_cons (fe_t rfl) (fel_cons (fe_t rfl) fel_nil)) (fun w' hS => wrightE B m d b w' (Rd.below hrb hS.below) hbn hm) ?_)
      refine tl_want rfl rfl rfl (oj_val (y_not (fe_t rfl)) ?_)
      refine tl_step rfl (oj_val (y_pickf (fe_t rfl) (fe_t rfl)) ?_)
      refine tl_nil ?_
      refine tx_then ?_
      refine tr_cond (fe_t rfl) (fun hq3 => ?_) (fun hq4 => ?_)
      · try (exfalso; omega)
        all_goals
          have hnr : ¬ (Rt k a ∧ Rt k b) := fun h0 => by have h1 := hq3; rw [rB_t h0.2] at h1; cases h1
          refine tr_seq ?_
          refine tr_region ?_
          refine tl_step rfl (oj_val (y_assign fe_c) ?_)
          refine tl_step rfl (oj_val (y_assign fe_c) ?_)
          refine tl_nil ?_
          refine tx_then ?_
          refine tr_ret ?_
          refine tx_then_ret ?_
          refine tx_ret (res2 Try.results47 (rok_t rfl) (rok_t rfl)) (fun w' hS => ?_)
          exact ⟨(⟨none, 0, 0, []⟩, [], 1), ⟨.form hnr, rfl, rfl⟩, rfl, hS.pick [0] _ rfl (by decide)⟩
      · try (exfalso; omega)
        all_goals
          have hrt : Rt k a ∧ Rt k b := ⟨rB_iff.1 hra1, rB_iff.1 (by simpa using hq4)⟩
          have hcat := rt_cat hrt
          have hst := sum_tok hrt
          have hto := acc_tok hcat.1
          have hkb := hcat.1
          have hll : (a ++ b).length = n + m := by rw [List.length_append]; omega
          have hla : n ≤ 400 := by have := hrt.1.1; omega
          have hlb : m ≤ 400 := by have := hrt.2.1; omega
          have hkk : 1 ≤ k ∧ k ≤ 400 := ⟨hrt.1.1.1, hrt.1.1.2.1⟩
          refine tr_skip ?_
          refine tx_then ?_
          refine tr_seq ?_
          refine tr_region ?_
          refine tl_step rfl (oj_slice0 Try.underlying87 Try.sizeOf92 (fun g1 => ?_))
          refine tl_step rfl (oj_val (y_move (fe_t rfl)) ?_)
          refine tl_step rfl (oj_appg (i := 0) (s := 2) (z := (.agg #[.int .i64 0, .int .i64 0])) (bytes := 16) Try.underlying87 (by kernel_rfl) (fe_t rfl) (fe_t rfl) rfl (rdl_out hra) (lenK han) (by decide) (by first | exact oneI | exact oneF (fun _ => rfl) | exact fun u hu => List.all_eq_true.1 (show List.all _ (fun x => x.oneCell') = true from rfl) u hu | (intro u hu; revert u hu; simp [Value.oneCell'])) ⟨by omega, by decide⟩ (fun Aa1 ca1 hca1 => ?_))
          refine tl_step rfl (oj_val (y_move (fe_t rfl)) ?_)
          refine tl_step rfl (oj_appg (i := 0) (s := 2) (z := (.agg #[.int .i64 0, .int .i64 0])) (bytes := 16) Try.underlying87 (by kernel_rfl) (fe_t rfl) (fe_t rfl) rfl (rdl_out hrb) (lenK hbn) (by decide) (by first | exact oneI | exact oneF (fun _ => rfl) | exact fun u hu => List.all_eq_true.1 (show List.all _ (fun x => x.oneCell') = true from rfl) u hu | (intro u hu; revert u hu; simp [Value.oneCell'])) ⟨by omega, by decide⟩ (fun Aa2 ca2 hca2 => ?_))
          refine tl_step rfl (oj_call Try.call92 fe_f (fel_cons (fe_t rfl) fel_nil) (fun w' hS => wtableG _ _ _ (a ++ b) w' (by have h1 := (OwnV.rd (hS.holds 0 _ rfl)).2.2; simpa [List.flatMap_append] using h1) (by omega) (by omega) (by omega) hkb) (fun b_mp _ => ?_))
          refine tl_step rfl (oj_val (y_assign (fe_t rfl)) ?_)
          refine tl_nil ?_
          refine tx_then ?_
          refine tr_seq ?_
          refine tr_seq ?_
          refine tr_as (r' := mpR b_mp (tb (sumT a b)) []) 0 rfl (congrArg (fun l => mpR b_mp (tb l) []) (sumT_acc (by omega))) ?_
          refine tr_region ?_
          refine tl_step rfl (oj_val (y_move (fe_t rfl)) ?_)
          refine tl_step rfl (oj_range 0 Try.underlying113 (fe_t rfl) rfl (fun it1 => ?_))
          refine tl_nil ?_
          refine tx_then ?_
          refine tr_block ?_
          refine tr_loop3 [6, 7, 10, 39, 40, 41, 42, 43, 44] (fun (left : List Int) (la : Option Int) (o : List (Int × Int)) => []) 0 (fun (left : List Int) (la : Option Int) (o : List (Int × Int)) => [(0, mpR b_mp (tb (sumT a b)) [⟨it1, left, la⟩])]) (fun (left : List Int) (la : Option Int) (o : List (Int × Int)) => (∀ d ∈ o, d.2 ≤ 1099511627776) ∧ (∀ c, c ∈ o ↔ c ∈ sumT a b ∧ 0 < c.2 ∧ c.1 ∉ left) ∧ (o.map (·.1)).Nodup ∧ o.length + left.length ≤ (sumT a b).length) (fun (left : List Int) (la : Option Int) (o : List (Int × Int)) => left.length) (keys (tb (sumT a b))) (none) ([]) (cov_nil) (fun w h => h) ?_ ?_
          · try dsimp only
            exact ⟨fun d h => by simp at h, fun c => ⟨fun h => by simp at h, fun h => absurd (by rw [tb_keys]; exact List.mem_map.2 ⟨c, h.1, rfl⟩) h.2.2⟩, by simp, by rw [tb_keys]; simp⟩
          intro left la o hp
          obtain ⟨hle, hmem, hno, hcnt⟩ := hp
          have hT8 := hst.2
          refine tr_seq ?_
          refine tr_region ?_
          refine tl_step rfl (oj_next 0 (fe_t rfl) rfl rfl (fun hleft1 => ?_) (fun kk1 vv1 hkl1 hkg1 => ?_))
          · refine tl_step rfl (oj_val (y_extract (fe_t rfl) rfl) ?_)
            refine tl_nil ?_
            refine tx_then ?_
            refine tr_seq ?_
            refine tr_condf (fe_t rfl) ?_
            refine tr_exit ?_
            refine tx_then_exit ?_
            refine tx_then_exit ?_
            refine tx_in_exit ?_
            refine tx_then ?_
            refine tr_seq ?_
            subst hleft1
            have hpo := done_mem hst.1 hmem
            have hxs : ∀ d ∈ sumT a b, d.2 ≤ 1099511627776 := fun d hd => hle d ((hpo d).2 hd)
            clear hmem hno hcnt hle hpo
            refine tr_forget 0 [] rfl (by simp) ?_
            refine tr_region ?_
            refine tl_step rfl (oj_val (y_assign fe_c) ?_)
            refine tl_nil ?_
            refine tx_then ?_
            refine tr_seq ?_
            refine tr_seq ?_
            refine tr_region ?_
            refine tl_step rfl (oj_val (y_move (fe_t rfl)) ?_)
            refine tl_step rfl (oj_range 0 Try.underlying113 (fe_t rfl) rfl (fun it2 => ?_))
            refine tl_nil ?_
            refine tx_then ?_
            refine tr_block ?_
            refine tr_loop4 [11, 13, 14, 15, 17, 47, 48, 49, 50, 51, 52, 53, 54, 55, 56, 57, 58, 59, 60, 61, 62, 63, 64, 65, 66, 67, 68, 69, 70, 71, 72, 73, 74, 75, 76, 77] (fun (left : List Int) (la : Option Int) (o : List (Int × Int)) (cut : Int) => [(11, .int .i64 cut)]) 0 (fun (left : List Int) (la : Option Int) (o : List (Int × Int)) (cut : Int) => [(0, mpR b_mp (tb (sumT a b)) [⟨it2, left, la⟩])]) (fun (left : List Int) (la : Option Int) (o : List (Int × Int)) (cut : Int) => CutP k (sumT a b) o cut ∧ (∀ c, c ∈ o ↔ c ∈ sumT a b ∧ 0 < c.2 ∧ c.1 ∉ left) ∧ (o.map (·.1)).Nodup ∧ o.length + left.length ≤ (sumT a b).length) (fun (left : List Int) (la : Option Int) (o : List (Int × Int)) (cut : Int) => left.length) (keys (tb (sumT a b))) (none) ([]) (0) (cov_cons (by first | rfl | exact v_int (by omega) | exact v_bool (by simp [*])) (cov_nil)) (fun w h => h) ?_ ?_
            · try dsimp only
              exact ⟨.inl ⟨rfl, fun d h => by simp at h⟩, fun c => ⟨fun h => by simp at h, fun h => absurd (by rw [tb_keys]; exact List.mem_map.2 ⟨c, h.1, rfl⟩) h.2.2⟩, by simp, by rw [tb_keys]; simp⟩
            intro left la o cut hp
            obtain ⟨hcp, hmem, hno, hcnt⟩ := hp
            have hT8 := hst.2
            refine tr_seq ?_
            refine tr_region ?_
            refine tl_step rfl (oj_next 0 (fe_t rfl) rfl rfl (fun hleft2 => ?_) (fun kk2 vv2 hkl2 hkg2 => ?_))
            · refine tl_step rfl (oj_val (y_extract (fe_t rfl) rfl) ?_)
              refine tl_nil ?_
              refine tx_then ?_
              refine tr_seq ?_
              refine tr_condf (fe_t rfl) ?_
              refine tr_exit ?_
              refine tx_then_exit ?_
              refine tx_then_exit ?_
              refine tx_in_exit ?_
              refine tx_then ?_
              refine tr_seq ?_
              subst hleft2
              have hcr := cut_done hcp (done_mem hst.1 hmem)
              have hxb := cut_bd hst.1 (by decide) hcr
              clear hmem hno hcnt hcp
              refine tr_forget 0 [] rfl (by simp) ?_
              refine tr_region ?_
              refine tl_step rfl (oj_makeMap (fun b_mp2 => ?_))
              refine tl_step rfl (oj_val (y_assign (fe_t rfl)) ?_)
              refine tl_nil ?_
              refine tx_then ?_
              refine tr_seq ?_
              refine tr_seq ?_
              refine tr_region ?_
              refine tl_step rfl (oj_val (y_move (fe_t rfl)) ?_)
              refine tl_step rfl (oj_range 1 Try.underlying113 (fe_t rfl) rfl (fun it4 => ?_))
              refine tl_nil ?_
              refine tx_then ?_
              refine tr_block ?_
              refine tr_loop3 [19, 20, 81, 82, 83, 84, 85, 86, 87, 88, 89, 90] (fun (left : List Int) (la : Option Int) (o : List (Int × Int)) => []) 0 (fun (left : List Int) (la : Option Int) (o : List (Int × Int)) => [(1, mpR b_mp (tb (sumT a b)) [⟨it4, left, la⟩]), (0, mpR b_mp2 (tb (o.map fun d => (d.1, d.2 - cut))) [])]) (fun (left : List Int) (la : Option Int) (o : List (Int × Int)) => (∀ c, c ∈ o ↔ c ∈ sumT a b ∧ 0 < c.2 ∧ c.1 ∉ left) ∧ (o.map (·.1)).Nodup ∧ o.length + left.length ≤ (sumT a b).length) (fun (left : List Int) (la : Option Int) (o : List (Int × Int)) => left.length) (keys (tb (sumT a b))) (none) ([]) (cov_nil) (fun w h => h) ?_ ?_
              · try dsimp only
                exact ⟨fun c => ⟨fun h => by simp at h, fun h => absurd (by rw [tb_keys]; exact List.mem_map.2 ⟨c, h.1, rfl⟩) h.2.2⟩, by simp, by rw [tb_keys]; simp⟩
              intro left la o hp
              obtain ⟨hmem, hno, hcnt⟩ := hp
              have hT8 := hst.2
              refine tr_seq ?_
              refine tr_region ?_
              refine tl_step rfl (oj_next 1 (fe_t rfl) rfl rfl (fun hleft4 => ?_) (fun kk4 vv4 hkl4 hkg4 => ?_))
              · refine tl_step rfl (oj_val (y_extract (fe_t rfl) rfl) ?_)
                refine tl_nil ?_
                refine tx_then ?_
                refine tr_seq ?_
                refine tr_condf (fe_t rfl) ?_
                refine tr_exit ?_
                refine tx_then_exit ?_
                refine tx_then_exit ?_
                refine tx_in_exit ?_
                refine tx_then ?_
                refine tr_seq ?_
                subst hleft4
                have hpo := done_mem hst.1 hmem
                have hnd2 : ((o.map fun d : Int × Int => (d.1, d.2 - cut)).map (·.1)).Nodup := by rw [List.map_map]; exact hno
                refine tr_region ?_
                refine tl_step rfl (oj_val (y_move (fe_t rfl)) ?_)
                refine tl_step rfl (oj_call2 Try.call93 fe_f (fel_cons (fe_t rfl) fel_nil) (fun w' hS => wsortE (hS.pick [0, 1, 2, 3] [_, _, _, _] rfl (by decide)) hnd2 (by rw [List.length_map]; omega)) (fun r9 h9 => ?_))
                refine tl_step rfl (oj_val (y_assign (fe_t rfl)) ?_)
                refine tl_step rfl (oj_val (y_assign fe_c) ?_)
                refine tl_nil ?_
                refine tx_then ?_
                refine tr_ret ?_
                refine tx_ret (res2 Try.results47 (rok_t rfl) (rok_t rfl)) (fun w' hS => ?_)
                exact ⟨(r9.1, r9.2, 0), ⟨jr_w hrt hxs hpo hcr h9.1 h9.2.1, h9.2.2.1, h9.2.2.2⟩, rfl, hS.pick [0] _ rfl (by decide)⟩
              · obtain ⟨ce, hce, rfl, rfl⟩ := tb_some hkg4
                have hceb := hst.1.bd ce hce
                have hdec := sub_put (x := cut) (nd_next hno hmem hkl4)
                refine tl_step rfl (oj_val (y_extract (fe_t rfl) rfl) ?_)
                refine tl_nil ?_
                refine tx_then ?_
                refine tr_seq ?_
                refine tr_condt (fe_t rfl) ?_
                refine tr_skip ?_
                refine tx_then ?_
                refine tr_block ?_
                refine tr_seq ?_
                refine tr_region ?_
                refine tl_step rfl (oj_val (y_entry 1 (fe_t rfl) rfl hkg4) ?_)
                refine tl_step rfl (oj_val (y_extract (fe_t rfl) rfl) ?_)
                refine tl_step rfl (oj_val (y_extract (fe_t rfl) rfl) ?_)
                refine tl_step rfl (oj_val (y_assign (fe_t rfl)) ?_)
                refine tl_step rfl (oj_val (y_assign (fe_t rfl)) ?_)
                refine tl_nil ?_
                refine tx_then ?_
                refine tr_region ?_
                refine tl_step rfl (oj_val (y_move (fe_t rfl)) ?_)
                refine tl_step rfl (oj_val (y_move (fe_t rfl)) ?_)
                refine tl_step rfl (oj_val (y_move (fe_t rfl)) ?_)
                refine tl_step rfl (oj_val (y_move (fe_t rfl)) ?_)
                refine tl_step rfl (oj_val (y_sub (fe_t rfl) (fe_t rfl) (by omega)) ?_)
                refine tl_step rfl (oj_mapPut 0 Try.underlying113 Try.underlying3 (fe_t rfl) (fe_t rfl) (fe_t rfl) rfl (.inl rfl) (?_))
                refine tl_nil ?_
                refine tx_in ?_
                apply tx_back3 (left.filter (· != ce.1)) (some ce.1) (o ++ [ce])
                · exact (cov_nil)
                · repeat (first | exact over_nil | refine over_put rfl ?_ | refine over_drop rfl ?_)
                · exact fun w h => (by (try dsimp only); rw [← hdec]; exact h.pick [0, 1, 2, 3] _ rfl (by decide))
                · exact ⟨⟨next_in hst.1.nd hce (by omega) hmem, nd_next hno hmem hkl4, by rw [List.length_append, List.length_singleton]; have := left_less hkl4; omega⟩, left_less hkl4⟩
            · obtain ⟨ce, hce, rfl, rfl⟩ := tb_some hkg2
              have hceb := hst.1.bd ce hce
              refine tl_step rfl (oj_val (y_extract (fe_t rfl) rfl) ?_)
              refine tl_nil ?_
              refine tx_then ?_
              refine tr_seq ?_
              refine tr_condt (fe_t rfl) ?_
              refine tr_skip ?_
              refine tx_then ?_
              refine tr_block ?_
              refine tr_seq ?_
              refine tr_region ?_
              refine tl_step rfl (oj_val (y_entry 0 (fe_t rfl) rfl hkg2) ?_)
              refine tl_step rfl (oj_val (y_extract (fe_t rfl) rfl) ?_)
              refine tl_step rfl (oj_val (y_assign (fe_t rfl)) ?_)
              refine tl_nil ?_
              refine tx_then ?_
              refine tr_seq ?_
              refine tr_region ?_
              refine tl_step rfl (oj_val (y_assign fe_c) ?_)
              refine tl_step rfl (oj_val (y_assign fe_c) ?_)
              refine tl_nil ?_
              refine tx_then ?_
              refine tr_seq ?_
              refine tr_seq ?_
              refine tr_region ?_
              refine tl_step rfl (oj_val (y_move (fe_t rfl)) ?_)
              refine tl_step rfl (oj_range 0 Try.underlying113 (fe_t rfl) rfl (fun it3 => ?_))
              refine tl_nil ?_
              refine tx_then ?_
              refine tr_block ?_
              refine tr_loop5 [14, 15, 17, 53, 54, 55, 56, 57, 58, 59, 60, 61, 62, 63, 64, 65, 66] (fun (left3 : List Int) (la3 : Option Int) (o3 : List (Int × Int)) (p : Int) (q : Int) => [(14, .int .i64 p), (15, .int .i64 q)]) 0 (fun (left3 : List Int) (la3 : Option Int) (o3 : List (Int × Int)) (p : Int) (q : Int) => [(0, mpR b_mp (tb (sumT a b)) [⟨it3, left3, la3⟩, ⟨it2, left.filter (· != ce.1), some ce.1⟩])]) (fun (left3 : List Int) (la3 : Option Int) (o3 : List (Int × Int)) (p : Int) (q : Int) => (p = (ctG o3 ce.2 : Nat) ∧ q = (ctS o3 ce.2 : Nat)) ∧ (∀ c, c ∈ o3 ↔ c ∈ sumT a b ∧ 0 < c.2 ∧ c.1 ∉ left3) ∧ (o3.map (·.1)).Nodup ∧ o3.length + left3.length ≤ (sumT a b).length) (fun (left3 : List Int) (la3 : Option Int) (o3 : List (Int × Int)) (p : Int) (q : Int) => left3.length) (keys (tb (sumT a b))) (none) ([]) (0) (0) (cov_cons (by first | rfl | exact v_int (by omega) | exact v_bool (by simp [*])) (cov_cons (by first | rfl | exact v_int (by omega) | exact v_bool (by simp [*])) (cov_nil))) (fun w h => h) ?_ ?_
              · try dsimp only
                exact ⟨⟨rfl, rfl⟩, fun c => ⟨fun h => by simp at h, fun h => absurd (by rw [tb_keys]; exact List.mem_map.2 ⟨c, h.1, rfl⟩) h.2.2⟩, by simp, by rw [tb_keys]; simp⟩
              intro left3 la3 o3 p q hp
              obtain ⟨⟨hpc, hqc⟩, hmem3, hno3, hcnt3⟩ := hp
              have hgl : ctG o3 ce.2 ≤ o3.length := List.countP_le_length
              have hsl : ctS o3 ce.2 ≤ o3.length := List.countP_le_length
              refine tr_seq ?_
              refine tr_region ?_
              refine tl_step rfl (oj_next 0 (fe_t rfl) rfl rfl (fun hleft3 => ?_) (fun kk3 vv3 hkl3 hkg3 => ?_))
              · refine tl_step rfl (oj_val (y_extract (fe_t rfl) rfl) ?_)
                refine tl_nil ?_
                refine tx_then ?_
                refine tr_seq ?_
                refine tr_condf (fe_t rfl) ?_
                refine tr_exit ?_
                refine tx_then_exit ?_
                refine tx_then_exit ?_
                refine tx_in_exit ?_
                refine tx_then ?_
                refine tr_seq ?_
                subst hleft3
                have hp3 := done_perm hst.1 hno3 hmem3
                have hg3 := ct_perm hp3 (x := ce.2)
                rw [hg3.1] at hpc
                rw [hg3.2] at hqc
                refine tr_forget 0 [⟨it2, left.filter (· != ce.1), some ce.1⟩] rfl (by simp) ?_
                refine tr_region ?_
                refine tl_step rfl (oj_val (y_move (fe_t rfl)) ?_)
                refine tl_step rfl (oj_val (y_move (fe_t rfl)) ?_)
                refine tl_step rfl (oj_val (y_leq (fe_t rfl) (fe_t rfl)) ?_)
                refine tl_step rfl (oj_val (y_move (fe_t rfl)) ?_)
                refine tl_splitp (d := 70) rfl (fun hq5 => ?_) (fun hq6 => ?_)
                · try (exfalso; omega)
                  all_goals
                    refine tl_want rfl rfl rfl (oj_val (y_move (fe_t rfl)) ?_)
                    refine tl_want rfl rfl rfl (oj_val (y_move (fe_t rfl)) ?_)
                    refine tl_want rfl rfl rfl (oj_val (y_move (fe_t rfl)) ?_)
                    refine tl_want rfl rfl rfl (oj_val (y_add (fe_t rfl) (fe_t rfl) (by omega)) ?_)
                    refine tl_want rfl rfl rfl (oj_val (y_lss (fe_t rfl) (fe_t rfl)) ?_)
                    refine tl_step rfl (oj_val (y_pickt (fe_t rfl) (fe_t rfl)) ?_)
                    refine tl_nil ?_
                    refine tx_then ?_
                    refine tr_condp (fe_t rfl) (fun hq7 => ?_) (fun hq8 => ?_)
                    · try (exfalso; omega)
                      all_goals
                        refine tr_region ?_
                        refine tl_step rfl (oj_val (y_move (fe_t rfl)) ?_)
                        refine tl_step rfl (oj_val (y_assign (fe_t rfl)) ?_)
                        refine tl_nil ?_
                        refine tx_in ?_
                        apply tx_back4 (left.filter (· != ce.1)) (some ce.1) (o ++ [ce]) (_)
                        · exact (cov_cons (by first | rfl | exact v_int (by omega) | exact v_bool (by simp [*])) (cov_nil))
                        · repeat (first | exact over_nil | refine over_put rfl ?_ | refine over_drop rfl ?_)
                        · exact fun w h => h.pick [0, 1, 2] _ rfl (by decide)
                        · exact ⟨⟨.inr ⟨⟨ce, hce, rfl⟩, by omega, by omega⟩, next_in hst.1.nd hce (by omega) hmem, nd_next hno hmem hkl2, by rw [List.length_append, List.length_singleton]; have := left_less hkl2; omega⟩, left_less hkl2⟩
                    · try (exfalso; omega)
                      all_goals
                        refine tr_skip ?_
                        refine tx_in ?_
                        apply tx_back4 (left.filter (· != ce.1)) (some ce.1) (o ++ [ce]) (_)
                        · exact (cov_cons (by first | rfl | exact v_int (by omega) | exact v_bool (by simp [*])) (cov_nil))
                        · repeat (first | exact over_nil | refine over_put rfl ?_ | refine over_drop rfl ?_)
                        · exact fun w h => h.pick [0, 1, 2] _ rfl (by decide)
                        · exact ⟨⟨cut_next hcp (fun hc => by have h1 := hc.2; omega), next_in hst.1.nd hce (by omega) hmem, nd_next hno hmem hkl2, by rw [List.length_append, List.length_singleton]; have := left_less hkl2; omega⟩, left_less hkl2⟩
                · try (exfalso; omega)
                  all_goals
                    refine tl_skip rfl rfl rfl rfl ?_
                    refine tl_skip rfl rfl rfl rfl ?_
                    refine tl_skip rfl rfl rfl rfl ?_
                    refine tl_skip rfl rfl rfl rfl ?_
                    refine tl_skip rfl rfl rfl rfl ?_
                    refine tl_step rfl (oj_val (y_pickf (fe_t rfl) fe_c) ?_)
                    refine tl_nil ?_
                    refine tx_then ?_
                    refine tr_condf (fe_t rfl) ?_
                    refine tr_skip ?_
                    refine tx_in ?_
                    apply tx_back4 (left.filter (· != ce.1)) (some ce.1) (o ++ [ce]) (_)
                    · exact (cov_cons (by first | rfl | exact v_int (by omega) | exact v_bool (by simp [*])) (cov_nil))
                    · repeat (first | exact over_nil | refine over_put rfl ?_ | refine over_drop rfl ?_)
                    · exact fun w h => h.pick [0, 1, 2] _ rfl (by decide)
                    · exact ⟨⟨cut_next hcp (fun hc => by have h1 := hc.2; omega), next_in hst.1.nd hce (by omega) hmem, nd_next hno hmem hkl2, by rw [List.length_append, List.length_singleton]; have := left_less hkl2; omega⟩, left_less hkl2⟩
              · obtain ⟨ce3, hce3, rfl, rfl⟩ := tb_some hkg3
                have hce3b := hst.1.bd ce3 hce3
                refine tl_step rfl (oj_val (y_extract (fe_t rfl) rfl) ?_)
                refine tl_nil ?_
                refine tx_then ?_
                refine tr_seq ?_
                refine tr_condt (fe_t rfl) ?_
                refine tr_skip ?_
                refine tx_then ?_
                refine tr_block ?_
                refine tr_seq ?_
                refine tr_region ?_
                refine tl_step rfl (oj_val (y_entry 0 (fe_t rfl) rfl hkg3) ?_)
                refine tl_step rfl (oj_val (y_extract (fe_t rfl) rfl) ?_)
                refine tl_step rfl (oj_val (y_assign (fe_t rfl)) ?_)
                refine tl_nil ?_
                refine tx_then ?_
                refine tr_seq ?_
                refine tr_seq ?_
                refine tr_region ?_
                refine tl_step rfl (oj_val (y_move (fe_t rfl)) ?_)
                refine tl_step rfl (oj_val (y_move (fe_t rfl)) ?_)
                refine tl_step rfl (oj_val (y_gtr (fe_t rfl) (fe_t rfl)) ?_)
                refine tl_nil ?_
                refine tx_then ?_
                refine tr_condp (fe_t rfl) (fun hq9 => ?_) (fun hq10 => ?_)
                · try (exfalso; omega)
                  all_goals
                    refine tr_region ?_
                    refine tl_step rfl (oj_val (y_move (fe_t rfl)) ?_)
                    refine tl_step rfl (oj_val (y_add (fe_t rfl) fe_c (by omega)) ?_)
                    refine tl_step rfl (oj_val (y_assign (fe_t rfl)) ?_)
                    refine tl_nil ?_
                    refine tx_then ?_
                    refine tr_seq ?_
                    refine tr_region ?_
                    refine tl_step rfl (oj_val (y_move (fe_t rfl)) ?_)
                    refine tl_step rfl (oj_val (y_move (fe_t rfl)) ?_)
                    refine tl_step rfl (oj_val (y_eq (fe_t rfl) (fe_t rfl)) ?_)
                    refine tl_nil ?_
                    refine tx_then ?_
                    refine tr_condp (fe_t rfl) (fun hq11 => ?_) (fun hq12 => ?_)
                    · try (exfalso; omega)
                      all_goals
                        refine tr_region ?_
                        refine tl_step rfl (oj_val (y_move (fe_t rfl)) ?_)
                        refine tl_step rfl (oj_val (y_add (fe_t rfl) fe_c (by omega)) ?_)
                        refine tl_step rfl (oj_val (y_assign (fe_t rfl)) ?_)
                        refine tl_nil ?_
                        refine tx_in ?_
                        apply tx_back5 (left3.filter (· != ce3.1)) (some ce3.1) (o3 ++ [ce3]) (_) (_)
                        · exact (cov_cons (by first | rfl | exact v_int (by omega) | exact v_bool (by simp [*])) (cov_cons (by first | rfl | exact v_int (by omega) | exact v_bool (by simp [*])) (cov_nil)))
                        · repeat (first | exact over_nil | refine over_put rfl ?_ | refine over_drop rfl ?_)
                        · exact fun w h => h.pick [0, 1, 2] _ rfl (by decide)
                        · exact ⟨⟨⟨by rw [ctG_next, if_pos (by omega)]; omega, by rw [ctS_next, if_pos (by omega)]; omega⟩, next_in hst.1.nd hce3 (by omega) hmem3, nd_next hno3 hmem3 hkl3, by rw [List.length_append, List.length_singleton]; have := left_less hkl3; omega⟩, left_less hkl3⟩
                    · try (exfalso; omega)
                      all_goals
                        refine tr_skip ?_
                        refine tx_in ?_
                        apply tx_back5 (left3.filter (· != ce3.1)) (some ce3.1) (o3 ++ [ce3]) (_) (_)
                        · exact (cov_cons (by first | rfl | exact v_int (by omega) | exact v_bool (by simp [*])) (cov_cons (by first | rfl | exact v_int (by omega) | exact v_bool (by simp [*])) (cov_nil)))
                        · repeat (first | exact over_nil | refine over_put rfl ?_ | refine over_drop rfl ?_)
                        · exact fun w h => h.pick [0, 1, 2] _ rfl (by decide)
                        · exact ⟨⟨⟨by rw [ctG_next, if_pos (by omega)]; omega, by rw [ctS_next, if_neg (by omega)]; omega⟩, next_in hst.1.nd hce3 (by omega) hmem3, nd_next hno3 hmem3 hkl3, by rw [List.length_append, List.length_singleton]; have := left_less hkl3; omega⟩, left_less hkl3⟩
                · try (exfalso; omega)
                  all_goals
                    refine tr_skip ?_
                    refine tx_then ?_
                    refine tr_seq ?_
                    refine tr_region ?_
                    refine tl_step rfl (oj_val (y_move (fe_t rfl)) ?_)
                    refine tl_step rfl (oj_val (y_move (fe_t rfl)) ?_)
                    refine tl_step rfl (oj_val (y_eq (fe_t rfl) (fe_t rfl)) ?_)
                    refine tl_nil ?_
                    refine tx_then ?_
                    refine tr_condp (fe_t rfl) (fun hq13 => ?_) (fun hq14 => ?_)
                    · try (exfalso; omega)
                      all_goals
                        refine tr_region ?_
                        refine tl_step rfl (oj_val (y_move (fe_t rfl)) ?_)
                        refine tl_step rfl (oj_val (y_add (fe_t rfl) fe_c (by omega)) ?_)
                        refine tl_step rfl (oj_val (y_assign (fe_t rfl)) ?_)
                        refine tl_nil ?_
                        refine tx_in ?_
                        apply tx_back5 (left3.filter (· != ce3.1)) (some ce3.1) (o3 ++ [ce3]) (_) (_)
                        · exact (cov_cons (by first | rfl | exact v_int (by omega) | exact v_bool (by simp [*])) (cov_cons (by first | rfl | exact v_int (by omega) | exact v_bool (by simp [*])) (cov_nil)))
                        · repeat (first | exact over_nil | refine over_put rfl ?_ | refine over_drop rfl ?_)
                        · exact fun w h => h.pick [0, 1, 2] _ rfl (by decide)
                        · exact ⟨⟨⟨by rw [ctG_next, if_neg (by omega)]; omega, by rw [ctS_next, if_pos (by omega)]; omega⟩, next_in hst.1.nd hce3 (by omega) hmem3, nd_next hno3 hmem3 hkl3, by rw [List.length_append, List.length_singleton]; have := left_less hkl3; omega⟩, left_less hkl3⟩
                    · try (exfalso; omega)
                      all_goals
                        refine tr_skip ?_
                        refine tx_in ?_
                        apply tx_back5 (left3.filter (· != ce3.1)) (some ce3.1) (o3 ++ [ce3]) (_) (_)
                        · exact (cov_cons (by first | rfl | exact v_int (by omega) | exact v_bool (by simp [*])) (cov_cons (by first | rfl | exact v_int (by omega) | exact v_bool (by simp [*])) (cov_nil)))
                        · repeat (first | exact over_nil | refine over_put rfl ?_ | refine over_drop rfl ?_)
                        · exact fun w h => h.pick [0, 1, 2] _ rfl (by decide)
                        · exact ⟨⟨⟨by rw [ctG_next, if_neg (by omega)]; omega, by rw [ctS_next, if_neg (by omega)]; omega⟩, next_in hst.1.nd hce3 (by omega) hmem3, nd_next hno3 hmem3 hkl3, by rw [List.length_append, List.length_singleton]; have := left_less hkl3; omega⟩, left_less hkl3⟩
          · obtain ⟨ce, hce, rfl, rfl⟩ := tb_some hkg1
            have hceb := hst.1.bd ce hce
            refine tl_step rfl (oj_val (y_extract (fe_t rfl) rfl) ?_)
            refine tl_nil ?_
            refine tx_then ?_
            refine tr_seq ?_
            refine tr_condt (fe_t rfl) ?_
            refine tr_skip ?_
            refine tx_then ?_
            refine tr_block ?_
            refine tr_seq ?_
            refine tr_region ?_
            refine tl_step rfl (oj_val (y_entry 0 (fe_t rfl) rfl hkg1) ?_)
            refine tl_step rfl (oj_val (y_extract (fe_t rfl) rfl) ?_)
            refine tl_step rfl (oj_val (y_assign (fe_t rfl)) ?_)
            refine tl_nil ?_
            refine tx_then ?_
            refine tr_seq ?_
            refine tr_region ?_
            refine tl_step rfl (oj_val (y_move (fe_t rfl)) ?_)
            refine tl_step rfl (oj_val (y_gtr (fe_t rfl) fe_c) ?_)
            refine tl_nil ?_
            refine tx_then ?_
            refine tr_condp (fe_t rfl) (fun hq15 => ?_) (fun hq16 => ?_)
            · try (exfalso; omega)
              all_goals
                refine tr_seq ?_
                refine tr_region ?_
                refine tl_step rfl (oj_val (y_assign fe_c) ?_)
                refine tl_step rfl (oj_val (y_assign fe_c) ?_)
                refine tl_nil ?_
                refine tx_then ?_
                refine tr_ret ?_
                refine tx_in_ret ?_
                refine tx_then_ret ?_
                refine tx_in_ret ?_
                refine tx_then_ret ?_
                refine tx_ret (res2 Try.results47 (rok_t rfl) (rok_t rfl)) (fun w' hS => ?_)
                exact ⟨(⟨none, 0, 0, []⟩, [], 4), ⟨.full hrt ⟨ce, hce, by omega⟩, rfl, rfl⟩, rfl, hS.pick [2] _ rfl (by decide)⟩
            · try (exfalso; omega)
              all_goals
                refine tr_skip ?_
                refine tx_in ?_
                apply tx_back3 (left.filter (· != ce.1)) (some ce.1) (o ++ [ce])
                · exact (cov_nil)
                · repeat (first | exact over_nil | refine over_put rfl ?_ | refine over_drop rfl ?_)
                · exact fun w h => h.pick [0, 1, 2] _ rfl (by decide)
                · exact ⟨⟨fun d hd => by
                    rcases List.mem_append.1 hd with hd | hd
                    · exact hle d hd
                    · simp at hd; subst hd; omega, next_in hst.1.nd hce (by omega) hmem, nd_next hno hmem hkl1, by rw [List.length_append, List.length_singleton]; have := left_less hkl1; omega⟩, left_less hkl1⟩

end Go.Proofs.Ytpknjfeiiaopgaa.Heavy
