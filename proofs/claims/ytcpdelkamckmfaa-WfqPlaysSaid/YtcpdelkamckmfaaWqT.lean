/- the reference's PPlay. -/
import Derived.Test.YtcpdelkamckmfaaWqS
import Derived.Test.YtcpdelkamckmfaaWqY
namespace Go.Proofs.Ytcpdelkamckmfaa.Wfq
open Go.RowKit Go.Proofs.Ytcpdelkamckmfaa.E Go.Proofs.Ytcpdelkamckmfaa.Scfq Go.Proofs.Ytcpdelkamckmfaa.Big Go.Proofs.Ytcpdelkamckmfaa.Frac

theorem zero27 : RatIs nm0 nm0 (mkRat 0 27720) := by rw [show mkRat 0 27720 = 0 from Rat.zero_mkRat _]; exact ratis_zero
set_option maxRecDepth 100000 in
set_option maxHeartbeats 8000000 in
theorem pplay_ok (A : Option Addr) (n c : Nat) (ws : List Int) (B : Option Addr) (m d : Nat) (os : List O3) (w : World) (hr : Rd w A (ws.map (.int .i64))) (hn : ws.length = n) (hm : n ≤ 140737488355328) (hr2 : Rd w B (os.flatMap c3)) (hn2 : os.length = m) (hm2 : m ≤ 140737488355328) (hw : wrongOf ws = 0) (hmo : m ≤ 400) :
    Calls Try.prog 70 #[.slice A n c, .slice B m d] w fun e w' => ∃ r : S × Vs × Vs × Vs, (Run ws os n m r.1 ∧ (r.2.1.n = r.1.errs.length ∧ r.2.1.xs = cI r.1.errs) ∧ (r.2.2.1.n = r.1.sent.length ∧ r.2.2.1.xs = r.1.sent.flatMap c2) ∧ r.2.2.2.n = n ∧ r.2.2.2.xs = cI (left r.1)) ∧ e = .returned (.tuple #[.slice r.2.1.A r.2.1.n r.2.1.c, .slice r.2.2.1.A r.2.2.1.n r.2.2.1.c, .slice r.2.2.2.A r.2.2.2.n r.2.2.2.c]) ∧ St w w' [vec 24 1 (.slice r.2.1.A r.2.1.n r.2.1.c) r.2.1.n r.2.1.xs, vec 102 2 (.slice r.2.2.1.A r.2.2.1.n r.2.2.1.c) r.2.2.1.n r.2.2.1.xs, vec 3 1 (.slice r.2.2.2.A r.2.2.2.n r.2.2.2.c) r.2.2.2.n r.2.2.2.xs] := by
  obtain ⟨hn16, hgw0⟩ := wrong_ok hw
  refine calls_tr Try.func70 Try.ntmps70 rfl rfl (St.refl _) ?_
  refine tr_seq ?_
  refine tr_region ?_
  refine tl_step rfl (oj_box (fe_t rfl) (fun bw => ?_))
  refine tl_step rfl (oj_val (y_assign fe_c) ?_)
  refine tl_step rfl (oj_val (y_assign fe_c) ?_)
  refine tl_step rfl (oj_val (y_assign fe_c) ?_)
  refine tl_nil ?_
  refine tx_then ?_
  refine tr_seq ?_
  refine tr_region ?_
  refine tl_step rfl (oj_alloc Try.zeroValue3 (fun bs => ?_))
  refine tl_step rfl (oj_store1 0 Try.sizeOf3 (fe_t rfl) fe_c rfl rfl rfl rfl (?_))
  refine tl_nil ?_
  refine tx_then ?_
  refine tr_seq ?_
  refine tr_region ?_
  refine tl_step rfl (oj_val (y_ldb 1 Try.isAgg79 (fe_t rfl) rfl rfl) ?_)
  refine tl_step rfl (oj_val (y_len Try.underlying79 (fe_t rfl)) ?_)
  refine tl_step rfl (oj_makeF (z0 := (none : Option Rf)) (c := cR0) (n := n) (cs := [.slice none 0 0, .pointer none, .pointer none]) (s := 3) (bytes := 40) Try.underlying180 (by kernel_rfl) (fe_t rfl) (fe_t rfl) rfl rfl (by decide) ⟨by omega, by decide⟩ (fun g => ?_))
  refine tl_step rfl (oj_alloc Try.zeroValue180 (fun bf => ?_))
  refine tl_step rfl (oj_store1 0 Try.sizeOf180 (fe_t rfl) (fe_t rfl) rfl rfl rfl rfl (?_))
  refine tl_nil ?_
  refine tx_then ?_
  refine tr_seq ?_
  refine tr_seq ?_
  refine tr_region ?_
  refine tl_step rfl (oj_val (y_ldb 3 Try.isAgg79 (fe_t rfl) rfl rfl) ?_)
  refine tl_step rfl (oj_val (y_len Try.underlying79 (fe_t rfl)) ?_)
  refine tl_step rfl (oj_val (y_move fe_c) ?_)
  refine tl_nil ?_
  refine tx_then ?_
  refine tr_block ?_
  refine tr_add (r := bag [] [] []) bag_nil rfl ?_
  refine tr_loop6 [9, 10, 34, 35, 36, 37, 38, 39, 40, 41, 42, 43, 44, 45, 46, 47, 48] (fun (k : Nat) (z : Int) (l : List Rf) (Hx : List Nat) (Dx : List Nat) (es : List Ent) => [(34, .int .i64 (k : Int))]) 0 (fun (k : Nat) (z : Int) (l : List Rf) (Hx : List Nat) (Dx : List Nat) (es : List Ent) => [(3, blk bs [(.int .i64 z)]), (2, vec 182 3 (.slice (some ⟨g, 0, none⟩) n n) n ((half n k l).flatMap cR0)), (0, bag Hx Dx es)]) (fun (k : Nat) (z : Int) (l : List Rf) (Hx : List Nat) (Dx : List Nat) (es : List Ent) => k ≤ n ∧ z = sumw (ws.take k) ∧ Ini es k l) (fun (k : Nat) (z : Int) (l : List Rf) (Hx : List Nat) (Dx : List Nat) (es : List Ent) => n - k) (0) (0) ([]) (_) (_) (_) (cov_cons (by first | rfl | exact v_int (by omega) | exact v_int (by dsimp only; omega)) (cov_nil)) (fun w h => h) ?_ ?_
  · try dsimp only
    exact ⟨by omega, rfl, ini_zero⟩
  intro k z l Hx Dx es hp
  obtain ⟨hk, hz, hini⟩ := hp
  have hzb := sumw_take hn16 hgw0 k
  refine tr_seq ?_
  refine tr_region ?_
  refine tl_step rfl (oj_val (y_lss (fe_t rfl) (fe_t rfl)) ?_)
  refine tl_nil ?_
  refine tx_then ?_
  refine tr_seq ?_
  refine tr_condp (fe_t rfl) (fun hq1 => ?_) (fun hq2 => ?_)
  · try (exfalso; omega)
    all_goals
      refine tr_skip ?_
      refine tx_then ?_
      refine tr_seq ?_
      refine tr_block ?_
      refine tr_seq ?_
      refine tr_region ?_
      refine tl_step rfl (oj_val (y_move (fe_t rfl)) ?_)
      refine tl_step rfl (oj_val (y_index Try.underlying79 Try.sizeOf3 (fe_t rfl) (fe_t rfl) (rdl_out hr) (by simp; omega) (by decide) (by omega) (Nat.mul_one _)) ?_)
      refine tl_step rfl (oj_val (y_ld Try.isAgg3 (fe_t rfl) (rdl_out hr) (getW (by omega))) ?_)
      refine tl_step rfl (oj_val (y_assign (fe_t rfl)) ?_)
      refine tl_step rfl (oj_val (y_assign (fe_t rfl)) ?_)
      refine tl_nil ?_
      refine tx_then ?_
      refine tr_seq ?_
      have hwk1 := hgw0 k (by omega)
      refine tr_region ?_
      refine tl_step rfl (oj_val (y_ldb 3 Try.isAgg3 (fe_t rfl) rfl rfl) ?_)
      refine tl_step rfl (oj_val (y_move (fe_t rfl)) ?_)
      refine tl_step rfl (oj_val (y_add (fe_t rfl) (fe_t rfl) (by omega)) ?_)
      refine tl_step rfl (oj_store1 3 Try.sizeOf3 (fe_t rfl) (fe_t rfl) rfl rfl rfl rfl (?_))
      refine tl_nil ?_
      refine tx_then ?_
      have hwk0 := hgw0 k (by omega)
      refine tr_region ?_
      refine tl_step rfl (oj_val (y_ldb 1 Try.isAgg180 (fe_t rfl) rfl rfl) ?_)
      refine tl_step rfl (oj_val (y_move (fe_t rfl)) ?_)
      refine tl_step rfl (oj_allocR 0 Try.zeroValue37 rfl (fun b_ra H_ra => ?_))
      refine tl_step rfl (oj_allocR 0 Try.zeroValue37 rfl (fun b_rb H_rb => ?_))
      refine tl_step rfl (oj_val ((fun {u0 u1} hx hb => y_build (is := [1, 2]) (vs := [u0, u1]) (cs := [.slice none 0 0, u0, u1]) rfl hx hb) (fel_cons (fe_t rfl) (fel_cons (fe_t rfl) fel_nil)) (by kernel_rfl)) ?_)
      refine tl_step rfl (oj_val (y_index Try.underlying180 Try.sizeOf182 (fe_t rfl) (fe_t rfl) (rdl_vec 2 rfl) (by rw [flat_len hcR0, half_len hini.1 (by omega)]) (by decide) (by omega) rfl) ?_)
      refine tl_step rfl (oj_storeR (i := 2) (some (⟨none, 0, [], b_ra, b_rb⟩ : Rf)) hcR0 Try.sizeOf182 (fe_t rfl) (fe_t rfl) rfl rfl rfl (by rw [half_len hini.1 (by omega)]; omega) (by decide) (?_))
      refine tl_nil ?_
      refine tx_in ?_
      refine tx_then ?_
      refine tr_as (r' := vec 182 3 (.slice (some ⟨g, 0, none⟩) n n) n ((half n (k + 1) (l ++ [(⟨none, 0, [], b_ra, b_rb⟩ : Rf)])).flatMap cR0)) 2 rfl (congrArg (vec _ _ _ _) (congrArg (List.flatMap cR0) (half_set hini.1 (by omega)))) ?_
      refine tr_bagEq 0 rfl (fun es1 he1 => ?_)
      have hini1 : Ini es1 (k + 1) (l ++ [(⟨none, 0, [], b_ra, b_rb⟩ : Rf)]) := by rw [he1]; exact hini.step (.cons _ (.cons _ (.cons _ (.cons _ Ext.rfl)))) ⟨_, _, pget_mem 2 rfl, pget_mem 3 rfl, zero27⟩ ⟨_, _, pget_mem 0 rfl, pget_mem 1 rfl, zero27⟩
      refine tr_region ?_
      refine tl_step rfl (oj_val (y_inc (fe_t rfl) fe_c (by omega)) ?_)
      refine tl_step rfl (oj_val (y_move (fe_t rfl)) ?_)
      refine tl_nil ?_
      apply tx_back6 (k + 1) (_) (_) (_) (_) (_)
      · exact (cov_cons (by first | rfl | exact v_int (by omega) | exact v_int (by dsimp only; omega)) (cov_nil))
      · repeat (first | exact over_nil | refine over_put rfl ?_ | refine over_drop rfl ?_)
      · exact fun w h => h.pick [0, 1, 2, 3, 4] _ rfl (by decide)
      · exact ⟨⟨by omega, by rw [hz, sumw_succ (by omega)], hini1⟩, by omega⟩
  · try (exfalso; omega)
    all_goals
      refine tr_exit ?_
      refine tx_then_exit ?_
      refine tx_then_exit ?_
      refine tx_in_exit ?_
      refine tx_then ?_
      refine tr_seq ?_
      obtain rfl : n = k := by omega
      rw [List.take_of_length_le (by omega)] at hz
      subst hz
      refine tr_as (r' := vec 182 3 (.slice (some ⟨g, 0, none⟩) n n) n (l.flatMap cR)) 2 rfl (congrArg (vec _ _ _ _) (half_all (Nat.le_refl _))) ?_
      refine tr_add (r := subs 3 1 (l.map Rf.bV)) (by rw [hini.bV]; exact subs_nils) (by rw [hini.bV]; exact subs_nils_foot) ?_
      have hgw : ∀ k, k < n → 1 ≤ ws.getD k 0 ∧ ws.getD k 0 ≤ 12 := fun k hk => hgw0 k (by omega)
      have hn16' : n ≤ 16 := by omega
      have hsm : 0 ≤ sumw ws ∧ sumw ws ≤ 192 := by have := sumw_bd hgw0; omega
      refine tr_region ?_
      refine tl_step rfl (oj_val (y_makeFunc (fel_cons (fe_t rfl) (fel_cons (fe_t rfl) (fel_cons (fe_t rfl) fel_nil)))) ?_)
      refine tl_step rfl (oj_val (y_assign (fe_t rfl)) ?_)
      refine tl_nil ?_
      refine tx_then ?_
      refine tr_seq ?_
      refine tr_region ?_
      refine tl_step rfl (oj_allocR 1 Try.zeroValue37 rfl (fun b_tm H_tm => ?_))
      refine tl_step rfl (oj_val (y_assign (fe_t rfl)) ?_)
      refine tl_nil ?_
      refine tx_then ?_
      refine tr_seq ?_
      refine tr_bagEq 1 rfl (fun es1 he1 => ?_)
      have hext : Ext es es1 := by rw [he1]; exact (.cons _ (.cons _ Ext.rfl))
      have hT0 : HoldR es1 b_tm 0 := by rw [he1]; exact ⟨_, _, pget_mem 0 rfl, pget_mem 1 rfl, zero27⟩
      refine tr_region ?_
      refine tl_step rfl (oj_val (y_assign fe_c) ?_)
      refine tl_nil ?_
      refine tx_then ?_
      refine tr_seq ?_
      refine tr_region ?_
      refine tl_step rfl (oj_val (y_assign fe_c) ?_)
      refine tl_nil ?_
      refine tx_then ?_
      refine tr_seq ?_
      refine tr_seq ?_
      refine tr_region ?_
      refine tl_step rfl (oj_val (y_move (fe_t rfl)) ?_)
      refine tl_step rfl (oj_val (y_len Try.underlying91 (fe_t rfl)) ?_)
      refine tl_step rfl (oj_val (y_move fe_c) ?_)
      refine tl_nil ?_
      refine tx_then ?_
      refine tr_block ?_
      refine tr_add (r := vec 24 1 (.slice none 0 0) 0 []) vec_nil rfl ?_
      refine tr_add (r := vec 102 2 (.slice none 0 0) 0 []) vec_nil rfl ?_
      refine tr_loop9 [12, 13, 14, 16, 17, 18, 19, 20, 21, 22, 23, 24, 25, 53, 54, 55, 56, 57, 58, 59, 60, 61, 62, 63, 64, 65, 66, 67, 68, 69, 70, 71, 72, 73, 74, 75, 76, 77, 78, 79, 80, 81, 82, 83, 84, 85, 86, 87, 88, 89, 90, 91, 92, 93, 94, 95, 96, 97, 98, 99, 100, 101, 102, 103, 104, 105, 106, 107, 108, 109, 110, 111, 112, 113, 114, 115, 116, 117, 118, 119, 120, 121, 122, 123, 124, 125, 126, 127, 128, 129, 130, 131, 132, 133, 134, 135, 136, 137, 138, 139, 140, 141, 142, 143, 144, 145, 146, 147, 148, 149, 150, 151, 152, 153, 154, 155, 156, 157, 158, 159, 160, 161, 162, 163, 164, 165, 166, 167, 168, 169, 170, 171, 172, 173, 174, 175, 176, 177, 178, 179, 180, 181, 182, 183, 184, 185, 186, 187, 188, 189, 190, 191, 192, 193, 194, 195, 196, 197, 198, 199, 200, 201, 202, 203, 204, 205, 206, 207, 208, 209, 210, 211, 212, 213, 214, 215, 216, 217, 218, 219, 220, 221, 222, 223, 224, 225, 226, 227, 228, 229, 230, 231, 232, 233, 234, 235, 236, 237, 238, 239, 240, 241, 242, 243, 244, 245, 246, 247, 248, 249, 250, 251, 252, 253, 254, 255, 256, 257, 258, 259, 260, 261, 262, 263, 264, 265, 266, 267, 268] (fun (i : Nat) (s : S) (l : List Rf) (e1 : Vs) (s1 : Vs) (pt : Nat) (Hx : List Nat) (Dx : List Nat) (es : List Ent) => [(53, .int .i64 (i : Int)), (12, .pointer (some ⟨pt, 0, none⟩)), (13, .slice e1.A e1.n e1.c), (14, .slice s1.A s1.n s1.c)]) 0 (fun (i : Nat) (s : S) (l : List Rf) (e1 : Vs) (s1 : Vs) (pt : Nat) (Hx : List Nat) (Dx : List Nat) (es : List Ent) => [(5, vec 182 3 (.slice (some ⟨g, 0, none⟩) n n) n (l.flatMap cR)), (2, subs 3 1 (l.map Rf.bV)), (3, bag Hx Dx es), (1, vec 24 1 (.slice e1.A e1.n e1.c) e1.n e1.xs), (0, vec 102 2 (.slice s1.A s1.n s1.c) s1.n s1.xs)]) (fun (i : Nat) (s : S) (l : List Rf) (e1 : Vs) (s1 : Vs) (pt : Nat) (Hx : List Nat) (Dx : List Nat) (es : List Ent) => i ≤ m ∧ Run ws os n i s ∧ l.length = n ∧ Rel es n l s.fs ∧ HoldR es pt s.time ∧ (e1.n = s.errs.length ∧ e1.xs = cI s.errs) ∧ s1.n = s.sent.length ∧ s1.xs = s.sent.flatMap c2) (fun (i : Nat) (s : S) (l : List Rf) (e1 : Vs) (s1 : Vs) (pt : Nat) (Hx : List Nat) (Dx : List Nat) (es : List Ent) => m - i) (0) (⟨List.replicate n Q.nil, 0, [], []⟩) (_) (⟨none, 0, 0, []⟩ : Vs) (⟨none, 0, 0, []⟩ : Vs) (_) (_) (_) (_) (cov_cons (by first | rfl | exact v_int (by omega) | exact v_int (by dsimp only; omega)) (cov_cons (by first | rfl | exact v_int (by omega) | exact v_int (by dsimp only; omega)) (cov_cons (by first | rfl | exact v_int (by omega) | exact v_int (by dsimp only; omega)) (cov_cons (by first | rfl | exact v_int (by omega) | exact v_int (by dsimp only; omega)) (cov_nil))))) (fun w h => h) ?_ ?_
      · try dsimp only
        exact ⟨by omega, rfl, hini.1, (hini.rel rfl).mono hext, hT0, ⟨rfl, rfl⟩, rfl, rfl⟩
      intro i s l e1 s1 pt Hx Dx es hp
      obtain ⟨hi, hrun, hll, hrel, hTm, ⟨hen, hex⟩, hsn, hsx⟩ := hp
      have hwf := run_wf hn hn16' hgw hrun
      have hnw := hwf.time
      have hel := hwf.errs
      have hsl := hwf.sent
      have hfl := hwf.len
      refine tr_seq ?_
      refine tr_region ?_
      refine tl_step rfl (oj_val (y_lss (fe_t rfl) (fe_t rfl)) ?_)
      refine tl_nil ?_
      refine tx_then ?_
      refine tr_seq ?_
      refine tr_condp (fe_t rfl) (fun hq3 => ?_) (fun hq4 => ?_)
      · try (exfalso; omega)
        all_goals
          refine tr_skip ?_
          refine tx_then ?_
          refine tr_seq ?_
          refine tr_block ?_
          refine tr_seq ?_
          refine tr_region ?_
          refine tl_step rfl (oj_val (y_index Try.underlying91 Try.sizeOf174 (fe_t rfl) (fe_t rfl) (rdl_out hr2) (lenO hn2) (by decide) (by omega) rfl) ?_)
          refine tl_step rfl (oj_val (y_ldA (cs := [(.int .i64 (o1 os i)), (.int .i64 (o2 os i)), (.int .i64 (o3 os i))]) Try.isAgg174 Try.sizeOf174 (fe_t rfl) (rdl_out hr2) rfl (by decide) (getO (by omega))) ?_)
          refine tl_step rfl (oj_alloc Try.zeroValue174 (fun bo => ?_))
          refine tl_step rfl (oj_storeW 0 Try.sizeOf174 (fe_t rfl) (fe_t rfl) rfl rfl rfl rfl rfl (?_))
          refine tl_nil ?_
          refine tx_then ?_
          refine tr_seq ?_
          refine tr_region ?_
          refine tl_step rfl (oj_val (y_assign fe_c) ?_)
          refine tl_nil ?_
          refine tx_then ?_
          refine tr_seq ?_
          refine tr_block ?_
          refine tr_seq ?_
          refine tr_region ?_
          refine tl_step rfl (oj_val (y_fieldAddr (td := 3) Try.underlying174 rfl rfl Try.sizeOf3 (o' := 0) rfl (fe_t rfl)) ?_)
          refine tl_step rfl (oj_val (y_ldb 0 Try.isAgg3 (fe_t rfl) rfl rfl) ?_)
          refine tl_step rfl (oj_val (y_lss (fe_t rfl) fe_c) ?_)
          refine tl_step rfl (oj_val (y_move (fe_t rfl)) ?_)
          refine tl_splitp (d := 184) rfl (fun hq5 => ?_) (fun hq6 => ?_)
          · try (exfalso; omega)
            all_goals
              refine tl_skip rfl rfl rfl rfl ?_
              refine tl_skip rfl rfl rfl rfl ?_
              refine tl_skip rfl rfl rfl rfl ?_
              refine tl_step rfl (oj_val (y_pickt (fe_t rfl) fe_c) ?_)
              refine tl_step rfl (oj_val (y_assign (fe_t rfl)) ?_)
              refine tl_nil ?_
              refine tx_then ?_
              refine tr_condt (fe_t rfl) ?_
              refine tr_region ?_
              refine tl_step rfl (oj_val (y_assign fe_c) ?_)
              refine tl_nil ?_
              refine tx_in ?_
              refine tx_then ?_
              refine tr_region ?_
              refine tl_step rfl (oj_val (y_move (fe_t rfl)) ?_)
              refine tl_step rfl (oj_val (y_move (fe_t rfl)) ?_)
              refine tl_step rfl (oj_slice1 Try.underlying92 Try.sizeOf24 Try.zeroValue24 (fe_t rfl) (by decide) rfl (fun b1 => ?_))
              refine tl_step rfl (oj_append (i := 3) (s := 1) (z := (.int .i64 0)) (bytes := 8) Try.underlying92 (by kernel_rfl) (fe_t rfl) (fe_t rfl) rfl (rdl_blk 0 rfl) rfl (by decide) (by first | exact oneI | exact oneF (fun _ => rfl) | exact fun u hu => List.all_eq_true.1 (show List.all _ (fun x => x.oneCell') = true from rfl) u hu | (intro u hu; revert u hu; simp [Value.oneCell'])) (by decide) ⟨by omega, by decide⟩ (fun Aa1 ca1 hca1 => ?_))
              refine tl_step rfl (oj_val (y_assign (fe_t rfl)) ?_)
              refine tl_nil ?_
              refine tx_in ?_
              refine tx_then ?_
              refine tr_region ?_
              refine tl_step rfl (oj_val (y_inc (fe_t rfl) fe_c (by omega)) ?_)
              refine tl_step rfl (oj_val (y_move (fe_t rfl)) ?_)
              refine tl_nil ?_
              apply tx_back9 (i + 1) ({ s with errs := s.errs ++ [5] }) (l) ((⟨_, _, _, _⟩ : Vs)) ((⟨_, _, _, _⟩ : Vs)) (pt) (_) (_) (es)
              · exact (cov_cons (by first | rfl | exact v_int (by omega) | exact v_int (by dsimp only; omega)) (cov_cons (by first | rfl | exact v_int (by omega) | exact v_int (by dsimp only; omega)) (cov_cons (by first | rfl | exact v_int (by omega) | exact v_int (by dsimp only; omega)) (cov_cons (by first | rfl | exact v_int (by omega) | exact v_int (by dsimp only; omega)) (cov_nil)))))
              · repeat (first | exact over_nil | refine over_put rfl ?_ | refine over_drop rfl ?_)
              · exact fun w h => h.pick [2, 3, 4, 5, 6, 7, 8, 9] _ rfl (by decide)
              · exact ⟨⟨by omega, ⟨s, hrun, .kind (by show o1 os i ≠ 1; omega) (by show o1 os i ≠ 2; omega)⟩, hll, hrel, hTm, ⟨by simp; omega, by dsimp only; rw [hex, cI, cI, List.map_append]; rfl⟩, hsn, hsx⟩, by omega⟩
          · try (exfalso; omega)
            all_goals
              refine tl_want rfl rfl rfl (oj_val (y_fieldAddr (td := 3) Try.underlying174 rfl rfl Try.sizeOf3 (o' := 0) rfl (fe_t rfl)) ?_)
              refine tl_want rfl rfl rfl (oj_val (y_ldb 0 Try.isAgg3 (fe_t rfl) rfl rfl) ?_)
              refine tl_want rfl rfl rfl (oj_val (y_gtr (fe_t rfl) fe_c) ?_)
              refine tl_step rfl (oj_val (y_pickf (fe_t rfl) (fe_t rfl)) ?_)
              refine tl_step rfl (oj_val (y_assign (fe_t rfl)) ?_)
              refine tl_nil ?_
              refine tx_then ?_
              refine tr_condp (fe_t rfl) (fun hq7 => ?_) (fun hq8 => ?_)
              · try (exfalso; omega)
                all_goals
                  refine tr_region ?_
                  refine tl_step rfl (oj_val (y_assign fe_c) ?_)
                  refine tl_nil ?_
                  refine tx_in ?_
                  refine tx_then ?_
                  refine tr_region ?_
                  refine tl_step rfl (oj_val (y_move (fe_t rfl)) ?_)
                  refine tl_step rfl (oj_val (y_move (fe_t rfl)) ?_)
                  refine tl_step rfl (oj_slice1 Try.underlying92 Try.sizeOf24 Try.zeroValue24 (fe_t rfl) (by decide) rfl (fun b2 => ?_))
                  refine tl_step rfl (oj_append (i := 3) (s := 1) (z := (.int .i64 0)) (bytes := 8) Try.underlying92 (by kernel_rfl) (fe_t rfl) (fe_t rfl) rfl (rdl_blk 0 rfl) rfl (by decide) (by first | exact oneI | exact oneF (fun _ => rfl) | exact fun u hu => List.all_eq_true.1 (show List.all _ (fun x => x.oneCell') = true from rfl) u hu | (intro u hu; revert u hu; simp [Value.oneCell'])) (by decide) ⟨by omega, by decide⟩ (fun Aa2 ca2 hca2 => ?_))
                  refine tl_step rfl (oj_val (y_assign (fe_t rfl)) ?_)
                  refine tl_nil ?_
                  refine tx_in ?_
                  refine tx_then ?_
                  refine tr_region ?_
                  refine tl_step rfl (oj_val (y_inc (fe_t rfl) fe_c (by omega)) ?_)
                  refine tl_step rfl (oj_val (y_move (fe_t rfl)) ?_)
                  refine tl_nil ?_
                  apply tx_back9 (i + 1) ({ s with errs := s.errs ++ [5] }) (l) ((⟨_, _, _, _⟩ : Vs)) ((⟨_, _, _, _⟩ : Vs)) (pt) (_) (_) (es)
                  · exact (cov_cons (by first | rfl | exact v_int (by omega) | exact v_int (by dsimp only; omega)) (cov_cons (by first | rfl | exact v_int (by omega) | exact v_int (by dsimp only; omega)) (cov_cons (by first | rfl | exact v_int (by omega) | exact v_int (by dsimp only; omega)) (cov_cons (by first | rfl | exact v_int (by omega) | exact v_int (by dsimp only; omega)) (cov_nil)))))
                  · repeat (first | exact over_nil | refine over_put rfl ?_ | refine over_drop rfl ?_)
                  · exact fun w h => h.pick [2, 3, 4, 5, 6, 7, 8, 9] _ rfl (by decide)
                  · exact ⟨⟨by omega, ⟨s, hrun, .kind (by show o1 os i ≠ 1; omega) (by show o1 os i ≠ 2; omega)⟩, hll, hrel, hTm, ⟨by simp; omega, by dsimp only; rw [hex, cI, cI, List.map_append]; rfl⟩, hsn, hsx⟩, by omega⟩
              · try (exfalso; omega)
                all_goals
                  refine tr_seq ?_
                  refine tr_region ?_
                  refine tl_step rfl (oj_val (y_fieldAddr (td := 3) Try.underlying174 rfl rfl Try.sizeOf3 (o' := 0) rfl (fe_t rfl)) ?_)
                  refine tl_step rfl (oj_val (y_ldb 0 Try.isAgg3 (fe_t rfl) rfl rfl) ?_)
                  refine tl_step rfl (oj_val (y_eq (fe_t rfl) fe_c) ?_)
                  refine tl_step rfl (oj_val (y_move (fe_t rfl)) ?_)
                  refine tl_splitp (d := 193) rfl (fun hq9 => ?_) (fun hq10 => ?_)
                  · try (exfalso; omega)
                    all_goals
                      refine tl_want rfl rfl rfl (oj_val (y_fieldAddr (td := 3) Try.underlying174 rfl rfl Try.sizeOf3 (o' := 1) rfl (fe_t rfl)) ?_)
                      refine tl_want rfl rfl rfl (oj_val (y_ldb 0 Try.isAgg3 (fe_t rfl) rfl rfl) ?_)
                      refine tl_want rfl rfl rfl (oj_val (y_lss (fe_t rfl) fe_c) ?_)
                      refine tl_want rfl rfl rfl (oj_val (y_move (fe_t rfl)) ?_)
                      refine tl_splitp (d := 197) rfl (fun hq11 => ?_) (fun hq12 => ?_)
                      · try (exfalso; omega)
                        all_goals
                          refine tl_skip rfl rfl rfl rfl ?_
                          refine tl_skip rfl rfl rfl rfl ?_
                          refine tl_skip rfl rfl rfl rfl ?_
                          refine tl_skip rfl rfl rfl rfl ?_
                          refine tl_skip rfl rfl rfl rfl ?_
                          refine tl_want rfl rfl rfl (oj_val (y_pickt (fe_t rfl) fe_c) ?_)
                          refine tl_step rfl (oj_val (y_pickt (fe_t rfl) (fe_t rfl)) ?_)
                          refine tl_step rfl (oj_val (y_assign (fe_t rfl)) ?_)
                          refine tl_nil ?_
                          refine tx_then ?_
                          refine tr_condt (fe_t rfl) ?_
                          refine tr_region ?_
                          refine tl_step rfl (oj_val (y_assign fe_c) ?_)
                          refine tl_nil ?_
                          refine tx_in ?_
                          refine tx_then ?_
                          refine tr_region ?_
                          refine tl_step rfl (oj_val (y_move (fe_t rfl)) ?_)
                          refine tl_step rfl (oj_val (y_move (fe_t rfl)) ?_)
                          refine tl_step rfl (oj_slice1 Try.underlying92 Try.sizeOf24 Try.zeroValue24 (fe_t rfl) (by decide) rfl (fun b3 => ?_))
                          refine tl_step rfl (oj_append (i := 3) (s := 1) (z := (.int .i64 0)) (bytes := 8) Try.underlying92 (by kernel_rfl) (fe_t rfl) (fe_t rfl) rfl (rdl_blk 0 rfl) rfl (by decide) (by first | exact oneI | exact oneF (fun _ => rfl) | exact fun u hu => List.all_eq_true.1 (show List.all _ (fun x => x.oneCell') = true from rfl) u hu | (intro u hu; revert u hu; simp [Value.oneCell'])) (by decide) ⟨by omega, by decide⟩ (fun Aa3 ca3 hca3 => ?_))
                          refine tl_step rfl (oj_val (y_assign (fe_t rfl)) ?_)
                          refine tl_nil ?_
                          refine tx_in ?_
                          refine tx_then ?_
                          refine tr_region ?_
                          refine tl_step rfl (oj_val (y_inc (fe_t rfl) fe_c (by omega)) ?_)
                          refine tl_step rfl (oj_val (y_move (fe_t rfl)) ?_)
                          refine tl_nil ?_
                          apply tx_back9 (i + 1) ({ s with errs := s.errs ++ [3] }) (l) ((⟨_, _, _, _⟩ : Vs)) ((⟨_, _, _, _⟩ : Vs)) (pt) (_) (_) (es)
                          · exact (cov_cons (by first | rfl | exact v_int (by omega) | exact v_int (by dsimp only; omega)) (cov_cons (by first | rfl | exact v_int (by omega) | exact v_int (by dsimp only; omega)) (cov_cons (by first | rfl | exact v_int (by omega) | exact v_int (by dsimp only; omega)) (cov_cons (by first | rfl | exact v_int (by omega) | exact v_int (by dsimp only; omega)) (cov_nil)))))
                          · repeat (first | exact over_nil | refine over_put rfl ?_ | refine over_drop rfl ?_)
                          · exact fun w h => h.pick [2, 3, 4, 5, 6, 7, 8, 9] _ rfl (by decide)
                          · exact ⟨⟨by omega, ⟨s, hrun, .none (by show o1 os i = 1; omega) (by show o2 os i < 0 ∨ _ ≤ o2 os i; omega)⟩, hll, hrel, hTm, ⟨by simp; omega, by dsimp only; rw [hex, cI, cI, List.map_append]; rfl⟩, hsn, hsx⟩, by omega⟩
                      · try (exfalso; omega)
                        all_goals
                          refine tl_want rfl rfl rfl (oj_val (y_fieldAddr (td := 3) Try.underlying174 rfl rfl Try.sizeOf3 (o' := 1) rfl (fe_t rfl)) ?_)
                          refine tl_want rfl rfl rfl (oj_val (y_ldb 0 Try.isAgg3 (fe_t rfl) rfl rfl) ?_)
                          refine tl_want rfl rfl rfl (oj_val (y_ldb 5 Try.isAgg180 (fe_t rfl) rfl rfl) ?_)
                          refine tl_want rfl rfl rfl (oj_val (y_len Try.underlying180 (fe_t rfl)) ?_)
                          refine tl_want rfl rfl rfl (oj_val (y_geq (fe_t rfl) (fe_t rfl)) ?_)
                          refine tl_want rfl rfl rfl (oj_val (y_pickf (fe_t rfl) (fe_t rfl)) ?_)
                          refine tl_step rfl (oj_val (y_pickt (fe_t rfl) (fe_t rfl)) ?_)
                          refine tl_step rfl (oj_val (y_assign (fe_t rfl)) ?_)
                          refine tl_nil ?_
                          refine tx_then ?_
                          refine tr_condp (fe_t rfl) (fun hq13 => ?_) (fun hq14 => ?_)
                          · try (exfalso; omega)
                            all_goals
                              refine tr_region ?_
                              refine tl_step rfl (oj_val (y_assign fe_c) ?_)
                              refine tl_nil ?_
                              refine tx_in ?_
                              refine tx_then ?_
                              refine tr_region ?_
                              refine tl_step rfl (oj_val (y_move (fe_t rfl)) ?_)
                              refine tl_step rfl (oj_val (y_move (fe_t rfl)) ?_)
                              refine tl_step rfl (oj_slice1 Try.underlying92 Try.sizeOf24 Try.zeroValue24 (fe_t rfl) (by decide) rfl (fun b4 => ?_))
                              refine tl_step rfl (oj_append (i := 3) (s := 1) (z := (.int .i64 0)) (bytes := 8) Try.underlying92 (by kernel_rfl) (fe_t rfl) (fe_t rfl) rfl (rdl_blk 0 rfl) rfl (by decide) (by first | exact oneI | exact oneF (fun _ => rfl) | exact fun u hu => List.all_eq_true.1 (show List.all _ (fun x => x.oneCell') = true from rfl) u hu | (intro u hu; revert u hu; simp [Value.oneCell'])) (by decide) ⟨by omega, by decide⟩ (fun Aa4 ca4 hca4 => ?_))
                              refine tl_step rfl (oj_val (y_assign (fe_t rfl)) ?_)
                              refine tl_nil ?_
                              refine tx_in ?_
                              refine tx_then ?_
                              refine tr_region ?_
                              refine tl_step rfl (oj_val (y_inc (fe_t rfl) fe_c (by omega)) ?_)
                              refine tl_step rfl (oj_val (y_move (fe_t rfl)) ?_)
                              refine tl_nil ?_
                              apply tx_back9 (i + 1) ({ s with errs := s.errs ++ [3] }) (l) ((⟨_, _, _, _⟩ : Vs)) ((⟨_, _, _, _⟩ : Vs)) (pt) (_) (_) (es)
                              · exact (cov_cons (by first | rfl | exact v_int (by omega) | exact v_int (by dsimp only; omega)) (cov_cons (by first | rfl | exact v_int (by omega) | exact v_int (by dsimp only; omega)) (cov_cons (by first | rfl | exact v_int (by omega) | exact v_int (by dsimp only; omega)) (cov_cons (by first | rfl | exact v_int (by omega) | exact v_int (by dsimp only; omega)) (cov_nil)))))
                              · repeat (first | exact over_nil | refine over_put rfl ?_ | refine over_drop rfl ?_)
                              · exact fun w h => h.pick [2, 3, 4, 5, 6, 7, 8, 9] _ rfl (by decide)
                              · exact ⟨⟨by omega, ⟨s, hrun, .none (by show o1 os i = 1; omega) (by show o2 os i < 0 ∨ _ ≤ o2 os i; omega)⟩, hll, hrel, hTm, ⟨by simp; omega, by dsimp only; rw [hex, cI, cI, List.map_append]; rfl⟩, hsn, hsx⟩, by omega⟩
                          · try (exfalso; omega)
                            all_goals
                              refine tr_seq ?_
                              refine tr_region ?_
                              refine tl_step rfl (oj_val (y_fieldAddr (td := 3) Try.underlying174 rfl rfl Try.sizeOf3 (o' := 0) rfl (fe_t rfl)) ?_)
                              refine tl_step rfl (oj_val (y_ldb 0 Try.isAgg3 (fe_t rfl) rfl rfl) ?_)
                              refine tl_step rfl (oj_val (y_eq (fe_t rfl) fe_c) ?_)
                              refine tl_step rfl (oj_val (y_move (fe_t rfl)) ?_)
                              refine tl_splitp (d := 209) rfl (fun hq15 => ?_) (fun hq16 => ?_)
                              · try (exfalso; omega)
                                all_goals
                                  refine tl_want rfl rfl rfl (oj_val (y_fieldAddr (td := 3) Try.underlying174 rfl rfl Try.sizeOf3 (o' := 2) rfl (fe_t rfl)) ?_)
                                  refine tl_want rfl rfl rfl (oj_val (y_ldb 0 Try.isAgg3 (fe_t rfl) rfl rfl) ?_)
                                  refine tl_want rfl rfl rfl (oj_val (y_lss (fe_t rfl) fe_c) ?_)
                                  refine tl_want rfl rfl rfl (oj_val (y_move (fe_t rfl)) ?_)
                                  refine tl_splitp (d := 213) rfl (fun hq17 => ?_) (fun hq18 => ?_)
                                  · try (exfalso; omega)
                                    all_goals
                                      refine tl_skip rfl rfl rfl rfl ?_
                                      refine tl_skip rfl rfl rfl rfl ?_
                                      refine tl_skip rfl rfl rfl rfl ?_
                                      refine tl_want rfl rfl rfl (oj_val (y_pickt (fe_t rfl) fe_c) ?_)
                                      refine tl_step rfl (oj_val (y_pickt (fe_t rfl) (fe_t rfl)) ?_)
                                      refine tl_step rfl (oj_val (y_assign (fe_t rfl)) ?_)
                                      refine tl_nil ?_
                                      refine tx_then ?_
                                      refine tr_condt (fe_t rfl) ?_
                                      refine tr_region ?_
                                      refine tl_step rfl (oj_val (y_assign fe_c) ?_)
                                      refine tl_nil ?_
                                      refine tx_in ?_
                                      refine tx_then ?_
                                      refine tr_region ?_
                                      refine tl_step rfl (oj_val (y_move (fe_t rfl)) ?_)
                                      refine tl_step rfl (oj_val (y_move (fe_t rfl)) ?_)
                                      refine tl_step rfl (oj_slice1 Try.underlying92 Try.sizeOf24 Try.zeroValue24 (fe_t rfl) (by decide) rfl (fun b5 => ?_))
                                      refine tl_step rfl (oj_append (i := 3) (s := 1) (z := (.int .i64 0)) (bytes := 8) Try.underlying92 (by kernel_rfl) (fe_t rfl) (fe_t rfl) rfl (rdl_blk 0 rfl) rfl (by decide) (by first | exact oneI | exact oneF (fun _ => rfl) | exact fun u hu => List.all_eq_true.1 (show List.all _ (fun x => x.oneCell') = true from rfl) u hu | (intro u hu; revert u hu; simp [Value.oneCell'])) (by decide) ⟨by omega, by decide⟩ (fun Aa5 ca5 hca5 => ?_))
                                      refine tl_step rfl (oj_val (y_assign (fe_t rfl)) ?_)
                                      refine tl_nil ?_
                                      refine tx_in ?_
                                      refine tx_then ?_
                                      refine tr_region ?_
                                      refine tl_step rfl (oj_val (y_inc (fe_t rfl) fe_c (by omega)) ?_)
                                      refine tl_step rfl (oj_val (y_move (fe_t rfl)) ?_)
                                      refine tl_nil ?_
                                      apply tx_back9 (i + 1) ({ s with errs := s.errs ++ [2] }) (l) ((⟨_, _, _, _⟩ : Vs)) ((⟨_, _, _, _⟩ : Vs)) (pt) (_) (_) (es)
                                      · exact (cov_cons (by first | rfl | exact v_int (by omega) | exact v_int (by dsimp only; omega)) (cov_cons (by first | rfl | exact v_int (by omega) | exact v_int (by dsimp only; omega)) (cov_cons (by first | rfl | exact v_int (by omega) | exact v_int (by dsimp only; omega)) (cov_cons (by first | rfl | exact v_int (by omega) | exact v_int (by dsimp only; omega)) (cov_nil)))))
                                      · repeat (first | exact over_nil | refine over_put rfl ?_ | refine over_drop rfl ?_)
                                      · exact fun w h => h.pick [2, 3, 4, 5, 6, 7, 8, 9] _ rfl (by decide)
                                      · exact ⟨⟨by omega, ⟨s, hrun, .range (by show o1 os i = 1; omega) (by show 0 ≤ o2 os i ∧ o2 os i < _; omega) (by show o3 os i < 1 ∨ 1500 < o3 os i; omega)⟩, hll, hrel, hTm, ⟨by simp; omega, by dsimp only; rw [hex, cI, cI, List.map_append]; rfl⟩, hsn, hsx⟩, by omega⟩
                                  · try (exfalso; omega)
                                    all_goals
                                      refine tl_want rfl rfl rfl (oj_val (y_fieldAddr (td := 3) Try.underlying174 rfl rfl Try.sizeOf3 (o' := 2) rfl (fe_t rfl)) ?_)
                                      refine tl_want rfl rfl rfl (oj_val (y_ldb 0 Try.isAgg3 (fe_t rfl) rfl rfl) ?_)
                                      refine tl_want rfl rfl rfl (oj_val (y_gtr (fe_t rfl) fe_c) ?_)
                                      refine tl_want rfl rfl rfl (oj_val (y_pickf (fe_t rfl) (fe_t rfl)) ?_)
                                      refine tl_step rfl (oj_val (y_pickt (fe_t rfl) (fe_t rfl)) ?_)
                                      refine tl_step rfl (oj_val (y_assign (fe_t rfl)) ?_)
                                      refine tl_nil ?_
                                      refine tx_then ?_
                                      refine tr_condp (fe_t rfl) (fun hq19 => ?_) (fun hq20 => ?_)
                                      · try (exfalso; omega)
                                        all_goals
                                          refine tr_region ?_
                                          refine tl_step rfl (oj_val (y_assign fe_c) ?_)
                                          refine tl_nil ?_
                                          refine tx_in ?_
                                          refine tx_then ?_
                                          refine tr_region ?_
                                          refine tl_step rfl (oj_val (y_move (fe_t rfl)) ?_)
                                          refine tl_step rfl (oj_val (y_move (fe_t rfl)) ?_)
                                          refine tl_step rfl (oj_slice1 Try.underlying92 Try.sizeOf24 Try.zeroValue24 (fe_t rfl) (by decide) rfl (fun b6 => ?_))
                                          refine tl_step rfl (oj_append (i := 3) (s := 1) (z := (.int .i64 0)) (bytes := 8) Try.underlying92 (by kernel_rfl) (fe_t rfl) (fe_t rfl) rfl (rdl_blk 0 rfl) rfl (by decide) (by first | exact oneI | exact oneF (fun _ => rfl) | exact fun u hu => List.all_eq_true.1 (show List.all _ (fun x => x.oneCell') = true from rfl) u hu | (intro u hu; revert u hu; simp [Value.oneCell'])) (by decide) ⟨by omega, by decide⟩ (fun Aa6 ca6 hca6 => ?_))
                                          refine tl_step rfl (oj_val (y_assign (fe_t rfl)) ?_)
                                          refine tl_nil ?_
                                          refine tx_in ?_
                                          refine tx_then ?_
                                          refine tr_region ?_
                                          refine tl_step rfl (oj_val (y_inc (fe_t rfl) fe_c (by omega)) ?_)
                                          refine tl_step rfl (oj_val (y_move (fe_t rfl)) ?_)
                                          refine tl_nil ?_
                                          apply tx_back9 (i + 1) ({ s with errs := s.errs ++ [2] }) (l) ((⟨_, _, _, _⟩ : Vs)) ((⟨_, _, _, _⟩ : Vs)) (pt) (_) (_) (es)
                                          · exact (cov_cons (by first | rfl | exact v_int (by omega) | exact v_int (by dsimp only; omega)) (cov_cons (by first | rfl | exact v_int (by omega) | exact v_int (by dsimp only; omega)) (cov_cons (by first | rfl | exact v_int (by omega) | exact v_int (by dsimp only; omega)) (cov_cons (by first | rfl | exact v_int (by omega) | exact v_int (by dsimp only; omega)) (cov_nil)))))
                                          · repeat (first | exact over_nil | refine over_put rfl ?_ | refine over_drop rfl ?_)
                                          · exact fun w h => h.pick [2, 3, 4, 5, 6, 7, 8, 9] _ rfl (by decide)
                                          · exact ⟨⟨by omega, ⟨s, hrun, .range (by show o1 os i = 1; omega) (by show 0 ≤ o2 os i ∧ o2 os i < _; omega) (by show o3 os i < 1 ∨ 1500 < o3 os i; omega)⟩, hll, hrel, hTm, ⟨by simp; omega, by dsimp only; rw [hex, cI, cI, List.map_append]; rfl⟩, hsn, hsx⟩, by omega⟩
                                      · try (exfalso; omega)
                                        all_goals
                                          refine tr_seq ?_
                                          refine tr_region ?_
                                          refine tl_step rfl (oj_val (y_fieldAddr (td := 3) Try.underlying174 rfl rfl Try.sizeOf3 (o' := 0) rfl (fe_t rfl)) ?_)
                                          refine tl_step rfl (oj_val (y_ldb 0 Try.isAgg3 (fe_t rfl) rfl rfl) ?_)
                                          refine tl_step rfl (oj_val (y_eq (fe_t rfl) fe_c) ?_)
                                          refine tl_step rfl (oj_val (y_assign (fe_t rfl)) ?_)
                                          refine tl_nil ?_
                                          refine tx_then ?_
                                          refine tr_condp (fe_t rfl) (fun hq21 => ?_) (fun hq22 => ?_)
                                          · try (exfalso; omega)
                                            all_goals
                                              refine tr_seq ?_
                                              obtain ⟨k, hk⟩ : ∃ k : Nat, o2 os i = k := ⟨(o2 os i).toNat, by omega⟩
                                              have hkn : k < n := by omega
                                              have hkc := hwf.cnt k
                                              have hke := (hwf.ok k).2.1
                                              have hRk := hrel k hkn
                                              have hkb : (l.getD k Rf.nil).bs.length = (gq s.fs k).bs.length := by rw [hRk.bs]
                                              refine tr_region ?_
                                              refine tl_step rfl (oj_val (y_ldb 5 Try.isAgg180 (fe_t rfl) rfl rfl) ?_)
                                              refine tl_step rfl (oj_val (y_fieldAddr (td := 3) Try.underlying174 rfl rfl Try.sizeOf3 (o' := 1) rfl (fe_t rfl)) ?_)
                                              refine tl_step rfl (oj_val (y_ldb 0 Try.isAgg3 (fe_t rfl) rfl rfl) ?_)
                                              refine tl_step rfl (oj_val (y_index Try.underlying180 Try.sizeOf182 (fe_t rfl) (fe_i hk rfl) (rdl_vec 6 rfl) (by rw [flat_len hcR]; omega) (by decide) (by omega) rfl) ?_)
                                              refine tl_step rfl (oj_val (y_assign (fe_t rfl)) ?_)
                                              refine tl_nil ?_
                                              refine tx_then ?_
                                              refine tr_seq ?_
                                              refine tr_subOut 3 k rfl (map_at (d := Rf.nil) Rf.bV (by omega)) ?_
                                              have hbn : (Rf.bV (l.getD k Rf.nil)).n ≤ 400 := by show (l.getD k Rf.nil).bs.length ≤ 400; omega
                                              refine tr_norm (L' := [_, _, _, _, _, _, _, _, _, _]) (fun w h => h.pick [0, 1, 2, 3, 4, 5, 6, 7, 8, 9] _ rfl (by decide)) ?_
                                              refine tb_draw1 11 [_, _, _, _, _, _, _, _, _] [_, _, _, _, _, _, _, _, _] (fun w h => h.pick [1, 2, 3, 4, 5, 6, 7, 8, 9] _ rfl (by decide)) (fun w h => (h.weak (i := 6) rfl).pick [6, 0, 1, 2, 3, 4, 5, 7, 8] _ rfl (by decide)) rfl ?_
                                              refine tb_float (i := 0) rfl (by kernel_rfl) rfl (wants_none rfl) (yq_of (y_move (fe_t rfl))) ?_
                                              refine tb_float (i := 1) rfl (by kernel_rfl) rfl (wants_none rfl) (yq_of (y_move (fe_t rfl))) ?_
                                              refine tb_float (i := 2) rfl (by kernel_rfl) rfl (wants_none rfl) (yq_of (y_nilCheckR (fe_t rfl) (rch_w 0 rfl (by omega)))) ?_
                                              refine tb_float (i := 3) rfl (by kernel_rfl) rfl (wants_none rfl) (yq_of (y_fieldAddrR (td := 79) Try.underlying182 rfl rfl Try.sizeOf79 rfl (fe_t rfl) (rch_w 0 rfl (by omega)))) ?_
                                              refine tb_float1 (i := 4) rfl (by kernel_rfl) (by kernel_rfl) rfl (wants_none rfl) (yq_of (y_ld Try.isAgg79 (fe_t rfl) (rdl_vec 6 rfl) (flatG (d := Rf.nil) (i := 0) hcR (by omega) rfl))) ?_
                                              refine tb_float (i := 5) rfl (by kernel_rfl) rfl (wants_none rfl) (yq_of (y_fieldAddr (td := 3) Try.underlying174 rfl rfl Try.sizeOf3 (o' := 2) rfl (fe_t rfl))) ?_
                                              refine tb_float (i := 6) rfl (by kernel_rfl) rfl (wants_none rfl) (yq_of (y_ldb 1 Try.isAgg3 (fe_t rfl) rfl rfl)) ?_
                                              refine tb_one1 (i := 7) rfl (by kernel_rfl) (by kernel_rfl) (wants_none rfl) (oj_slice1 Try.underlying79 Try.sizeOf3 Try.zeroValue3 (fe_t rfl) (by decide) rfl (fun b7 => ⟨fun w h => h.pick [2, 3, 4, 5, 6, 7, 8, 9, 10] _ rfl (by decide), ?_⟩))
                                              refine tb_one1 (i := 8) rfl (by kernel_rfl) (by kernel_rfl) (wants_none rfl) (oj_append (i := 1) (s := 1) (z := (.int .i64 0)) (bytes := 8) Try.underlying79 (by kernel_rfl) (fe_t rfl) (fe_t rfl) rfl (rdl_blk 0 rfl) rfl (by decide) (by first | exact oneI | exact oneF (fun _ => rfl) | exact fun u hu => List.all_eq_true.1 (show List.all _ (fun x => x.oneCell') = true from rfl) u hu | (intro u hu; revert u hu; simp [Value.oneCell'])) (by decide) ⟨by omega, by decide⟩ (fun Aa7 ca7 hca7 => ⟨fun w h => h.pick [2, 3, 4, 5, 6, 7, 8, 9, 10] _ rfl (by decide), ?_⟩))
                                              refine tb_float (i := 9) rfl (by kernel_rfl) rfl (wants_none rfl) (yq_of (y_nilCheckR (fe_t rfl) (rch_w 0 rfl (by omega)))) ?_
                                              refine tb_float (i := 10) rfl (by kernel_rfl) rfl (wants_none rfl) (yq_of (y_fieldAddrR (td := 79) Try.underlying182 rfl rfl Try.sizeOf79 rfl (fe_t rfl) (rch_w 0 rfl (by omega)))) ?_
                                              refine tb_one2 (i := 11) rfl (by kernel_rfl) (by kernel_rfl) (wants_none rfl) (oj_storeG (i := 8) Rf.nil (⟨Aa7, ca7, (l.getD k Rf.nil).bs ++ [o3 os i], (l.getD k Rf.nil).pb, (l.getD k Rf.nil).pe⟩ : Rf) hcR Try.sizeOf79 (fe_t rfl) (fe_t rfl) rfl rfl rfl (by (try rw [List.length_set]); omega) rfl (by simp [cR, Rf.bV]) (⟨fun w h => (h.weak (i := 8) rfl).pick [8, 2, 3, 4, 5, 6, 7, 9, 10] _ rfl (by decide), ?_⟩))
                                              refine tb_done (by kernel_rfl) ?_
                                              refine tx_then ?_
                                              refine tr_seq ?_
                                              refine tr_subInJ 1 5 k rfl rfl rfl (map_nil_at Rf.bV (by omega)) (map_back (x := (⟨Aa7, ca7, (l.getD k Rf.nil).bs ++ [o3 os i], (l.getD k Rf.nil).pb, (l.getD k Rf.nil).pe⟩ : Rf)) Rf.bV (by simp [Rf.bV, cI, zc])) ?_
                                              generalize hl1 : l.set k (⟨Aa7, ca7, (l.getD k Rf.nil).bs ++ [o3 os i], (l.getD k Rf.nil).pb, (l.getD k Rf.nil).pe⟩ : Rf) = l1
                                              have hl1n : l1.length = n := by rw [← hl1, List.length_set]; exact hll
                                              have hl1k : l1.getD k Rf.nil = (⟨Aa7, ca7, (l.getD k Rf.nil).bs ++ [o3 os i], (l.getD k Rf.nil).pb, (l.getD k Rf.nil).pe⟩ : Rf) := by rw [← hl1, getD_set (by omega), if_pos rfl]
                                              have hrel1 : Rel es n l1 (s.fs.set k ⟨(gq s.fs k).bs ++ [o3 os i], (gq s.fs k).bg, (gq s.fs k).en⟩) := by rw [← hl1]; exact hrel.set hll hfl hkn ⟨by rw [hRk.bs], hRk.bg, hRk.en⟩
                                              have hg1 : gq (s.fs.set k ⟨(gq s.fs k).bs ++ [o3 os i], (gq s.fs k).bg, (gq s.fs k).en⟩) k = ⟨(gq s.fs k).bs ++ [o3 os i], (gq s.fs k).bg, (gq s.fs k).en⟩ := by rw [gq_set (by omega), if_pos rfl]
                                              have hfl1 : (s.fs.set k ⟨(gq s.fs k).bs ++ [o3 os i], (gq s.fs k).bg, (gq s.fs k).en⟩).length = n := by rw [List.length_set]; exact hfl
                                              have hbl : (l1.getD k Rf.nil).bs.length = (gq s.fs k).bs.length + 1 := by rw [(hrel1 k hkn).bs, hg1]; simp
                                              have hen1 : HoldR es (l1.getD k Rf.nil).pe (gq s.fs k).en := by have h := (hrel1 k hkn).en; rw [hg1] at h; exact h
                                              refine tr_region ?_
                                              refine tl_step rfl (oj_val (y_move (fe_t rfl)) ?_)
                                              refine tl_step rfl (oj_val (y_nilCheckE (fe_t rfl) (rdl_vec 8 rfl) (by rw [flat_len hcR]; omega)) ?_)
                                              refine tl_step rfl (oj_val (y_fieldAddrE (td := 79) Try.underlying182 rfl rfl Try.sizeOf79 rfl (fe_t rfl) (rdl_vec 8 rfl) (by rw [flat_len hcR]; omega)) ?_)
                                              refine tl_step rfl (oj_val (y_ld Try.isAgg79 (fe_t rfl) (rdl_vec 8 rfl) (flatG (d := Rf.nil) (i := 0) hcR (by omega) rfl)) ?_)
                                              refine tl_step rfl (oj_val (y_len Try.underlying79 (fe_t rfl)) ?_)
                                              refine tl_step rfl (oj_val (y_eq (fe_t rfl) fe_c) ?_)
                                              refine tl_nil ?_
                                              refine tx_then ?_
                                              refine tr_condp (fe_t rfl) (fun hq23 => ?_) (fun hq24 => ?_)
                                              · try (exfalso; omega)
                                                all_goals
                                                  refine tr_seq ?_
                                                  refine tr_region ?_
                                                  refine tl_step rfl (oj_val (y_move (fe_t rfl)) ?_)
                                                  refine tl_step rfl (oj_val (y_nilCheckE (fe_t rfl) (rdl_vec 8 rfl) (by rw [flat_len hcR]; omega)) ?_)
                                                  refine tl_step rfl (oj_val (y_fieldAddrE (td := 30) Try.underlying182 rfl rfl Try.sizeOf30 rfl (fe_t rfl) (rdl_vec 8 rfl) (by rw [flat_len hcR]; omega)) ?_)
                                                  refine tl_step rfl (oj_val (y_ld Try.isAgg30 (fe_t rfl) (rdl_vec 8 rfl) (flatG (d := Rf.nil) (i := 2) hcR (by omega) rfl)) ?_)
                                                  refine tl_step rfl (oj_val (y_move (fe_t rfl)) ?_)
                                                  refine tl_step rfl (oj_call2 Try.call24 fe_f (fel_cons (fe_t rfl) (fel_cons (fe_t rfl) fel_nil)) (fun w' hS => lift 6 hS rfl (fun T hS => cmpZ hS hen1 hTm (by omega) (by omega))) (fun rc1 hrc1 => ?_))
                                                  refine tl_step rfl (oj_val (y_lss (fe_t rfl) fe_c) ?_)
                                                  refine tl_nil ?_
                                                  refine tx_then ?_
                                                  refine tr_condp (fe_t rfl) (fun hq25 => ?_) (fun hq26 => ?_)
                                                  · try (exfalso; omega)
                                                    all_goals
                                                      refine tr_region ?_
                                                      refine tl_step rfl (oj_val (y_move (fe_t rfl)) ?_)
                                                      refine tl_step rfl (oj_val (y_fieldAddr (td := 3) Try.underlying174 rfl rfl Try.sizeOf3 (o' := 1) rfl (fe_t rfl)) ?_)
                                                      refine tl_step rfl (oj_val (y_ldb 2 Try.isAgg3 (fe_t rfl) rfl rfl) ?_)
                                                      refine tl_step rfl (oj_val (y_move (fe_t rfl)) ?_)
                                                      refine tl_step rfl (oj_callF Try.call141 (fe_t rfl) (fel_cons (fe_i hk rfl) (fel_cons (fe_t rfl) fel_nil)) (fun w' hS => firstH (hS.pick [7, 9, 10, 8, 5, 6, 0, 2, 3, 4] [_, _, _, _, _, _, _, _, _, _] rfl (by decide)) hr hn hl1n hfl1 hrel1 hkn hTm (by omega) (by rw [hg1]; simp) (by rw [hg1]; show 1 ≤ hd ((gq s.fs k).bs ++ [o3 os i]) ∧ _; rw [hd_one (by omega)]; omega) (hgw k hkn) hsm) (fun q1 hQ1 => ?_))
                                                      refine tl_nil ?_
                                                      refine tx_in ?_
                                                      refine tx_then ?_
                                                      refine tr_region ?_
                                                      refine tl_step rfl (oj_val (y_move (fe_t rfl)) ?_)
                                                      refine tl_step rfl (oj_val (y_move (fe_t rfl)) ?_)
                                                      refine tl_step rfl (oj_slice1 Try.underlying92 Try.sizeOf24 Try.zeroValue24 (fe_t rfl) (by decide) rfl (fun b8 => ?_))
                                                      refine tl_step rfl (oj_append (i := 10) (s := 1) (z := (.int .i64 0)) (bytes := 8) Try.underlying92 (by kernel_rfl) (fe_t rfl) (fe_t rfl) rfl (rdl_blk 0 rfl) rfl (by decide) (by first | exact oneI | exact oneF (fun _ => rfl) | exact fun u hu => List.all_eq_true.1 (show List.all _ (fun x => x.oneCell') = true from rfl) u hu | (intro u hu; revert u hu; simp [Value.oneCell'])) (by decide) ⟨by omega, by decide⟩ (fun Aa8 ca8 hca8 => ?_))
                                                      refine tl_step rfl (oj_val (y_assign (fe_t rfl)) ?_)
                                                      refine tl_nil ?_
                                                      refine tx_in ?_
                                                      refine tx_then ?_
                                                      refine tr_region ?_
                                                      refine tl_step rfl (oj_val (y_inc (fe_t rfl) fe_c (by omega)) ?_)
                                                      refine tl_step rfl (oj_val (y_move (fe_t rfl)) ?_)
                                                      refine tl_nil ?_
                                                      apply tx_back9 (i + 1) ({ s with errs := s.errs ++ [0], fs := s.fs.set k (inQ (cost ws k) (gq s.fs k) (o3 os i) s.time) }) (q1.1) ((⟨_, _, _, _⟩ : Vs)) ((⟨_, _, _, _⟩ : Vs)) (pt) (_) (_) (q1.2.2.2)
                                                      · exact (cov_cons (by first | rfl | exact v_int (by omega) | exact v_int (by dsimp only; omega)) (cov_cons (by first | rfl | exact v_int (by omega) | exact v_int (by dsimp only; omega)) (cov_cons (by first | rfl | exact v_int (by omega) | exact v_int (by dsimp only; omega)) (cov_cons (by first | rfl | exact v_int (by omega) | exact v_int (by dsimp only; omega)) (cov_nil)))))
                                                      · repeat (first | exact over_nil | refine over_put rfl ?_ | refine over_drop rfl ?_)
                                                      · exact fun w h => h.pick [9, 10, 5, 6, 1, 4, 2, 3] _ rfl (by decide)
                                                      · exact ⟨⟨by omega, ⟨s, hrun, .inn k (by show o1 os i = 1; omega) (by show o2 os i = k; omega) hkn (by show 1 ≤ o3 os i ∧ o3 os i ≤ 1500; omega)⟩, hQ1.1, by have h := hQ1.2.2; rw [hg1, List.set_set] at h; dsimp only at h; rw [hd_one (by omega)] at h; dsimp only; unfold inQ; rw [decide_eq_true (show (gq s.fs k).bs.length = 0 by omega), show max (gq s.fs k).en s.time = s.time by omega]; exact h, hTm.mono hQ1.2.1, ⟨by simp; omega, by dsimp only; rw [hex, cI, cI, List.map_append]; rfl⟩, hsn, hsx⟩, by omega⟩
                                                  · try (exfalso; omega)
                                                    all_goals
                                                      refine tr_norm (L' := [_, _, _, _, _, _, _, _, _, _]) (fun w h => h.pick [0, 2, 3, 4, 5, 6, 7, 8, 9, 10] _ rfl (by decide)) ?_
                                                      refine tb_draw1 7 [_, _, _, _, _, _, _, _, _, _] [_, _, _, _, _, _, _, _] (fun w h => h.pick [0, 1, 2, 3, 4, 5, 6, 7, 8, 9] _ rfl (by decide)) (fun w h => (h.weak (i := 7) rfl).pick [7, 0, 1, 2, 3, 6, 8, 9] _ rfl (by decide)) rfl ?_
                                                      refine tb_float (i := 0) rfl (by kernel_rfl) rfl (wants_none rfl) (yq_of (y_move (fe_t rfl))) ?_
                                                      refine tb_float (i := 1) rfl (by kernel_rfl) rfl (wants_none rfl) (yq_of (y_fieldAddr (td := 3) Try.underlying174 rfl rfl Try.sizeOf3 (o' := 1) rfl (fe_t rfl))) ?_
                                                      refine tb_float (i := 2) rfl (by kernel_rfl) rfl (wants_none rfl) (yq_of (y_ldb 2 Try.isAgg3 (fe_t rfl) rfl rfl)) ?_
                                                      refine tb_float (i := 3) rfl (by kernel_rfl) rfl (wants_none rfl) (yq_of (y_move (fe_t rfl))) ?_
                                                      refine tb_float (i := 4) rfl (by kernel_rfl) rfl (wants_none rfl) (yq_of (y_nilCheckR (fe_t rfl) (rch_w 0 rfl (by omega)))) ?_
                                                      refine tb_float (i := 5) rfl (by kernel_rfl) rfl (wants_none rfl) (yq_of (y_fieldAddrR (td := 30) Try.underlying182 rfl rfl Try.sizeOf30 rfl (fe_t rfl) (rch_w 0 rfl (by omega)))) ?_
                                                      refine tb_float1 (i := 6) rfl (by kernel_rfl) (by kernel_rfl) rfl (wants_none rfl) (yq_of (y_ld Try.isAgg30 (fe_t rfl) (rdl_vec 7 rfl) (flatG (d := Rf.nil) (i := 2) hcR (by omega) rfl))) ?_
                                                      refine tb_one2 (i := 7) rfl (by kernel_rfl) (by kernel_rfl) (wants_none rfl) (oj_callF Try.call141 (fe_t rfl) (fel_cons (fe_i hk rfl) (fel_cons (fe_t rfl) fel_nil)) (fun w' hS => firstH (hS.pick [6, 8, 9, 7, 4, 5, 0, 1, 2, 3] [_, _, _, _, _, _, _, _, _, _] rfl (by decide)) hr hn hl1n hfl1 hrel1 hkn hen1 (by omega) (by rw [hg1]; simp) (by rw [hg1]; show 1 ≤ hd ((gq s.fs k).bs ++ [o3 os i]) ∧ _; rw [hd_one (by omega)]; omega) (hgw k hkn) hsm) (fun q1 hQ1 => ⟨fun w h => (h.weak (i := 3) rfl).pick [3, 6, 7, 8, 9, 0, 1, 2] _ rfl (by decide), ?_⟩))
                                                      refine tb_done (by kernel_rfl) ?_
                                                      refine tx_in ?_
                                                      refine tx_then ?_
                                                      refine tr_region ?_
                                                      refine tl_step rfl (oj_val (y_move (fe_t rfl)) ?_)
                                                      refine tl_step rfl (oj_val (y_move (fe_t rfl)) ?_)
                                                      refine tl_step rfl (oj_slice1 Try.underlying92 Try.sizeOf24 Try.zeroValue24 (fe_t rfl) (by decide) rfl (fun b9 => ?_))
                                                      refine tl_step rfl (oj_append (i := 10) (s := 1) (z := (.int .i64 0)) (bytes := 8) Try.underlying92 (by kernel_rfl) (fe_t rfl) (fe_t rfl) rfl (rdl_blk 0 rfl) rfl (by decide) (by first | exact oneI | exact oneF (fun _ => rfl) | exact fun u hu => List.all_eq_true.1 (show List.all _ (fun x => x.oneCell') = true from rfl) u hu | (intro u hu; revert u hu; simp [Value.oneCell'])) (by decide) ⟨by omega, by decide⟩ (fun Aa9 ca9 hca9 => ?_))
                                                      refine tl_step rfl (oj_val (y_assign (fe_t rfl)) ?_)
                                                      refine tl_nil ?_
                                                      refine tx_in ?_
                                                      refine tx_then ?_
                                                      refine tr_region ?_
                                                      refine tl_step rfl (oj_val (y_inc (fe_t rfl) fe_c (by omega)) ?_)
                                                      refine tl_step rfl (oj_val (y_move (fe_t rfl)) ?_)
                                                      refine tl_nil ?_
                                                      apply tx_back9 (i + 1) ({ s with errs := s.errs ++ [0], fs := s.fs.set k (inQ (cost ws k) (gq s.fs k) (o3 os i) s.time) }) (q1.1) ((⟨_, _, _, _⟩ : Vs)) ((⟨_, _, _, _⟩ : Vs)) (pt) (_) (_) (q1.2.2.2)
                                                      · exact (cov_cons (by first | rfl | exact v_int (by omega) | exact v_int (by dsimp only; omega)) (cov_cons (by first | rfl | exact v_int (by omega) | exact v_int (by dsimp only; omega)) (cov_cons (by first | rfl | exact v_int (by omega) | exact v_int (by dsimp only; omega)) (cov_cons (by first | rfl | exact v_int (by omega) | exact v_int (by dsimp only; omega)) (cov_nil)))))
                                                      · repeat (first | exact over_nil | refine over_put rfl ?_ | refine over_drop rfl ?_)
                                                      · exact fun w h => h.pick [9, 10, 5, 6, 1, 4, 2, 3] _ rfl (by decide)
                                                      · exact ⟨⟨by omega, ⟨s, hrun, .inn k (by show o1 os i = 1; omega) (by show o2 os i = k; omega) hkn (by show 1 ≤ o3 os i ∧ o3 os i ≤ 1500; omega)⟩, hQ1.1, by have h := hQ1.2.2; rw [hg1, List.set_set] at h; dsimp only at h; rw [hd_one (by omega)] at h; dsimp only; unfold inQ; rw [decide_eq_true (show (gq s.fs k).bs.length = 0 by omega), show max (gq s.fs k).en s.time = (gq s.fs k).en by omega]; exact h, hTm.mono hQ1.2.1, ⟨by simp; omega, by dsimp only; rw [hex, cI, cI, List.map_append]; rfl⟩, hsn, hsx⟩, by omega⟩
                                              · try (exfalso; omega)
                                                all_goals
                                                  refine tr_skip ?_
                                                  refine tx_in ?_
                                                  refine tx_then ?_
                                                  refine tr_region ?_
                                                  refine tl_step rfl (oj_val (y_move (fe_t rfl)) ?_)
                                                  refine tl_step rfl (oj_val (y_move (fe_t rfl)) ?_)
                                                  refine tl_step rfl (oj_slice1 Try.underlying92 Try.sizeOf24 Try.zeroValue24 (fe_t rfl) (by decide) rfl (fun b10 => ?_))
                                                  refine tl_step rfl (oj_append (i := 5) (s := 1) (z := (.int .i64 0)) (bytes := 8) Try.underlying92 (by kernel_rfl) (fe_t rfl) (fe_t rfl) rfl (rdl_blk 0 rfl) rfl (by decide) (by first | exact oneI | exact oneF (fun _ => rfl) | exact fun u hu => List.all_eq_true.1 (show List.all _ (fun x => x.oneCell') = true from rfl) u hu | (intro u hu; revert u hu; simp [Value.oneCell'])) (by decide) ⟨by omega, by decide⟩ (fun Aa10 ca10 hca10 => ?_))
                                                  refine tl_step rfl (oj_val (y_assign (fe_t rfl)) ?_)
                                                  refine tl_nil ?_
                                                  refine tx_in ?_
                                                  refine tx_then ?_
                                                  refine tr_region ?_
                                                  refine tl_step rfl (oj_val (y_inc (fe_t rfl) fe_c (by omega)) ?_)
                                                  refine tl_step rfl (oj_val (y_move (fe_t rfl)) ?_)
                                                  refine tl_nil ?_
                                                  apply tx_back9 (i + 1) ({ s with errs := s.errs ++ [0], fs := s.fs.set k (inQ (cost ws k) (gq s.fs k) (o3 os i) s.time) }) (l1) ((⟨_, _, _, _⟩ : Vs)) ((⟨_, _, _, _⟩ : Vs)) (pt) (_) (_) (es)
                                                  · exact (cov_cons (by first | rfl | exact v_int (by omega) | exact v_int (by dsimp only; omega)) (cov_cons (by first | rfl | exact v_int (by omega) | exact v_int (by dsimp only; omega)) (cov_cons (by first | rfl | exact v_int (by omega) | exact v_int (by dsimp only; omega)) (cov_cons (by first | rfl | exact v_int (by omega) | exact v_int (by dsimp only; omega)) (cov_nil)))))
                                                  · repeat (first | exact over_nil | refine over_put rfl ?_ | refine over_drop rfl ?_)
                                                  · exact fun w h => h.pick [4, 5, 6, 7, 8, 9, 10, 11] _ rfl (by decide)
                                                  · exact ⟨⟨by omega, ⟨s, hrun, .inn k (by show o1 os i = 1; omega) (by show o2 os i = k; omega) hkn (by show 1 ≤ o3 os i ∧ o3 os i ≤ 1500; omega)⟩, hl1n, by dsimp only; unfold inQ; rw [decide_eq_false (show ¬ (gq s.fs k).bs.length = 0 by omega)]; exact hrel1, hTm, ⟨by simp; omega, by dsimp only; rw [hex, cI, cI, List.map_append]; rfl⟩, hsn, hsx⟩, by omega⟩
                                          · exfalso; omega
                              · exfalso; omega
                  · try (exfalso; omega)
                    all_goals
                      refine tl_skip rfl rfl rfl rfl ?_
                      refine tl_skip rfl rfl rfl rfl ?_
                      refine tl_skip rfl rfl rfl rfl ?_
                      refine tl_skip rfl rfl rfl rfl ?_
                      refine tl_skip rfl rfl rfl rfl ?_
                      refine tl_skip rfl rfl rfl rfl ?_
                      refine tl_skip rfl rfl rfl rfl ?_
                      refine tl_skip rfl rfl rfl rfl ?_
                      refine tl_skip rfl rfl rfl rfl ?_
                      refine tl_skip rfl rfl rfl rfl ?_
                      refine tl_step rfl (oj_val (y_pickf (fe_t rfl) fe_c) ?_)
                      refine tl_step rfl (oj_val (y_assign (fe_t rfl)) ?_)
                      refine tl_nil ?_
                      refine tx_then ?_
                      refine tr_condf (fe_t rfl) ?_
                      refine tr_seq ?_
                      refine tr_region ?_
                      refine tl_step rfl (oj_val (y_fieldAddr (td := 3) Try.underlying174 rfl rfl Try.sizeOf3 (o' := 0) rfl (fe_t rfl)) ?_)
                      refine tl_step rfl (oj_val (y_ldb 0 Try.isAgg3 (fe_t rfl) rfl rfl) ?_)
                      refine tl_step rfl (oj_val (y_eq (fe_t rfl) fe_c) ?_)
                      refine tl_step rfl (oj_val (y_move (fe_t rfl)) ?_)
                      refine tl_splitp (d := 209) rfl (fun hq27 => ?_) (fun hq28 => ?_)
                      · exfalso; omega
                      · try (exfalso; omega)
                        all_goals
                          refine tl_skip rfl rfl rfl rfl ?_
                          refine tl_skip rfl rfl rfl rfl ?_
                          refine tl_skip rfl rfl rfl rfl ?_
                          refine tl_skip rfl rfl rfl rfl ?_
                          refine tl_skip rfl rfl rfl rfl ?_
                          refine tl_skip rfl rfl rfl rfl ?_
                          refine tl_skip rfl rfl rfl rfl ?_
                          refine tl_skip rfl rfl rfl rfl ?_
                          refine tl_step rfl (oj_val (y_pickf (fe_t rfl) fe_c) ?_)
                          refine tl_step rfl (oj_val (y_assign (fe_t rfl)) ?_)
                          refine tl_nil ?_
                          refine tx_then ?_
                          refine tr_condf (fe_t rfl) ?_
                          refine tr_seq ?_
                          refine tr_region ?_
                          refine tl_step rfl (oj_val (y_fieldAddr (td := 3) Try.underlying174 rfl rfl Try.sizeOf3 (o' := 0) rfl (fe_t rfl)) ?_)
                          refine tl_step rfl (oj_val (y_ldb 0 Try.isAgg3 (fe_t rfl) rfl rfl) ?_)
                          refine tl_step rfl (oj_val (y_eq (fe_t rfl) fe_c) ?_)
                          refine tl_step rfl (oj_val (y_assign (fe_t rfl)) ?_)
                          refine tl_nil ?_
                          refine tx_then ?_
                          refine tr_condp (fe_t rfl) (fun hq29 => ?_) (fun hq30 => ?_)
                          · exfalso; omega
                          · try (exfalso; omega)
                            all_goals
                              refine tr_seq ?_
                              refine tr_region ?_
                              refine tl_step rfl (oj_val (y_assign fe_c) ?_)
                              refine tl_step rfl (oj_val (y_assign fe_c) ?_)
                              refine tl_nil ?_
                              refine tx_then ?_
                              refine tr_seq ?_
                              refine tr_seq ?_
                              refine tr_region ?_
                              refine tl_step rfl (oj_val (y_ldb 5 Try.isAgg180 (fe_t rfl) rfl rfl) ?_)
                              refine tl_step rfl (oj_val (y_len Try.underlying180 (fe_t rfl)) ?_)
                              refine tl_step rfl (oj_val (y_move fe_c) ?_)
                              refine tl_nil ?_
                              refine tx_then ?_
                              refine tr_block ?_
                              refine tr_loop4 [19, 21, 22, 59, 60, 61, 62, 63, 64, 65, 66, 67, 68, 69, 70, 71, 72, 73, 74, 75, 76, 77, 78, 79, 80, 81, 82, 83, 84] (fun (k : Nat) (z : Int) (Hy : List Nat) (Dy : List Nat) => [(59, .int .i64 (k : Int)), (19, .int .i64 z)]) 0 (fun (k : Nat) (z : Int) (Hy : List Nat) (Dy : List Nat) => [(4, bag Hy Dy es)]) (fun (k : Nat) (z : Int) (Hy : List Nat) (Dy : List Nat) => k ≤ n ∧ Sb s.fs k z) (fun (k : Nat) (z : Int) (Hy : List Nat) (Dy : List Nat) => n - k) (0) (-1) (_) (_) (cov_cons (by first | rfl | exact v_int (by omega) | exact v_int (by dsimp only; omega)) (cov_cons (by first | rfl | exact v_int (by omega) | exact v_int (by dsimp only; omega)) (cov_nil))) (fun w h => h) ?_ ?_
                              · try dsimp only
                                exact ⟨by omega, sb_zero s.fs⟩
                              intro k z Hy Dy hp
                              obtain ⟨hk, hb⟩ := hp
                              have hbc := hb.cases
                              refine tr_seq ?_
                              refine tr_region ?_
                              refine tl_step rfl (oj_val (y_lss (fe_t rfl) (fe_t rfl)) ?_)
                              refine tl_nil ?_
                              refine tx_then ?_
                              refine tr_seq ?_
                              refine tr_condp (fe_t rfl) (fun hq31 => ?_) (fun hq32 => ?_)
                              · try (exfalso; omega)
                                all_goals
                                  refine tr_skip ?_
                                  refine tx_then ?_
                                  refine tr_seq ?_
                                  refine tr_block ?_
                                  refine tr_seq ?_
                                  refine tr_region ?_
                                  refine tl_step rfl (oj_val (y_move (fe_t rfl)) ?_)
                                  refine tl_step rfl (oj_val (y_index Try.underlying180 Try.sizeOf182 (fe_t rfl) (fe_t rfl) (rdl_vec 6 rfl) (by rw [flat_len hcR]; omega) (by decide) (by omega) rfl) ?_)
                                  refine tl_step rfl (oj_val (y_ldA (cs := cR (l.getD k Rf.nil)) Try.isAgg182 Try.sizeOf182 (fe_t rfl) (rdl_vec 6 rfl) rfl (by decide) (flatGA (d := Rf.nil) hcR (by omega))) ?_)
                                  refine tl_step rfl (oj_alloc Try.zeroValue182 (fun bx => ?_))
                                  refine tl_step rfl (oj_val (y_assign (fe_t rfl)) ?_)
                                  refine tl_step rfl (oj_storeW 0 Try.sizeOf182 (fe_t rfl) (fe_t rfl) rfl rfl rfl rfl rfl (?_))
                                  refine tl_nil ?_
                                  refine tx_then ?_
                                  refine tr_seq ?_
                                  have hRk := hrel k (by omega)
                                  have hkb : (l.getD k Rf.nil).bs.length = (gq s.fs k).bs.length := by rw [hRk.bs]
                                  have hok := (hwf.ok k).1
                                  have hoz := (hwf.ok z.toNat).1
                                  refine tr_norm (L' := [_, _, _, _, _, _, _, _, _, _]) (fun w h => h.pick [0, 1, 2, 3, 4, 5, 6, 7, 8, 9] _ rfl (by decide)) ?_
                                  refine tb_draw1 19 [_, _, _, _, _, _, _, _, _, _] [_, _, _, _, _, _, _, _, _] (fun w h => h.pick [0, 1, 2, 3, 4, 5, 6, 7, 8, 9] _ rfl (by decide)) (fun w h => h.pick [0, 1, 2, 3, 4, 6, 7, 8, 9] _ rfl (by decide)) rfl ?_
                                  refine tb_float (i := 0) rfl (by kernel_rfl) rfl (wants_none rfl) (yq_of (y_fieldAddr (td := 79) Try.underlying182 rfl rfl Try.sizeOf79 (o' := 0) rfl (fe_t rfl))) ?_
                                  refine tb_float (i := 1) rfl (by kernel_rfl) rfl (wants_none rfl) (yq_of (y_ldb 0 Try.isAgg79 (fe_t rfl) rfl rfl)) ?_
                                  refine tb_float (i := 2) rfl (by kernel_rfl) rfl (wants_none rfl) (yq_of (y_len Try.underlying79 (fe_t rfl))) ?_
                                  refine tb_float (i := 3) rfl (by kernel_rfl) rfl (wants_none rfl) (yq_of (y_gtr (fe_t rfl) fe_c)) ?_
                                  refine tb_float (i := 4) rfl (by kernel_rfl) rfl (wants_none rfl) (yq_of (y_move (fe_t rfl))) ?_
                                  refine tb_splitp (d := 68) rfl (fun hq33 => ?_) (fun hq34 => ?_)
                                  · try (exfalso; omega)
                                    all_goals
                                      refine tb_float (i := 5) rfl (by kernel_rfl) rfl (wants_t rfl rfl rfl) (yq_of (y_move (fe_t rfl))) ?_
                                      refine tb_float (i := 6) rfl (by kernel_rfl) rfl (wants_t rfl rfl rfl) (yq_of (y_lss (fe_t rfl) fe_c)) ?_
                                      refine tb_float (i := 7) rfl (by kernel_rfl) rfl (wants_t rfl rfl rfl) (yq_of (y_move (fe_t rfl))) ?_
                                      refine tb_splitp (d := 71) rfl (fun hq35 => ?_) (fun hq36 => ?_)
                                      · try (exfalso; omega)
                                        all_goals
                                          refine tb_skip (i := 8) rfl (by kernel_rfl) rfl (wants_f rfl rfl rfl rfl) ?_
                                          refine tb_skip (i := 9) rfl (by kernel_rfl) rfl (wants_f rfl rfl rfl rfl) ?_
                                          refine tb_skip (i := 10) rfl (by kernel_rfl) rfl (wants_f rfl rfl rfl rfl) ?_
                                          refine tb_skip (i := 11) rfl (by kernel_rfl) rfl (wants_f rfl rfl rfl rfl) ?_
                                          refine tb_skip (i := 12) rfl (by kernel_rfl) rfl (wants_f rfl rfl rfl rfl) ?_
                                          refine tb_skip (i := 13) rfl (by kernel_rfl) rfl (wants_f rfl rfl rfl rfl) ?_
                                          refine tb_skip (i := 14) rfl (by kernel_rfl) rfl (wants_f rfl rfl rfl rfl) ?_
                                          refine tb_skip (i := 15) rfl (by kernel_rfl) rfl (wants_f rfl rfl rfl rfl) ?_
                                          refine tb_skip (i := 16) rfl (by kernel_rfl) rfl (wants_f rfl rfl rfl rfl) ?_
                                          refine tb_float (i := 17) rfl (by kernel_rfl) rfl (wants_t rfl rfl rfl) (yq_of (y_pickt (fe_t rfl) fe_c)) ?_
                                          refine tb_float (i := 18) rfl (by kernel_rfl) rfl (wants_none rfl) (yq_of (y_pickt (fe_t rfl) (fe_t rfl))) ?_
                                          refine tb_done (by kernel_rfl) ?_
                                          refine tx_then ?_
                                          refine tr_condt (fe_t rfl) ?_
                                          refine tr_region ?_
                                          refine tl_step rfl (oj_val (y_move (fe_t rfl)) ?_)
                                          refine tl_step rfl (oj_val (y_assign (fe_t rfl)) ?_)
                                          refine tl_nil ?_
                                          refine tx_in ?_
                                          refine tx_then ?_
                                          refine tr_region ?_
                                          refine tl_step rfl (oj_val (y_inc (fe_t rfl) fe_c (by omega)) ?_)
                                          refine tl_step rfl (oj_val (y_move (fe_t rfl)) ?_)
                                          refine tl_nil ?_
                                          apply tx_back4 (k + 1) ((k : Int)) (_) (_)
                                          · exact (cov_cons (by first | rfl | exact v_int (by omega) | exact v_int (by dsimp only; omega)) (cov_cons (by first | rfl | exact v_int (by omega) | exact v_int (by dsimp only; omega)) (cov_nil)))
                                          · repeat (first | exact over_nil | refine over_put rfl ?_ | refine over_drop rfl ?_)
                                          · exact fun w h => h.pick [1, 2, 3, 4, 5, 6, 7, 8, 9] _ rfl (by decide)
                                          · first
                                              | exact ⟨⟨by omega, hb.take (by omega) (by omega)⟩, by omega⟩
                                              | exact ⟨⟨by omega, hb.skip (by omega)⟩, by omega⟩
                                              | exact ⟨⟨by omega, hb.keep (by omega) (by omega)⟩, by omega⟩
                                      · try (exfalso; omega)
                                        all_goals
                                          refine tb_float (i := 8) rfl (by kernel_rfl) rfl (wants_t rfl rfl rfl) (yq_of (y_fieldAddr (td := 30) Try.underlying182 rfl rfl Try.sizeOf30 (o' := 1) rfl (fe_t rfl))) ?_
                                          refine tb_float (i := 9) rfl (by kernel_rfl) rfl (wants_t rfl rfl rfl) (yq_of (y_ldb 0 Try.isAgg30 (fe_t rfl) rfl rfl)) ?_
                                          refine tb_float (i := 10) rfl (by kernel_rfl) rfl (wants_t rfl rfl rfl) (yq_of (y_ldb 5 Try.isAgg180 (fe_t rfl) rfl rfl)) ?_
                                          refine tb_float (i := 11) rfl (by kernel_rfl) rfl (wants_t rfl rfl rfl) (yq_of (y_move (fe_t rfl))) ?_
                                          refine tb_float (i := 12) rfl (by kernel_rfl) rfl (wants_t rfl rfl rfl) (yq_of (y_indexI Try.underlying180 Try.sizeOf182 (fe_t rfl) (fe_t rfl) (rdl_vec 6 rfl) (by rw [flat_len hcR]; omega) (by decide) (by omega) (by omega) rfl)) ?_
                                          refine tb_float (i := 13) rfl (by kernel_rfl) rfl (wants_t rfl rfl rfl) (yq_of (y_fieldAddrE (td := 30) Try.underlying182 rfl rfl Try.sizeOf30 rfl (fe_t rfl) (rdl_vec 6 rfl) (by rw [flat_len hcR]; omega))) ?_
                                          refine tb_float (i := 14) rfl (by kernel_rfl) rfl (wants_t rfl rfl rfl) (yq_of (y_ld Try.isAgg30 (fe_t rfl) (rdl_vec 6 rfl) (flatG (d := Rf.nil) (i := 1) hcR (by omega) rfl))) ?_
                                          refine tb_one2 (i := 15) rfl (by kernel_rfl) (by kernel_rfl) (wants_t rfl rfl rfl) (oj_call2 Try.call24 fe_f (fel_cons (fe_t rfl) (fel_cons (fe_t rfl) fel_nil)) (fun w' hS => lift 5 hS rfl (fun T hS => cmpZ hS hRk.bg (hrel z.toNat (by omega)).bg (by omega) (by omega))) (fun rc2 hrc2 => ⟨fun w h => h.pick [0, 1, 2, 3, 4, 6, 7, 8, 9] _ rfl (by decide), ?_⟩))
                                          refine tb_float (i := 16) rfl (by kernel_rfl) rfl (wants_t rfl rfl rfl) (yq_of (y_lss (fe_t rfl) fe_c)) ?_
                                          refine tb_float (i := 17) rfl (by kernel_rfl) rfl (wants_t rfl rfl rfl) (yq_of (y_pickf (fe_t rfl) (fe_t rfl))) ?_
                                          refine tb_float (i := 18) rfl (by kernel_rfl) rfl (wants_none rfl) (yq_of (y_pickt (fe_t rfl) (fe_t rfl))) ?_
                                          refine tb_done (by kernel_rfl) ?_
                                          refine tx_then ?_
                                          refine tr_condp (fe_t rfl) (fun hq37 => ?_) (fun hq38 => ?_)
                                          · try (exfalso; omega)
                                            all_goals
                                              refine tr_region ?_
                                              refine tl_step rfl (oj_val (y_move (fe_t rfl)) ?_)
                                              refine tl_step rfl (oj_val (y_assign (fe_t rfl)) ?_)
                                              refine tl_nil ?_
                                              refine tx_in ?_
                                              refine tx_then ?_
                                              refine tr_region ?_
                                              refine tl_step rfl (oj_val (y_inc (fe_t rfl) fe_c (by omega)) ?_)
                                              refine tl_step rfl (oj_val (y_move (fe_t rfl)) ?_)
                                              refine tl_nil ?_
                                              apply tx_back4 (k + 1) ((k : Int)) (_) (_)
                                              · exact (cov_cons (by first | rfl | exact v_int (by omega) | exact v_int (by dsimp only; omega)) (cov_cons (by first | rfl | exact v_int (by omega) | exact v_int (by dsimp only; omega)) (cov_nil)))
                                              · repeat (first | exact over_nil | refine over_put rfl ?_ | refine over_drop rfl ?_)
                                              · exact fun w h => h.pick [1, 2, 3, 4, 5, 6, 7, 8, 9] _ rfl (by decide)
                                              · first
                                                  | exact ⟨⟨by omega, hb.take (by omega) (by omega)⟩, by omega⟩
                                                  | exact ⟨⟨by omega, hb.skip (by omega)⟩, by omega⟩
                                                  | exact ⟨⟨by omega, hb.keep (by omega) (by omega)⟩, by omega⟩
                                          · try (exfalso; omega)
                                            all_goals
                                              refine tr_skip ?_
                                              refine tx_in ?_
                                              refine tx_then ?_
                                              refine tr_region ?_
                                              refine tl_step rfl (oj_val (y_inc (fe_t rfl) fe_c (by omega)) ?_)
                                              refine tl_step rfl (oj_val (y_move (fe_t rfl)) ?_)
                                              refine tl_nil ?_
                                              apply tx_back4 (k + 1) (z) (_) (_)
                                              · exact (cov_cons (by first | rfl | exact v_int (by omega) | exact v_int (by dsimp only; omega)) (cov_cons (by first | rfl | exact v_int (by omega) | exact v_int (by dsimp only; omega)) (cov_nil)))
                                              · repeat (first | exact over_nil | refine over_put rfl ?_ | refine over_drop rfl ?_)
                                              · exact fun w h => h.pick [1, 2, 3, 4, 5, 6, 7, 8, 9] _ rfl (by decide)
                                              · first
                                                  | exact ⟨⟨by omega, hb.take (by omega) (by omega)⟩, by omega⟩
                                                  | exact ⟨⟨by omega, hb.skip (by omega)⟩, by omega⟩
                                                  | exact ⟨⟨by omega, hb.keep (by omega) (by omega)⟩, by omega⟩
                                  · try (exfalso; omega)
                                    all_goals
                                      refine tb_skip (i := 5) rfl (by kernel_rfl) rfl (wants_f rfl rfl rfl rfl) ?_
                                      refine tb_skip (i := 6) rfl (by kernel_rfl) rfl (wants_f rfl rfl rfl rfl) ?_
                                      refine tb_skip (i := 7) rfl (by kernel_rfl) rfl (wants_f rfl rfl rfl rfl) ?_
                                      refine tb_skip (i := 8) rfl (by kernel_rfl) rfl (wants_undef rfl rfl rfl) ?_
                                      refine tb_skip (i := 9) rfl (by kernel_rfl) rfl (wants_undef rfl rfl rfl) ?_
                                      refine tb_skip (i := 10) rfl (by kernel_rfl) rfl (wants_undef rfl rfl rfl) ?_
                                      refine tb_skip (i := 11) rfl (by kernel_rfl) rfl (wants_undef rfl rfl rfl) ?_
                                      refine tb_skip (i := 12) rfl (by kernel_rfl) rfl (wants_undef rfl rfl rfl) ?_
                                      refine tb_skip (i := 13) rfl (by kernel_rfl) rfl (wants_undef rfl rfl rfl) ?_
                                      refine tb_skip (i := 14) rfl (by kernel_rfl) rfl (wants_undef rfl rfl rfl) ?_
                                      refine tb_skip (i := 15) rfl (by kernel_rfl) rfl (wants_undef rfl rfl rfl) ?_
                                      refine tb_skip (i := 16) rfl (by kernel_rfl) rfl (wants_undef rfl rfl rfl) ?_
                                      refine tb_skip (i := 17) rfl (by kernel_rfl) rfl (wants_f rfl rfl rfl rfl) ?_
                                      refine tb_float (i := 18) rfl (by kernel_rfl) rfl (wants_none rfl) (yq_of (y_pickf (fe_t rfl) fe_c)) ?_
                                      refine tb_done (by kernel_rfl) ?_
                                      refine tx_then ?_
                                      refine tr_condf (fe_t rfl) ?_
                                      refine tr_skip ?_
                                      refine tx_in ?_
                                      refine tx_then ?_
                                      refine tr_region ?_
                                      refine tl_step rfl (oj_val (y_inc (fe_t rfl) fe_c (by omega)) ?_)
                                      refine tl_step rfl (oj_val (y_move (fe_t rfl)) ?_)
                                      refine tl_nil ?_
                                      apply tx_back4 (k + 1) (z) (_) (_)
                                      · exact (cov_cons (by first | rfl | exact v_int (by omega) | exact v_int (by dsimp only; omega)) (cov_cons (by first | rfl | exact v_int (by omega) | exact v_int (by dsimp only; omega)) (cov_nil)))
                                      · repeat (first | exact over_nil | refine over_put rfl ?_ | refine over_drop rfl ?_)
                                      · exact fun w h => h.pick [1, 2, 3, 4, 5, 6, 7, 8, 9] _ rfl (by decide)
                                      · first
                                          | exact ⟨⟨by omega, hb.take (by omega) (by omega)⟩, by omega⟩
                                          | exact ⟨⟨by omega, hb.skip (by omega)⟩, by omega⟩
                                          | exact ⟨⟨by omega, hb.keep (by omega) (by omega)⟩, by omega⟩
                              · try (exfalso; omega)
                                all_goals
                                  refine tr_exit ?_
                                  refine tx_then_exit ?_
                                  refine tx_then_exit ?_
                                  refine tx_in_exit ?_
                                  refine tx_then ?_
                                  refine tr_seq ?_
                                  refine tr_seq ?_
                                  refine tr_region ?_
                                  refine tl_step rfl (oj_val (y_move (fe_t rfl)) ?_)
                                  refine tl_step rfl (oj_val (y_lss (fe_t rfl) fe_c) ?_)
                                  refine tl_nil ?_
                                  refine tx_then ?_
                                  refine tr_condp (fe_t rfl) (fun hq39 => ?_) (fun hq40 => ?_)
                                  · try (exfalso; omega)
                                    all_goals
                                      refine tr_seq ?_
                                      refine tr_region ?_
                                      refine tl_step rfl (oj_val (y_assign fe_c) ?_)
                                      refine tl_nil ?_
                                      refine tx_then ?_
                                      refine tr_exit ?_
                                      refine tx_then_exit ?_
                                      refine tx_in_exit ?_
                                      refine tx_then ?_
                                      refine tr_region ?_
                                      refine tl_step rfl (oj_val (y_move (fe_t rfl)) ?_)
                                      refine tl_step rfl (oj_val (y_move (fe_t rfl)) ?_)
                                      refine tl_step rfl (oj_slice1 Try.underlying92 Try.sizeOf24 Try.zeroValue24 (fe_t rfl) (by decide) rfl (fun b11 => ?_))
                                      refine tl_step rfl (oj_append (i := 3) (s := 1) (z := (.int .i64 0)) (bytes := 8) Try.underlying92 (by kernel_rfl) (fe_t rfl) (fe_t rfl) rfl (rdl_blk 0 rfl) rfl (by decide) (by first | exact oneI | exact oneF (fun _ => rfl) | exact fun u hu => List.all_eq_true.1 (show List.all _ (fun x => x.oneCell') = true from rfl) u hu | (intro u hu; revert u hu; simp [Value.oneCell'])) (by decide) ⟨by omega, by decide⟩ (fun Aa11 ca11 hca11 => ?_))
                                      refine tl_step rfl (oj_val (y_assign (fe_t rfl)) ?_)
                                      refine tl_nil ?_
                                      refine tx_in ?_
                                      refine tx_then ?_
                                      refine tr_region ?_
                                      refine tl_step rfl (oj_val (y_inc (fe_t rfl) fe_c (by omega)) ?_)
                                      refine tl_step rfl (oj_val (y_move (fe_t rfl)) ?_)
                                      refine tl_nil ?_
                                      apply tx_back9 (i + 1) ({ s with errs := s.errs ++ [3] }) (l) ((⟨_, _, _, _⟩ : Vs)) ((⟨_, _, _, _⟩ : Vs)) (pt) (_) (_) (es)
                                      · exact (cov_cons (by first | rfl | exact v_int (by omega) | exact v_int (by dsimp only; omega)) (cov_cons (by first | rfl | exact v_int (by omega) | exact v_int (by dsimp only; omega)) (cov_cons (by first | rfl | exact v_int (by omega) | exact v_int (by dsimp only; omega)) (cov_cons (by first | rfl | exact v_int (by omega) | exact v_int (by dsimp only; omega)) (cov_nil)))))
                                      · repeat (first | exact over_nil | refine over_put rfl ?_ | refine over_drop rfl ?_)
                                      · exact fun w h => h.pick [2, 3, 4, 5, 6, 7, 8, 9] _ rfl (by decide)
                                      · exact ⟨⟨by omega, ⟨s, hrun, .nought (by show o1 os i = 2; omega) (sb_none (by omega) hb (by omega))⟩, hll, hrel, hTm, ⟨by simp; omega, by dsimp only; rw [hex, cI, cI, List.map_append]; rfl⟩, hsn, hsx⟩, by omega⟩
                                  · try (exfalso; omega)
                                    all_goals
                                      refine tr_skip ?_
                                      refine tx_then ?_
                                      refine tr_seq ?_
                                      refine tr_seq ?_
                                      have hkn : k = n := by omega
                                      have hL := Sb.least (hkn ▸ hb) (by omega)
                                      have hzn : z.toNat < n := by omega
                                      have hoz := (hwf.ok z.toNat).1
                                      refine tr_region ?_
                                      refine tl_step rfl (oj_val (y_ldb 5 Try.isAgg180 (fe_t rfl) rfl rfl) ?_)
                                      refine tl_step rfl (oj_val (y_move (fe_t rfl)) ?_)
                                      refine tl_step rfl (oj_val (y_indexI Try.underlying180 Try.sizeOf182 (fe_t rfl) (fe_t rfl) (rdl_vec 6 rfl) (by rw [flat_len hcR]; omega) (by decide) (by omega) (by omega) rfl) ?_)
                                      refine tl_step rfl (oj_val (y_fieldAddrE (td := 30) Try.underlying182 rfl rfl Try.sizeOf30 rfl (fe_t rfl) (rdl_vec 6 rfl) (by rw [flat_len hcR]; omega)) ?_)
                                      refine tl_step rfl (oj_val (y_ld Try.isAgg30 (fe_t rfl) (rdl_vec 6 rfl) (flatG (d := Rf.nil) (i := 1) hcR (by omega) rfl)) ?_)
                                      refine tl_step rfl (oj_val (y_move (fe_t rfl)) ?_)
                                      refine tl_step rfl (oj_call2 Try.call24 fe_f (fel_cons (fe_t rfl) (fel_cons (fe_t rfl) fel_nil)) (fun w' hS => lift 4 hS rfl (fun T hS => cmpZ hS (hrel z.toNat hzn).bg hTm (by omega) (by omega))) (fun rc3 hrc3 => ?_))
                                      refine tl_step rfl (oj_val (y_gtr (fe_t rfl) fe_c) ?_)
                                      refine tl_nil ?_
                                      refine tx_then ?_
                                      refine tr_condp (fe_t rfl) (fun hq41 => ?_) (fun hq42 => ?_)
                                      · try (exfalso; omega)
                                        all_goals
                                          have hT2 : HoldR es (l.getD z.toNat Rf.nil).pb (max s.time (gq s.fs z.toNat).bg) := by rw [show (max s.time (gq s.fs z.toNat).bg) = (gq s.fs z.toNat).bg by omega]; exact (hrel z.toNat hzn).bg
                                          refine tr_region ?_
                                          refine tl_step rfl (oj_val (y_ldb 5 Try.isAgg180 (fe_t rfl) rfl rfl) ?_)
                                          refine tl_step rfl (oj_val (y_move (fe_t rfl)) ?_)
                                          refine tl_step rfl (oj_val (y_indexI Try.underlying180 Try.sizeOf182 (fe_t rfl) (fe_t rfl) (rdl_vec 6 rfl) (by rw [flat_len hcR]; omega) (by decide) (by omega) (by omega) rfl) ?_)
                                          refine tl_step rfl (oj_val (y_fieldAddrE (td := 30) Try.underlying182 rfl rfl Try.sizeOf30 rfl (fe_t rfl) (rdl_vec 6 rfl) (by rw [flat_len hcR]; omega)) ?_)
                                          refine tl_step rfl (oj_val (y_ld Try.isAgg30 (fe_t rfl) (rdl_vec 6 rfl) (flatG (d := Rf.nil) (i := 1) hcR (by omega) rfl)) ?_)
                                          refine tl_step rfl (oj_val (y_assign (fe_t rfl)) ?_)
                                          refine tl_nil ?_
                                          refine tx_then ?_
                                          refine tr_seq ?_
                                          refine tr_seq ?_
                                          refine tr_region ?_
                                          refine tl_step rfl (oj_val (y_ldb 5 Try.isAgg180 (fe_t rfl) rfl rfl) ?_)
                                          refine tl_step rfl (oj_val (y_len Try.underlying180 (fe_t rfl)) ?_)
                                          refine tl_step rfl (oj_val (y_move fe_c) ?_)
                                          refine tl_nil ?_
                                          refine tx_then ?_
                                          refine tr_block ?_
                                          refine tr_loop4 [20, 23, 24, 102, 103, 104, 105, 106, 107, 108, 109, 110, 111, 112, 113, 114, 115, 116, 117, 118, 119, 120, 121, 122, 123, 124, 125, 126, 127, 128, 129, 130, 131, 132, 133, 134] (fun (j : Nat) (y : Int) (Hz : List Nat) (Dz : List Nat) => [(102, .int .i64 (j : Int)), (20, .int .i64 y)]) 0 (fun (j : Nat) (y : Int) (Hz : List Nat) (Dz : List Nat) => [(4, bag Hz Dz es)]) (fun (j : Nat) (y : Int) (Hz : List Nat) (Dz : List Nat) => j ≤ n ∧ Mb s.fs (max s.time (gq s.fs z.toNat).bg) j y) (fun (j : Nat) (y : Int) (Hz : List Nat) (Dz : List Nat) => n - j) (0) (-1) (_) (_) (cov_cons (by first | rfl | exact v_int (by omega) | exact v_int (by dsimp only; omega)) (cov_cons (by first | rfl | exact v_int (by omega) | exact v_int (by dsimp only; omega)) (cov_nil))) (fun w h => h) ?_ ?_
                                          · try dsimp only
                                            exact ⟨by omega, mb_zero s.fs _⟩
                                          intro j y Hz Dz hp
                                          obtain ⟨hj, hm⟩ := hp
                                          have hmc := hm.cases
                                          refine tr_seq ?_
                                          refine tr_region ?_
                                          refine tl_step rfl (oj_val (y_lss (fe_t rfl) (fe_t rfl)) ?_)
                                          refine tl_nil ?_
                                          refine tx_then ?_
                                          refine tr_seq ?_
                                          refine tr_condp (fe_t rfl) (fun hq43 => ?_) (fun hq44 => ?_)
                                          · try (exfalso; omega)
                                            all_goals
                                              refine tr_skip ?_
                                              refine tx_then ?_
                                              refine tr_seq ?_
                                              refine tr_block ?_
                                              refine tr_seq ?_
                                              refine tr_region ?_
                                              refine tl_step rfl (oj_val (y_move (fe_t rfl)) ?_)
                                              refine tl_step rfl (oj_val (y_index Try.underlying180 Try.sizeOf182 (fe_t rfl) (fe_t rfl) (rdl_vec 6 rfl) (by rw [flat_len hcR]; omega) (by decide) (by omega) rfl) ?_)
                                              refine tl_step rfl (oj_val (y_ldA (cs := cR (l.getD j Rf.nil)) Try.isAgg182 Try.sizeOf182 (fe_t rfl) (rdl_vec 6 rfl) rfl (by decide) (flatGA (d := Rf.nil) hcR (by omega))) ?_)
                                              refine tl_step rfl (oj_alloc Try.zeroValue182 (fun by_ => ?_))
                                              refine tl_step rfl (oj_val (y_assign (fe_t rfl)) ?_)
                                              refine tl_step rfl (oj_storeW 0 Try.sizeOf182 (fe_t rfl) (fe_t rfl) rfl rfl rfl rfl rfl (?_))
                                              refine tl_nil ?_
                                              refine tx_then ?_
                                              refine tr_seq ?_
                                              have hRj := hrel j (by omega)
                                              have hjb : (l.getD j Rf.nil).bs.length = (gq s.fs j).bs.length := by rw [hRj.bs]
                                              have hoj := (hwf.ok j).1
                                              have hoj2 := (hwf.ok j).2.1
                                              have hoy := (hwf.ok y.toNat).2.1
                                              refine tr_norm (L' := [_, _, _, _, _, _, _, _, _, _]) (fun w h => h.pick [0, 1, 2, 3, 4, 5, 6, 7, 8, 9] _ rfl (by decide)) ?_
                                              refine tb_draw1 26 [_, _, _, _, _, _, _, _, _, _] [_, _, _, _, _, _, _, _, _] (fun w h => h.pick [0, 1, 2, 3, 4, 5, 6, 7, 8, 9] _ rfl (by decide)) (fun w h => h.pick [0, 1, 2, 3, 4, 6, 7, 8, 9] _ rfl (by decide)) rfl ?_
                                              refine tb_float (i := 0) rfl (by kernel_rfl) rfl (wants_none rfl) (yq_of (y_fieldAddr (td := 79) Try.underlying182 rfl rfl Try.sizeOf79 (o' := 0) rfl (fe_t rfl))) ?_
                                              refine tb_float (i := 1) rfl (by kernel_rfl) rfl (wants_none rfl) (yq_of (y_ldb 0 Try.isAgg79 (fe_t rfl) rfl rfl)) ?_
                                              refine tb_float (i := 2) rfl (by kernel_rfl) rfl (wants_none rfl) (yq_of (y_len Try.underlying79 (fe_t rfl))) ?_
                                              refine tb_float (i := 3) rfl (by kernel_rfl) rfl (wants_none rfl) (yq_of (y_gtr (fe_t rfl) fe_c)) ?_
                                              refine tb_float (i := 4) rfl (by kernel_rfl) rfl (wants_none rfl) (yq_of (y_move (fe_t rfl))) ?_
                                              refine tb_splitp (d := 111) rfl (fun hq45 => ?_) (fun hq46 => ?_)
                                              · try (exfalso; omega)
                                                all_goals
                                                  refine tb_float (i := 5) rfl (by kernel_rfl) rfl (wants_t rfl rfl rfl) (yq_of (y_fieldAddr (td := 30) Try.underlying182 rfl rfl Try.sizeOf30 (o' := 1) rfl (fe_t rfl))) ?_
                                                  refine tb_float (i := 6) rfl (by kernel_rfl) rfl (wants_t rfl rfl rfl) (yq_of (y_ldb 0 Try.isAgg30 (fe_t rfl) rfl rfl)) ?_
                                                  refine tb_float (i := 7) rfl (by kernel_rfl) rfl (wants_t rfl rfl rfl) (yq_of (y_move (fe_t rfl))) ?_
                                                  refine tb_one2 (i := 8) rfl (by kernel_rfl) (by kernel_rfl) (wants_t rfl rfl rfl) (oj_call2 Try.call24 fe_f (fel_cons (fe_t rfl) (fel_cons (fe_t rfl) fel_nil)) (fun w' hS => lift 5 hS rfl (fun T hS => cmpZ hS hRj.bg hT2 (by omega) (by omega))) (fun rc4 hrc4 => ⟨fun w h => h.pick [0, 1, 2, 3, 4, 6, 7, 8, 9] _ rfl (by decide), ?_⟩))
                                                  refine tb_float (i := 9) rfl (by kernel_rfl) rfl (wants_t rfl rfl rfl) (yq_of (y_leq (fe_t rfl) fe_c)) ?_
                                                  refine tb_float (i := 10) rfl (by kernel_rfl) rfl (wants_none rfl) (yq_of (y_pickt (fe_t rfl) (fe_t rfl))) ?_
                                                  refine tb_float (i := 11) rfl (by kernel_rfl) rfl (wants_none rfl) (yq_of (y_move (fe_t rfl))) ?_
                                                  refine tb_splitp (d := 118) rfl (fun hq47 => ?_) (fun hq48 => ?_)
                                                  · try (exfalso; omega)
                                                    all_goals
                                                      refine tb_float (i := 12) rfl (by kernel_rfl) rfl (wants_t rfl rfl rfl) (yq_of (y_move (fe_t rfl))) ?_
                                                      refine tb_float (i := 13) rfl (by kernel_rfl) rfl (wants_t rfl rfl rfl) (yq_of (y_lss (fe_t rfl) fe_c)) ?_
                                                      refine tb_float (i := 14) rfl (by kernel_rfl) rfl (wants_t rfl rfl rfl) (yq_of (y_move (fe_t rfl))) ?_
                                                      refine tb_splitp (d := 121) rfl (fun hq49 => ?_) (fun hq50 => ?_)
                                                      · try (exfalso; omega)
                                                        all_goals
                                                          refine tb_skip (i := 15) rfl (by kernel_rfl) rfl (wants_f rfl rfl rfl rfl) ?_
                                                          refine tb_skip (i := 16) rfl (by kernel_rfl) rfl (wants_f rfl rfl rfl rfl) ?_
                                                          refine tb_skip (i := 17) rfl (by kernel_rfl) rfl (wants_f rfl rfl rfl rfl) ?_
                                                          refine tb_skip (i := 18) rfl (by kernel_rfl) rfl (wants_f rfl rfl rfl rfl) ?_
                                                          refine tb_skip (i := 19) rfl (by kernel_rfl) rfl (wants_f rfl rfl rfl rfl) ?_
                                                          refine tb_skip (i := 20) rfl (by kernel_rfl) rfl (wants_f rfl rfl rfl rfl) ?_
                                                          refine tb_skip (i := 21) rfl (by kernel_rfl) rfl (wants_f rfl rfl rfl rfl) ?_
                                                          refine tb_skip (i := 22) rfl (by kernel_rfl) rfl (wants_f rfl rfl rfl rfl) ?_
                                                          refine tb_skip (i := 23) rfl (by kernel_rfl) rfl (wants_f rfl rfl rfl rfl) ?_
                                                          refine tb_float (i := 24) rfl (by kernel_rfl) rfl (wants_t rfl rfl rfl) (yq_of (y_pickt (fe_t rfl) fe_c)) ?_
                                                          refine tb_float (i := 25) rfl (by kernel_rfl) rfl (wants_none rfl) (yq_of (y_pickt (fe_t rfl) (fe_t rfl))) ?_
                                                          refine tb_done (by kernel_rfl) ?_
                                                          refine tx_then ?_
                                                          refine tr_condt (fe_t rfl) ?_
                                                          refine tr_region ?_
                                                          refine tl_step rfl (oj_val (y_move (fe_t rfl)) ?_)
                                                          refine tl_step rfl (oj_val (y_assign (fe_t rfl)) ?_)
                                                          refine tl_nil ?_
                                                          refine tx_in ?_
                                                          refine tx_then ?_
                                                          refine tr_region ?_
                                                          refine tl_step rfl (oj_val (y_inc (fe_t rfl) fe_c (by omega)) ?_)
                                                          refine tl_step rfl (oj_val (y_move (fe_t rfl)) ?_)
                                                          refine tl_nil ?_
                                                          apply tx_back4 (j + 1) ((j : Int)) (_) (_)
                                                          · exact (cov_cons (by first | rfl | exact v_int (by omega) | exact v_int (by dsimp only; omega)) (cov_cons (by first | rfl | exact v_int (by omega) | exact v_int (by dsimp only; omega)) (cov_nil)))
                                                          · repeat (first | exact over_nil | refine over_put rfl ?_ | refine over_drop rfl ?_)
                                                          · exact fun w h => h.pick [1, 2, 3, 4, 5, 6, 7, 8, 9] _ rfl (by decide)
                                                          · first
                                                              | exact ⟨⟨by omega, hm.take (by omega) (by omega) (by omega)⟩, by omega⟩
                                                              | exact ⟨⟨by omega, hm.skip (by omega)⟩, by omega⟩
                                                              | exact ⟨⟨by omega, hm.keep (by omega) (by omega)⟩, by omega⟩
                                                      · try (exfalso; omega)
                                                        all_goals
                                                          refine tb_float (i := 15) rfl (by kernel_rfl) rfl (wants_t rfl rfl rfl) (yq_of (y_fieldAddr (td := 30) Try.underlying182 rfl rfl Try.sizeOf30 (o' := 2) rfl (fe_t rfl))) ?_
                                                          refine tb_float (i := 16) rfl (by kernel_rfl) rfl (wants_t rfl rfl rfl) (yq_of (y_ldb 0 Try.isAgg30 (fe_t rfl) rfl rfl)) ?_
                                                          refine tb_float (i := 17) rfl (by kernel_rfl) rfl (wants_t rfl rfl rfl) (yq_of (y_ldb 5 Try.isAgg180 (fe_t rfl) rfl rfl)) ?_
                                                          refine tb_float (i := 18) rfl (by kernel_rfl) rfl (wants_t rfl rfl rfl) (yq_of (y_move (fe_t rfl))) ?_
                                                          refine tb_float (i := 19) rfl (by kernel_rfl) rfl (wants_t rfl rfl rfl) (yq_of (y_indexI Try.underlying180 Try.sizeOf182 (fe_t rfl) (fe_t rfl) (rdl_vec 6 rfl) (by rw [flat_len hcR]; omega) (by decide) (by omega) (by omega) rfl)) ?_
                                                          refine tb_float (i := 20) rfl (by kernel_rfl) rfl (wants_t rfl rfl rfl) (yq_of (y_fieldAddrE (td := 30) Try.underlying182 rfl rfl Try.sizeOf30 rfl (fe_t rfl) (rdl_vec 6 rfl) (by rw [flat_len hcR]; omega))) ?_
                                                          refine tb_float (i := 21) rfl (by kernel_rfl) rfl (wants_t rfl rfl rfl) (yq_of (y_ld Try.isAgg30 (fe_t rfl) (rdl_vec 6 rfl) (flatG (d := Rf.nil) (i := 2) hcR (by omega) rfl))) ?_
                                                          refine tb_one2 (i := 22) rfl (by kernel_rfl) (by kernel_rfl) (wants_t rfl rfl rfl) (oj_call2 Try.call24 fe_f (fel_cons (fe_t rfl) (fel_cons (fe_t rfl) fel_nil)) (fun w' hS => lift 5 hS rfl (fun T hS => cmpZ hS hRj.en (hrel y.toNat (by omega)).en (by omega) (by omega))) (fun rc5 hrc5 => ⟨fun w h => h.pick [0, 1, 2, 3, 4, 6, 7, 8, 9] _ rfl (by decide), ?_⟩))
                                                          refine tb_float (i := 23) rfl (by kernel_rfl) rfl (wants_t rfl rfl rfl) (yq_of (y_lss (fe_t rfl) fe_c)) ?_
                                                          refine tb_float (i := 24) rfl (by kernel_rfl) rfl (wants_t rfl rfl rfl) (yq_of (y_pickf (fe_t rfl) (fe_t rfl))) ?_
                                                          refine tb_float (i := 25) rfl (by kernel_rfl) rfl (wants_none rfl) (yq_of (y_pickt (fe_t rfl) (fe_t rfl))) ?_
                                                          refine tb_done (by kernel_rfl) ?_
                                                          refine tx_then ?_
                                                          refine tr_condp (fe_t rfl) (fun hq51 => ?_) (fun hq52 => ?_)
                                                          · try (exfalso; omega)
                                                            all_goals
                                                              refine tr_region ?_
                                                              refine tl_step rfl (oj_val (y_move (fe_t rfl)) ?_)
                                                              refine tl_step rfl (oj_val (y_assign (fe_t rfl)) ?_)
                                                              refine tl_nil ?_
                                                              refine tx_in ?_
                                                              refine tx_then ?_
                                                              refine tr_region ?_
                                                              refine tl_step rfl (oj_val (y_inc (fe_t rfl) fe_c (by omega)) ?_)
                                                              refine tl_step rfl (oj_val (y_move (fe_t rfl)) ?_)
                                                              refine tl_nil ?_
                                                              apply tx_back4 (j + 1) ((j : Int)) (_) (_)
                                                              · exact (cov_cons (by first | rfl | exact v_int (by omega) | exact v_int (by dsimp only; omega)) (cov_cons (by first | rfl | exact v_int (by omega) | exact v_int (by dsimp only; omega)) (cov_nil)))
                                                              · repeat (first | exact over_nil | refine over_put rfl ?_ | refine over_drop rfl ?_)
                                                              · exact fun w h => h.pick [1, 2, 3, 4, 5, 6, 7, 8, 9] _ rfl (by decide)
                                                              · first
                                                                  | exact ⟨⟨by omega, hm.take (by omega) (by omega) (by omega)⟩, by omega⟩
                                                                  | exact ⟨⟨by omega, hm.skip (by omega)⟩, by omega⟩
                                                                  | exact ⟨⟨by omega, hm.keep (by omega) (by omega)⟩, by omega⟩
                                                          · try (exfalso; omega)
                                                            all_goals
                                                              refine tr_skip ?_
                                                              refine tx_in ?_
                                                              refine tx_then ?_
                                                              refine tr_region ?_
                                                              refine tl_step rfl (oj_val (y_inc (fe_t rfl) fe_c (by omega)) ?_)
                                                              refine tl_step rfl (oj_val (y_move (fe_t rfl)) ?_)
                                                              refine tl_nil ?_
                                                              apply tx_back4 (j + 1) (y) (_) (_)
                                                              · exact (cov_cons (by first | rfl | exact v_int (by omega) | exact v_int (by dsimp only; omega)) (cov_cons (by first | rfl | exact v_int (by omega) | exact v_int (by dsimp only; omega)) (cov_nil)))
                                                              · repeat (first | exact over_nil | refine over_put rfl ?_ | refine over_drop rfl ?_)
                                                              · exact fun w h => h.pick [1, 2, 3, 4, 5, 6, 7, 8, 9] _ rfl (by decide)
                                                              · first
                                                                  | exact ⟨⟨by omega, hm.take (by omega) (by omega) (by omega)⟩, by omega⟩
                                                                  | exact ⟨⟨by omega, hm.skip (by omega)⟩, by omega⟩
                                                                  | exact ⟨⟨by omega, hm.keep (by omega) (by omega)⟩, by omega⟩
                                                  · try (exfalso; omega)
                                                    all_goals
                                                      refine tb_skip (i := 12) rfl (by kernel_rfl) rfl (wants_f rfl rfl rfl rfl) ?_
                                                      refine tb_skip (i := 13) rfl (by kernel_rfl) rfl (wants_f rfl rfl rfl rfl) ?_
                                                      refine tb_skip (i := 14) rfl (by kernel_rfl) rfl (wants_f rfl rfl rfl rfl) ?_
                                                      refine tb_skip (i := 15) rfl (by kernel_rfl) rfl (wants_undef rfl rfl rfl) ?_
                                                      refine tb_skip (i := 16) rfl (by kernel_rfl) rfl (wants_undef rfl rfl rfl) ?_
                                                      refine tb_skip (i := 17) rfl (by kernel_rfl) rfl (wants_undef rfl rfl rfl) ?_
                                                      refine tb_skip (i := 18) rfl (by kernel_rfl) rfl (wants_undef rfl rfl rfl) ?_
                                                      refine tb_skip (i := 19) rfl (by kernel_rfl) rfl (wants_undef rfl rfl rfl) ?_
                                                      refine tb_skip (i := 20) rfl (by kernel_rfl) rfl (wants_undef rfl rfl rfl) ?_
                                                      refine tb_skip (i := 21) rfl (by kernel_rfl) rfl (wants_undef rfl rfl rfl) ?_
                                                      refine tb_skip (i := 22) rfl (by kernel_rfl) rfl (wants_undef rfl rfl rfl) ?_
                                                      refine tb_skip (i := 23) rfl (by kernel_rfl) rfl (wants_undef rfl rfl rfl) ?_
                                                      refine tb_skip (i := 24) rfl (by kernel_rfl) rfl (wants_f rfl rfl rfl rfl) ?_
                                                      refine tb_float (i := 25) rfl (by kernel_rfl) rfl (wants_none rfl) (yq_of (y_pickf (fe_t rfl) fe_c)) ?_
                                                      refine tb_done (by kernel_rfl) ?_
                                                      refine tx_then ?_
                                                      refine tr_condf (fe_t rfl) ?_
                                                      refine tr_skip ?_
                                                      refine tx_in ?_
                                                      refine tx_then ?_
                                                      refine tr_region ?_
                                                      refine tl_step rfl (oj_val (y_inc (fe_t rfl) fe_c (by omega)) ?_)
                                                      refine tl_step rfl (oj_val (y_move (fe_t rfl)) ?_)
                                                      refine tl_nil ?_
                                                      apply tx_back4 (j + 1) (y) (_) (_)
                                                      · exact (cov_cons (by first | rfl | exact v_int (by omega) | exact v_int (by dsimp only; omega)) (cov_cons (by first | rfl | exact v_int (by omega) | exact v_int (by dsimp only; omega)) (cov_nil)))
                                                      · repeat (first | exact over_nil | refine over_put rfl ?_ | refine over_drop rfl ?_)
                                                      · exact fun w h => h.pick [1, 2, 3, 4, 5, 6, 7, 8, 9] _ rfl (by decide)
                                                      · first
                                                          | exact ⟨⟨by omega, hm.take (by omega) (by omega) (by omega)⟩, by omega⟩
                                                          | exact ⟨⟨by omega, hm.skip (by omega)⟩, by omega⟩
                                                          | exact ⟨⟨by omega, hm.keep (by omega) (by omega)⟩, by omega⟩
                                              · try (exfalso; omega)
                                                all_goals
                                                  refine tb_skip (i := 5) rfl (by kernel_rfl) rfl (wants_f rfl rfl rfl rfl) ?_
                                                  refine tb_skip (i := 6) rfl (by kernel_rfl) rfl (wants_f rfl rfl rfl rfl) ?_
                                                  refine tb_skip (i := 7) rfl (by kernel_rfl) rfl (wants_f rfl rfl rfl rfl) ?_
                                                  refine tb_skip (i := 8) rfl (by kernel_rfl) rfl (wants_f rfl rfl rfl rfl) ?_
                                                  refine tb_skip (i := 9) rfl (by kernel_rfl) rfl (wants_f rfl rfl rfl rfl) ?_
                                                  refine tb_float (i := 10) rfl (by kernel_rfl) rfl (wants_none rfl) (yq_of (y_pickf (fe_t rfl) fe_c)) ?_
                                                  refine tb_float (i := 11) rfl (by kernel_rfl) rfl (wants_none rfl) (yq_of (y_move (fe_t rfl))) ?_
                                                  refine tb_skip (i := 12) rfl (by kernel_rfl) rfl (wants_f rfl rfl rfl rfl) ?_
                                                  refine tb_skip (i := 13) rfl (by kernel_rfl) rfl (wants_f rfl rfl rfl rfl) ?_
                                                  refine tb_skip (i := 14) rfl (by kernel_rfl) rfl (wants_f rfl rfl rfl rfl) ?_
                                                  refine tb_skip (i := 15) rfl (by kernel_rfl) rfl (wants_undef rfl rfl rfl) ?_
                                                  refine tb_skip (i := 16) rfl (by kernel_rfl) rfl (wants_undef rfl rfl rfl) ?_
                                                  refine tb_skip (i := 17) rfl (by kernel_rfl) rfl (wants_undef rfl rfl rfl) ?_
                                                  refine tb_skip (i := 18) rfl (by kernel_rfl) rfl (wants_undef rfl rfl rfl) ?_
                                                  refine tb_skip (i := 19) rfl (by kernel_rfl) rfl (wants_undef rfl rfl rfl) ?_
                                                  refine tb_skip (i := 20) rfl (by kernel_rfl) rfl (wants_undef rfl rfl rfl) ?_
                                                  refine tb_skip (i := 21) rfl (by kernel_rfl) rfl (wants_undef rfl rfl rfl) ?_
                                                  refine tb_skip (i := 22) rfl (by kernel_rfl) rfl (wants_undef rfl rfl rfl) ?_
                                                  refine tb_skip (i := 23) rfl (by kernel_rfl) rfl (wants_undef rfl rfl rfl) ?_
                                                  refine tb_skip (i := 24) rfl (by kernel_rfl) rfl (wants_f rfl rfl rfl rfl) ?_
                                                  refine tb_float (i := 25) rfl (by kernel_rfl) rfl (wants_none rfl) (yq_of (y_pickf (fe_t rfl) fe_c)) ?_
                                                  refine tb_done (by kernel_rfl) ?_
                                                  refine tx_then ?_
                                                  refine tr_condf (fe_t rfl) ?_
                                                  refine tr_skip ?_
                                                  refine tx_in ?_
                                                  refine tx_then ?_
                                                  refine tr_region ?_
                                                  refine tl_step rfl (oj_val (y_inc (fe_t rfl) fe_c (by omega)) ?_)
                                                  refine tl_step rfl (oj_val (y_move (fe_t rfl)) ?_)
                                                  refine tl_nil ?_
                                                  apply tx_back4 (j + 1) (y) (_) (_)
                                                  · exact (cov_cons (by first | rfl | exact v_int (by omega) | exact v_int (by dsimp only; omega)) (cov_cons (by first | rfl | exact v_int (by omega) | exact v_int (by dsimp only; omega)) (cov_nil)))
                                                  · repeat (first | exact over_nil | refine over_put rfl ?_ | refine over_drop rfl ?_)
                                                  · exact fun w h => h.pick [1, 2, 3, 4, 5, 6, 7, 8, 9] _ rfl (by decide)
                                                  · first
                                                      | exact ⟨⟨by omega, hm.take (by omega) (by omega) (by omega)⟩, by omega⟩
                                                      | exact ⟨⟨by omega, hm.skip (by omega)⟩, by omega⟩
                                                      | exact ⟨⟨by omega, hm.keep (by omega) (by omega)⟩, by omega⟩
                                          · try (exfalso; omega)
                                            all_goals
                                              refine tr_exit ?_
                                              refine tx_then_exit ?_
                                              refine tx_then_exit ?_
                                              refine tx_in_exit ?_
                                              refine tx_then ?_
                                              refine tr_seq ?_
                                              obtain ⟨q, hq1, hM⟩ := mb_some (n := n) (k := j) (by omega) hm hL
                                              subst hq1
                                              have hqn := hM.1
                                              have hRq := hrel q hqn
                                              have hokq := hwf.ok q
                                              have hq0 : 0 < (gq s.fs q).bs.length := hM.2.1
                                              have hhd := hd_ok hokq hq0
                                              have hhq : hd (l.getD q Rf.nil).bs = hd (gq s.fs q).bs := by rw [hRq.bs]
                                              have hqb : (l.getD q Rf.nil).bs.length = (gq s.fs q).bs.length := by rw [hRq.bs]
                                              have hTb : 0 ≤ (max s.time (gq s.fs z.toNat).bg) ∧ (max s.time (gq s.fs z.toNat).bg) ≤ 4000000000000 := by omega
                                              refine tr_region ?_
                                              refine tl_step rfl (oj_val (y_ldb 5 Try.isAgg180 (fe_t rfl) rfl rfl) ?_)
                                              refine tl_step rfl (oj_val (y_move (fe_t rfl)) ?_)
                                              refine tl_step rfl (oj_val (y_index Try.underlying180 Try.sizeOf182 (fe_t rfl) (fe_t rfl) (rdl_vec 6 rfl) (by rw [flat_len hcR]; omega) (by decide) (by omega) rfl) ?_)
                                              refine tl_step rfl (oj_val (y_assign (fe_t rfl)) ?_)
                                              refine tl_nil ?_
                                              refine tx_then ?_
                                              refine tr_seq ?_
                                              refine tr_region ?_
                                              refine tl_step rfl (oj_val (y_move (fe_t rfl)) ?_)
                                              refine tl_step rfl (oj_val (y_move (fe_t rfl)) ?_)
                                              refine tl_step rfl (oj_val (y_move (fe_t rfl)) ?_)
                                              refine tl_step rfl (oj_val (y_nilCheckE (fe_t rfl) (rdl_vec 6 rfl) (by rw [flat_len hcR]; omega)) ?_)
                                              refine tl_step rfl (oj_val (y_fieldAddrE (td := 79) Try.underlying182 rfl rfl Try.sizeOf79 rfl (fe_t rfl) (rdl_vec 6 rfl) (by rw [flat_len hcR]; omega)) ?_)
                                              refine tl_step rfl (oj_val (y_ld Try.isAgg79 (fe_t rfl) (rdl_vec 6 rfl) (flatG (d := Rf.nil) (i := 0) hcR (by omega) rfl)) ?_)
                                              refine tl_step rfl (oj_val (y_indexI (m := 0) Try.underlying79 Try.sizeOf3 (fe_t rfl) fe_c (subG (f := Rf.bV) (d := Rf.nil) 3 rfl (by omega)) (by simp [Rf.bV, cI]) (by decide) (by decide) (by omega) rfl) ?_)
                                              refine tl_step rfl (oj_val (y_ld Try.isAgg3 (fe_t rfl) (subG (f := Rf.bV) (d := Rf.nil) 3 rfl (by omega)) (hdI (by omega))) ?_)
                                              refine tl_step rfl (oj_val ((fun {u0 u1} hx hb => y_build (is := [0, 1]) (vs := [u0, u1]) (cs := [u0, u1]) rfl hx hb) (fel_cons (fe_t rfl) (fel_cons (fe_t rfl) fel_nil)) (by kernel_rfl)) ?_)
                                              refine tl_step rfl (oj_slice1 Try.underlying93 Try.sizeOf102 Try.zeroValue102 (fe_t rfl) (by decide) rfl (fun b12 => ?_))
                                              refine tl_step rfl (oj_append (i := 2) (s := 2) (z := (.agg #[.int .i64 0, .int .i64 0])) (bytes := 16) Try.underlying93 (by kernel_rfl) (fe_t rfl) (fe_t rfl) rfl (rdl_blk 0 rfl) rfl (by decide) (by first | exact oneI | exact oneF (fun _ => rfl) | exact fun u hu => List.all_eq_true.1 (show List.all _ (fun x => x.oneCell') = true from rfl) u hu | (intro u hu; revert u hu; simp [Value.oneCell'])) (by decide) ⟨by omega, by decide⟩ (fun Aa12 ca12 hca12 => ?_))
                                              refine tl_step rfl (oj_val (y_assign (fe_t rfl)) ?_)
                                              refine tl_nil ?_
                                              refine tx_then ?_
                                              refine tr_seq ?_
                                              obtain ⟨ta, tb, mta, mtb, hTr⟩ := hT2
                                              obtain ⟨⟨f1, f2⟩, f3, f4⟩ := time_bd hTb
                                              obtain ⟨k1, k2⟩ := mk_bd (n := hd (l.getD q Rf.nil).bs) (d := 1) (by omega)
                                              have k3 := (mkRat (hd (l.getD q Rf.nil).bs) (1 : Int).toNat).den_pos
                                              have k0 : ((mkRat (hd (l.getD q Rf.nil).bs) (1 : Int).toNat).den : Int) = 1 := by omega
                                              have k4 := prod_bd (a := (mkRat (hd (l.getD q Rf.nil).bs) (1 : Int).toNat).num) (b := ((mkRat (max s.time (gq s.fs z.toNat).bg) 27720).den : Int)) (A := 1500) (B := 27720) (by omega) (by omega) (by omega) (by omega)
                                              have k5 : (mkRat (max s.time (gq s.fs z.toNat).bg) 27720).num * ((mkRat (hd (l.getD q Rf.nil).bs) (1 : Int).toNat).den : Int) = (mkRat (max s.time (gq s.fs z.toNat).bg) 27720).num := by rw [k0, Int.mul_one]
                                              have k6 : ((mkRat (max s.time (gq s.fs z.toNat).bg) 27720).den : Int) * ((mkRat (hd (l.getD q Rf.nil).bs) (1 : Int).toNat).den : Int) = ((mkRat (max s.time (gq s.fs z.toNat).bg) 27720).den : Int) := by rw [k0, Int.mul_one]
                                              refine tr_region ?_
                                              refine tl_step rfl (oj_allocR 5 Try.zeroValue37 rfl (fun b_tn H_tn => ?_))
                                              refine tl_step rfl (oj_val (y_move (fe_t rfl)) ?_)
                                              refine tl_step rfl (oj_val (y_move (fe_t rfl)) ?_)
                                              refine tl_step rfl (oj_val (y_nilCheckE (fe_t rfl) (rdl_vec 7 rfl) (by rw [flat_len hcR]; omega)) ?_)
                                              refine tl_step rfl (oj_val (y_fieldAddrE (td := 79) Try.underlying182 rfl rfl Try.sizeOf79 rfl (fe_t rfl) (rdl_vec 7 rfl) (by rw [flat_len hcR]; omega)) ?_)
                                              refine tl_step rfl (oj_val (y_ld Try.isAgg79 (fe_t rfl) (rdl_vec 7 rfl) (flatG (d := Rf.nil) (i := 0) hcR (by omega) rfl)) ?_)
                                              refine tl_step rfl (oj_val (y_indexI (m := 0) Try.underlying79 Try.sizeOf3 (fe_t rfl) fe_c (subG (f := Rf.bV) (d := Rf.nil) 4 rfl (by omega)) (by simp [Rf.bV, cI]) (by decide) (by decide) (by omega) rfl) ?_)
                                              refine tl_step rfl (oj_val (y_ld Try.isAgg3 (fe_t rfl) (subG (f := Rf.bV) (d := Rf.nil) 4 rfl (by omega)) (hdI (by omega))) ?_)
                                              refine tl_step rfl (oj_call2 Try.call83 fe_f (fel_cons (fe_t rfl) (fel_cons fe_c fel_nil)) (fun w' hS => lift 5 hS rfl (fun T hS => newR hS (hd (l.getD q Rf.nil).bs) 1 (by omega) (by omega) (by omega) (by omega))) (fun r1 hr1 => ?_))
                                              refine tl_step rfl (oj_call2 Try.call22 fe_f (fel_cons (fe_t rfl) (fel_cons (fe_t rfl) (fel_cons (fe_t rfl) fel_nil))) (fun w' hS => lift2 (p := fun m_ n_ => RatIs m_ n_ (mkRat (max s.time (gq s.fs z.toNat).bg) 27720 + mkRat (hd (l.getD q Rf.nil).bs) (1 : Int).toNat)) 5 2 3 hS rfl rfl rfl rfl (fun T l' hm hS => addR hS (hm _ (List.mem_cons_of_mem _ (List.mem_cons_of_mem _ (List.mem_cons_of_mem _ (List.mem_cons_of_mem _ mta))))) (hm _ (List.mem_cons_of_mem _ (List.mem_cons_of_mem _ (List.mem_cons_of_mem _ (List.mem_cons_of_mem _ mtb))))) (hm _ (pget_mem 0 rfl)) (hm _ (pget_mem 1 rfl)) hTr hr1 (by omega) (by omega) (by omega) (by omega) (by omega))) (fun r2 hr2 => ?_))
                                              refine tl_step rfl (oj_val (y_assign (fe_t rfl)) ?_)
                                              refine tl_nil ?_
                                              refine tx_then ?_
                                              refine tr_seq ?_
                                              refine tr_norm (L' := [_, _, _, _, _, _, _, _, _, _]) (fun w h => h.pick [0, 1, 2, 3, 4, 5, 6, 7, 8, 9] _ rfl (by decide)) ?_
                                              refine tr_bagEq 5 rfl (fun es1 he1 => ?_)
                                              have hext : Ext es es1 := by rw [he1]; exact (.cons _ (.cons _ (.cons _ (.cons _ Ext.rfl))))
                                              have hT3 : HoldR es1 b_tn ((max s.time (gq s.fs z.toNat).bg) + hd (l.getD q Rf.nil).bs * 27720) := by rw [he1]; exact ⟨_, _, pget_mem 2 rfl, pget_mem 3 rfl, by have h := hr2; rw [mk_one] at h; exact h⟩
                                              have hrel1 := hrel.mono hext
                                              refine tr_subCut 4 q rfl (map_at (d := Rf.nil) Rf.bV (by omega)) (by show 1 ≤ (l.getD q Rf.nil).bs.length; omega) cut_r ?_
                                              refine tr_region ?_
                                              refine tl_step rfl (oj_val (y_move (fe_t rfl)) ?_)
                                              refine tl_step rfl (oj_val (y_move (fe_t rfl)) ?_)
                                              refine tl_step rfl (oj_val (y_nilCheckE (fe_t rfl) (rdl_vec 7 rfl) (by rw [flat_len hcR]; omega)) ?_)
                                              refine tl_step rfl (oj_val (y_fieldAddrE (td := 79) Try.underlying182 rfl rfl Try.sizeOf79 rfl (fe_t rfl) (rdl_vec 7 rfl) (by rw [flat_len hcR]; omega)) ?_)
                                              refine tl_step rfl (oj_val (y_ld Try.isAgg79 (fe_t rfl) (rdl_vec 7 rfl) (flatG (d := Rf.nil) (i := 0) hcR (by omega) rfl)) ?_)
                                              refine tl_step rfl (oj_val (y_cutL (l := 1) Try.underlying79 Try.sizeOf3 (fe_t rfl) fe_c (by omega)) ?_)
                                              refine tl_step rfl (oj_val (y_nilCheckE (fe_t rfl) (rdl_vec 7 rfl) (by rw [flat_len hcR]; omega)) ?_)
                                              refine tl_step rfl (oj_val (y_fieldAddrE (td := 79) Try.underlying182 rfl rfl Try.sizeOf79 rfl (fe_t rfl) (rdl_vec 7 rfl) (by rw [flat_len hcR]; omega)) ?_)
                                              refine tl_step rfl (oj_storeG (i := 7) Rf.nil (⟨cutA (l.getD q Rf.nil).A1 1 (l.getD q Rf.nil).c1 1, (l.getD q Rf.nil).c1 - 1, (l.getD q Rf.nil).bs.drop 1, (l.getD q Rf.nil).pb, (l.getD q Rf.nil).pe⟩ : Rf) hcR Try.sizeOf79 (fe_t rfl) (fe_t rfl) rfl rfl rfl (by (try rw [List.length_set]); omega) rfl (by simp [cR]) (?_))
                                              refine tl_nil ?_
                                              refine tx_then ?_
                                              refine tr_seq ?_
                                              generalize hl1 : l.set q (⟨cutA (l.getD q Rf.nil).A1 1 (l.getD q Rf.nil).c1 1, (l.getD q Rf.nil).c1 - 1, (l.getD q Rf.nil).bs.drop 1, (l.getD q Rf.nil).pb, (l.getD q Rf.nil).pe⟩ : Rf) = l1
                                              have hl1n : l1.length = n := by rw [← hl1, List.length_set]; exact hll
                                              have hl1k : l1.getD q Rf.nil = (⟨cutA (l.getD q Rf.nil).A1 1 (l.getD q Rf.nil).c1 1, (l.getD q Rf.nil).c1 - 1, (l.getD q Rf.nil).bs.drop 1, (l.getD q Rf.nil).pb, (l.getD q Rf.nil).pe⟩ : Rf) := by rw [← hl1, getD_set (by omega), if_pos rfl]
                                              have hrel2 : Rel es1 n l1 (s.fs.set q ⟨(gq s.fs q).bs.drop 1, (gq s.fs q).bg, (gq s.fs q).en⟩) := by rw [← hl1]; exact hrel1.set hll hfl hqn ⟨by rw [hRq.bs], (hrel1 q hqn).bg, (hrel1 q hqn).en⟩
                                              have hg1 : gq (s.fs.set q ⟨(gq s.fs q).bs.drop 1, (gq s.fs q).bg, (gq s.fs q).en⟩) q = ⟨(gq s.fs q).bs.drop 1, (gq s.fs q).bg, (gq s.fs q).en⟩ := by rw [gq_set (by omega), if_pos rfl]
                                              have hfl1 : (s.fs.set q ⟨(gq s.fs q).bs.drop 1, (gq s.fs q).bg, (gq s.fs q).en⟩).length = n := by rw [List.length_set]; exact hfl
                                              have hbl : (l1.getD q Rf.nil).bs.length = (gq s.fs q).bs.length - 1 := by rw [(hrel2 q hqn).bs, hg1]; simp
                                              have hen1 : HoldR es1 (l1.getD q Rf.nil).pe (gq s.fs q).en := by have h := (hrel2 q hqn).en; rw [hg1] at h; exact h
                                              refine tr_region ?_
                                              refine tl_step rfl (oj_val (y_move (fe_t rfl)) ?_)
                                              refine tl_step rfl (oj_val (y_nilCheckE (fe_t rfl) (rdl_vec 7 rfl) (by rw [flat_len hcR]; omega)) ?_)
                                              refine tl_step rfl (oj_val (y_fieldAddrE (td := 79) Try.underlying182 rfl rfl Try.sizeOf79 rfl (fe_t rfl) (rdl_vec 7 rfl) (by rw [flat_len hcR]; omega)) ?_)
                                              refine tl_step rfl (oj_val (y_ld Try.isAgg79 (fe_t rfl) (rdl_vec 7 rfl) (flatG (d := Rf.nil) (i := 0) hcR (by omega) rfl)) ?_)
                                              refine tl_step rfl (oj_val (y_len Try.underlying79 (fe_t rfl)) ?_)
                                              refine tl_step rfl (oj_val (y_gtr (fe_t rfl) fe_c) ?_)
                                              refine tl_nil ?_
                                              refine tx_then ?_
                                              refine tr_condp (fe_t rfl) (fun hq53 => ?_) (fun hq54 => ?_)
                                              · try (exfalso; omega)
                                                all_goals
                                                  refine tr_region ?_
                                                  refine tl_step rfl (oj_val (y_move (fe_t rfl)) ?_)
                                                  refine tl_step rfl (oj_val (y_move (fe_t rfl)) ?_)
                                                  refine tl_step rfl (oj_val (y_move (fe_t rfl)) ?_)
                                                  refine tl_step rfl (oj_val (y_nilCheckE (fe_t rfl) (rdl_vec 7 rfl) (by rw [flat_len hcR]; omega)) ?_)
                                                  refine tl_step rfl (oj_val (y_fieldAddrE (td := 30) Try.underlying182 rfl rfl Try.sizeOf30 rfl (fe_t rfl) (rdl_vec 7 rfl) (by rw [flat_len hcR]; omega)) ?_)
                                                  refine tl_step rfl (oj_val (y_ld Try.isAgg30 (fe_t rfl) (rdl_vec 7 rfl) (flatG (d := Rf.nil) (i := 2) hcR (by omega) rfl)) ?_)
                                                  refine tl_step rfl (oj_callF Try.call141 (fe_t rfl) (fel_cons (fe_t rfl) (fel_cons (fe_t rfl) fel_nil)) (fun w' hS => firstH (hS.pick [6, 8, 9, 7, 4, 5, 0, 1, 2, 3] [_, _, _, _, _, _, _, _, _, _] rfl (by decide)) hr hn hl1n hfl1 hrel2 hqn hen1 (by have := hokq.2.1; omega) (by rw [hg1]; show 0 < ((gq s.fs q).bs.drop 1).length; rw [List.length_drop]; omega) (by rw [hg1]; exact hokq.2.2 _ (List.mem_of_mem_drop (hd_mem (fun e => by have h := congrArg List.length e; rw [List.length_drop] at h; simp at h; omega)))) (hgw q hqn) hsm) (fun q1 hQ1 => ?_))
                                                  refine tl_nil ?_
                                                  refine tx_in ?_
                                                  refine tx_then ?_
                                                  refine tr_region ?_
                                                  refine tl_step rfl (oj_val (y_move (fe_t rfl)) ?_)
                                                  refine tl_step rfl (oj_val (y_move (fe_t rfl)) ?_)
                                                  refine tl_step rfl (oj_slice1 Try.underlying92 Try.sizeOf24 Try.zeroValue24 (fe_t rfl) (by decide) rfl (fun b13 => ?_))
                                                  refine tl_step rfl (oj_append (i := 10) (s := 1) (z := (.int .i64 0)) (bytes := 8) Try.underlying92 (by kernel_rfl) (fe_t rfl) (fe_t rfl) rfl (rdl_blk 0 rfl) rfl (by decide) (by first | exact oneI | exact oneF (fun _ => rfl) | exact fun u hu => List.all_eq_true.1 (show List.all _ (fun x => x.oneCell') = true from rfl) u hu | (intro u hu; revert u hu; simp [Value.oneCell'])) (by decide) ⟨by omega, by decide⟩ (fun Aa13 ca13 hca13 => ?_))
                                                  refine tl_step rfl (oj_val (y_assign (fe_t rfl)) ?_)
                                                  refine tl_nil ?_
                                                  refine tx_in ?_
                                                  refine tx_then ?_
                                                  refine tr_region ?_
                                                  refine tl_step rfl (oj_val (y_inc (fe_t rfl) fe_c (by omega)) ?_)
                                                  refine tl_step rfl (oj_val (y_move (fe_t rfl)) ?_)
                                                  refine tl_nil ?_
                                                  apply tx_back9 (i + 1) (⟨s.fs.set q (outQ (cost ws q) (gq s.fs q)), (max s.time (gq s.fs z.toNat).bg) + hd (gq s.fs q).bs * 27720, s.errs ++ [0], s.sent ++ [((q : Int), hd (gq s.fs q).bs)]⟩) (q1.1) ((⟨_, _, _, _⟩ : Vs)) ((⟨_, _, _, _⟩ : Vs)) (b_tn) (_) (_) (q1.2.2.2)
                                                  · exact (cov_cons (by first | rfl | exact v_int (by omega) | exact v_int (by dsimp only; omega)) (cov_cons (by first | rfl | exact v_int (by omega) | exact v_int (by dsimp only; omega)) (cov_cons (by first | rfl | exact v_int (by omega) | exact v_int (by dsimp only; omega)) (cov_cons (by first | rfl | exact v_int (by omega) | exact v_int (by dsimp only; omega)) (cov_nil)))))
                                                  · repeat (first | exact over_nil | refine over_put rfl ?_ | refine over_drop rfl ?_)
                                                  · exact fun w h => h.pick [9, 10, 5, 6, 1, 4, 2, 3] _ rfl (by decide)
                                                  · exact ⟨⟨by omega, ⟨s, hrun, .out q (gq s.fs z.toNat).bg (by show o1 os i = 2; omega) hL hM⟩, hQ1.1, by have h := hQ1.2.2; rw [hg1, List.set_set] at h; dsimp only at h; dsimp only; unfold outQ; rw [decide_eq_false (show ¬ (gq s.fs q).bs.length = 1 by omega)]; exact h, by dsimp only; rw [← hhq]; exact hT3.mono hQ1.2.1, ⟨by simp; omega, by dsimp only; rw [hex, cI, cI, List.map_append]; rfl⟩, by simp; omega, by dsimp only; rw [hsx, List.flatMap_append, hhq]; rfl⟩, by omega⟩
                                              · try (exfalso; omega)
                                                all_goals
                                                  refine tr_skip ?_
                                                  refine tx_in ?_
                                                  refine tx_then ?_
                                                  refine tr_region ?_
                                                  refine tl_step rfl (oj_val (y_move (fe_t rfl)) ?_)
                                                  refine tl_step rfl (oj_val (y_move (fe_t rfl)) ?_)
                                                  refine tl_step rfl (oj_slice1 Try.underlying92 Try.sizeOf24 Try.zeroValue24 (fe_t rfl) (by decide) rfl (fun b14 => ?_))
                                                  refine tl_step rfl (oj_append (i := 4) (s := 1) (z := (.int .i64 0)) (bytes := 8) Try.underlying92 (by kernel_rfl) (fe_t rfl) (fe_t rfl) rfl (rdl_blk 0 rfl) rfl (by decide) (by first | exact oneI | exact oneF (fun _ => rfl) | exact fun u hu => List.all_eq_true.1 (show List.all _ (fun x => x.oneCell') = true from rfl) u hu | (intro u hu; revert u hu; simp [Value.oneCell'])) (by decide) ⟨by omega, by decide⟩ (fun Aa14 ca14 hca14 => ?_))
                                                  refine tl_step rfl (oj_val (y_assign (fe_t rfl)) ?_)
                                                  refine tl_nil ?_
                                                  refine tx_in ?_
                                                  refine tx_then ?_
                                                  refine tr_region ?_
                                                  refine tl_step rfl (oj_val (y_inc (fe_t rfl) fe_c (by omega)) ?_)
                                                  refine tl_step rfl (oj_val (y_move (fe_t rfl)) ?_)
                                                  refine tl_nil ?_
                                                  apply tx_back9 (i + 1) (⟨s.fs.set q (outQ (cost ws q) (gq s.fs q)), (max s.time (gq s.fs z.toNat).bg) + hd (gq s.fs q).bs * 27720, s.errs ++ [0], s.sent ++ [((q : Int), hd (gq s.fs q).bs)]⟩) (l1) ((⟨_, _, _, _⟩ : Vs)) ((⟨_, _, _, _⟩ : Vs)) (b_tn) (_) (_) (es1)
                                                  · exact (cov_cons (by first | rfl | exact v_int (by omega) | exact v_int (by dsimp only; omega)) (cov_cons (by first | rfl | exact v_int (by omega) | exact v_int (by dsimp only; omega)) (cov_cons (by first | rfl | exact v_int (by omega) | exact v_int (by dsimp only; omega)) (cov_cons (by first | rfl | exact v_int (by omega) | exact v_int (by dsimp only; omega)) (cov_nil)))))
                                                  · repeat (first | exact over_nil | refine over_put rfl ?_ | refine over_drop rfl ?_)
                                                  · exact fun w h => h.pick [3, 4, 5, 6, 7, 8, 9, 10] _ rfl (by decide)
                                                  · exact ⟨⟨by omega, ⟨s, hrun, .out q (gq s.fs z.toNat).bg (by show o1 os i = 2; omega) hL hM⟩, hl1n, by dsimp only; unfold outQ; rw [decide_eq_true (show (gq s.fs q).bs.length = 1 by omega)]; exact hrel2, by dsimp only; rw [← hhq]; exact hT3, ⟨by simp; omega, by dsimp only; rw [hex, cI, cI, List.map_append]; rfl⟩, by simp; omega, by dsimp only; rw [hsx, List.flatMap_append, hhq]; rfl⟩, by omega⟩
                                      · try (exfalso; omega)
                                        all_goals
                                          have hT2 : HoldR es pt (max s.time (gq s.fs z.toNat).bg) := by rw [show (max s.time (gq s.fs z.toNat).bg) = s.time by omega]; exact hTm
                                          refine tr_skip ?_
                                          refine tx_then ?_
                                          refine tr_seq ?_
                                          refine tr_seq ?_
                                          refine tr_region ?_
                                          refine tl_step rfl (oj_val (y_ldb 5 Try.isAgg180 (fe_t rfl) rfl rfl) ?_)
                                          refine tl_step rfl (oj_val (y_len Try.underlying180 (fe_t rfl)) ?_)
                                          refine tl_step rfl (oj_val (y_move fe_c) ?_)
                                          refine tl_nil ?_
                                          refine tx_then ?_
                                          refine tr_block ?_
                                          refine tr_loop4 [20, 23, 24, 102, 103, 104, 105, 106, 107, 108, 109, 110, 111, 112, 113, 114, 115, 116, 117, 118, 119, 120, 121, 122, 123, 124, 125, 126, 127, 128, 129, 130, 131, 132, 133, 134] (fun (j : Nat) (y : Int) (Hz : List Nat) (Dz : List Nat) => [(102, .int .i64 (j : Int)), (20, .int .i64 y)]) 0 (fun (j : Nat) (y : Int) (Hz : List Nat) (Dz : List Nat) => [(4, bag Hz Dz es)]) (fun (j : Nat) (y : Int) (Hz : List Nat) (Dz : List Nat) => j ≤ n ∧ Mb s.fs (max s.time (gq s.fs z.toNat).bg) j y) (fun (j : Nat) (y : Int) (Hz : List Nat) (Dz : List Nat) => n - j) (0) (-1) (_) (_) (cov_cons (by first | rfl | exact v_int (by omega) | exact v_int (by dsimp only; omega)) (cov_cons (by first | rfl | exact v_int (by omega) | exact v_int (by dsimp only; omega)) (cov_nil))) (fun w h => h) ?_ ?_
                                          · try dsimp only
                                            exact ⟨by omega, mb_zero s.fs _⟩
                                          intro j y Hz Dz hp
                                          obtain ⟨hj, hm⟩ := hp
                                          have hmc := hm.cases
                                          refine tr_seq ?_
                                          refine tr_region ?_
                                          refine tl_step rfl (oj_val (y_lss (fe_t rfl) (fe_t rfl)) ?_)
                                          refine tl_nil ?_
                                          refine tx_then ?_
                                          refine tr_seq ?_
                                          refine tr_condp (fe_t rfl) (fun hq55 => ?_) (fun hq56 => ?_)
                                          · try (exfalso; omega)
                                            all_goals
                                              refine tr_skip ?_
                                              refine tx_then ?_
                                              refine tr_seq ?_
                                              refine tr_block ?_
                                              refine tr_seq ?_
                                              refine tr_region ?_
                                              refine tl_step rfl (oj_val (y_move (fe_t rfl)) ?_)
                                              refine tl_step rfl (oj_val (y_index Try.underlying180 Try.sizeOf182 (fe_t rfl) (fe_t rfl) (rdl_vec 6 rfl) (by rw [flat_len hcR]; omega) (by decide) (by omega) rfl) ?_)
                                              refine tl_step rfl (oj_val (y_ldA (cs := cR (l.getD j Rf.nil)) Try.isAgg182 Try.sizeOf182 (fe_t rfl) (rdl_vec 6 rfl) rfl (by decide) (flatGA (d := Rf.nil) hcR (by omega))) ?_)
                                              refine tl_step rfl (oj_alloc Try.zeroValue182 (fun by_ => ?_))
                                              refine tl_step rfl (oj_val (y_assign (fe_t rfl)) ?_)
                                              refine tl_step rfl (oj_storeW 0 Try.sizeOf182 (fe_t rfl) (fe_t rfl) rfl rfl rfl rfl rfl (?_))
                                              refine tl_nil ?_
                                              refine tx_then ?_
                                              refine tr_seq ?_
                                              have hRj := hrel j (by omega)
                                              have hjb : (l.getD j Rf.nil).bs.length = (gq s.fs j).bs.length := by rw [hRj.bs]
                                              have hoj := (hwf.ok j).1
                                              have hoj2 := (hwf.ok j).2.1
                                              have hoy := (hwf.ok y.toNat).2.1
                                              refine tr_norm (L' := [_, _, _, _, _, _, _, _, _, _]) (fun w h => h.pick [0, 1, 2, 3, 4, 5, 6, 7, 8, 9] _ rfl (by decide)) ?_
                                              refine tb_draw1 26 [_, _, _, _, _, _, _, _, _, _] [_, _, _, _, _, _, _, _, _] (fun w h => h.pick [0, 1, 2, 3, 4, 5, 6, 7, 8, 9] _ rfl (by decide)) (fun w h => h.pick [0, 1, 2, 3, 4, 6, 7, 8, 9] _ rfl (by decide)) rfl ?_
                                              refine tb_float (i := 0) rfl (by kernel_rfl) rfl (wants_none rfl) (yq_of (y_fieldAddr (td := 79) Try.underlying182 rfl rfl Try.sizeOf79 (o' := 0) rfl (fe_t rfl))) ?_
                                              refine tb_float (i := 1) rfl (by kernel_rfl) rfl (wants_none rfl) (yq_of (y_ldb 0 Try.isAgg79 (fe_t rfl) rfl rfl)) ?_
                                              refine tb_float (i := 2) rfl (by kernel_rfl) rfl (wants_none rfl) (yq_of (y_len Try.underlying79 (fe_t rfl))) ?_
                                              refine tb_float (i := 3) rfl (by kernel_rfl) rfl (wants_none rfl) (yq_of (y_gtr (fe_t rfl) fe_c)) ?_
                                              refine tb_float (i := 4) rfl (by kernel_rfl) rfl (wants_none rfl) (yq_of (y_move (fe_t rfl))) ?_
                                              refine tb_splitp (d := 111) rfl (fun hq57 => ?_) (fun hq58 => ?_)
                                              · try (exfalso; omega)
                                                all_goals
                                                  refine tb_float (i := 5) rfl (by kernel_rfl) rfl (wants_t rfl rfl rfl) (yq_of (y_fieldAddr (td := 30) Try.underlying182 rfl rfl Try.sizeOf30 (o' := 1) rfl (fe_t rfl))) ?_
                                                  refine tb_float (i := 6) rfl (by kernel_rfl) rfl (wants_t rfl rfl rfl) (yq_of (y_ldb 0 Try.isAgg30 (fe_t rfl) rfl rfl)) ?_
                                                  refine tb_float (i := 7) rfl (by kernel_rfl) rfl (wants_t rfl rfl rfl) (yq_of (y_move (fe_t rfl))) ?_
                                                  refine tb_one2 (i := 8) rfl (by kernel_rfl) (by kernel_rfl) (wants_t rfl rfl rfl) (oj_call2 Try.call24 fe_f (fel_cons (fe_t rfl) (fel_cons (fe_t rfl) fel_nil)) (fun w' hS => lift 5 hS rfl (fun T hS => cmpZ hS hRj.bg hT2 (by omega) (by omega))) (fun rc6 hrc6 => ⟨fun w h => h.pick [0, 1, 2, 3, 4, 6, 7, 8, 9] _ rfl (by decide), ?_⟩))
                                                  refine tb_float (i := 9) rfl (by kernel_rfl) rfl (wants_t rfl rfl rfl) (yq_of (y_leq (fe_t rfl) fe_c)) ?_
                                                  refine tb_float (i := 10) rfl (by kernel_rfl) rfl (wants_none rfl) (yq_of (y_pickt (fe_t rfl) (fe_t rfl))) ?_
                                                  refine tb_float (i := 11) rfl (by kernel_rfl) rfl (wants_none rfl) (yq_of (y_move (fe_t rfl))) ?_
                                                  refine tb_splitp (d := 118) rfl (fun hq59 => ?_) (fun hq60 => ?_)
                                                  · try (exfalso; omega)
                                                    all_goals
                                                      refine tb_float (i := 12) rfl (by kernel_rfl) rfl (wants_t rfl rfl rfl) (yq_of (y_move (fe_t rfl))) ?_
                                                      refine tb_float (i := 13) rfl (by kernel_rfl) rfl (wants_t rfl rfl rfl) (yq_of (y_lss (fe_t rfl) fe_c)) ?_
                                                      refine tb_float (i := 14) rfl (by kernel_rfl) rfl (wants_t rfl rfl rfl) (yq_of (y_move (fe_t rfl))) ?_
                                                      refine tb_splitp (d := 121) rfl (fun hq61 => ?_) (fun hq62 => ?_)
                                                      · try (exfalso; omega)
                                                        all_goals
                                                          refine tb_skip (i := 15) rfl (by kernel_rfl) rfl (wants_f rfl rfl rfl rfl) ?_
                                                          refine tb_skip (i := 16) rfl (by kernel_rfl) rfl (wants_f rfl rfl rfl rfl) ?_
                                                          refine tb_skip (i := 17) rfl (by kernel_rfl) rfl (wants_f rfl rfl rfl rfl) ?_
                                                          refine tb_skip (i := 18) rfl (by kernel_rfl) rfl (wants_f rfl rfl rfl rfl) ?_
                                                          refine tb_skip (i := 19) rfl (by kernel_rfl) rfl (wants_f rfl rfl rfl rfl) ?_
                                                          refine tb_skip (i := 20) rfl (by kernel_rfl) rfl (wants_f rfl rfl rfl rfl) ?_
                                                          refine tb_skip (i := 21) rfl (by kernel_rfl) rfl (wants_f rfl rfl rfl rfl) ?_
                                                          refine tb_skip (i := 22) rfl (by kernel_rfl) rfl (wants_f rfl rfl rfl rfl) ?_
                                                          refine tb_skip (i := 23) rfl (by kernel_rfl) rfl (wants_f rfl rfl rfl rfl) ?_
                                                          refine tb_float (i := 24) rfl (by kernel_rfl) rfl (wants_t rfl rfl rfl) (yq_of (y_pickt (fe_t rfl) fe_c)) ?_
                                                          refine tb_float (i := 25) rfl (by kernel_rfl) rfl (wants_none rfl) (yq_of (y_pickt (fe_t rfl) (fe_t rfl))) ?_
                                                          refine tb_done (by kernel_rfl) ?_
                                                          refine tx_then ?_
                                                          refine tr_condt (fe_t rfl) ?_
                                                          refine tr_region ?_
                                                          refine tl_step rfl (oj_val (y_move (fe_t rfl)) ?_)
                                                          refine tl_step rfl (oj_val (y_assign (fe_t rfl)) ?_)
                                                          refine tl_nil ?_
                                                          refine tx_in ?_
                                                          refine tx_then ?_
                                                          refine tr_region ?_
                                                          refine tl_step rfl (oj_val (y_inc (fe_t rfl) fe_c (by omega)) ?_)
                                                          refine tl_step rfl (oj_val (y_move (fe_t rfl)) ?_)
                                                          refine tl_nil ?_
                                                          apply tx_back4 (j + 1) ((j : Int)) (_) (_)
                                                          · exact (cov_cons (by first | rfl | exact v_int (by omega) | exact v_int (by dsimp only; omega)) (cov_cons (by first | rfl | exact v_int (by omega) | exact v_int (by dsimp only; omega)) (cov_nil)))
                                                          · repeat (first | exact over_nil | refine over_put rfl ?_ | refine over_drop rfl ?_)
                                                          · exact fun w h => h.pick [1, 2, 3, 4, 5, 6, 7, 8, 9] _ rfl (by decide)
                                                          · first
                                                              | exact ⟨⟨by omega, hm.take (by omega) (by omega) (by omega)⟩, by omega⟩
                                                              | exact ⟨⟨by omega, hm.skip (by omega)⟩, by omega⟩
                                                              | exact ⟨⟨by omega, hm.keep (by omega) (by omega)⟩, by omega⟩
                                                      · try (exfalso; omega)
                                                        all_goals
                                                          refine tb_float (i := 15) rfl (by kernel_rfl) rfl (wants_t rfl rfl rfl) (yq_of (y_fieldAddr (td := 30) Try.underlying182 rfl rfl Try.sizeOf30 (o' := 2) rfl (fe_t rfl))) ?_
                                                          refine tb_float (i := 16) rfl (by kernel_rfl) rfl (wants_t rfl rfl rfl) (yq_of (y_ldb 0 Try.isAgg30 (fe_t rfl) rfl rfl)) ?_
                                                          refine tb_float (i := 17) rfl (by kernel_rfl) rfl (wants_t rfl rfl rfl) (yq_of (y_ldb 5 Try.isAgg180 (fe_t rfl) rfl rfl)) ?_
                                                          refine tb_float (i := 18) rfl (by kernel_rfl) rfl (wants_t rfl rfl rfl) (yq_of (y_move (fe_t rfl))) ?_
                                                          refine tb_float (i := 19) rfl (by kernel_rfl) rfl (wants_t rfl rfl rfl) (yq_of (y_indexI Try.underlying180 Try.sizeOf182 (fe_t rfl) (fe_t rfl) (rdl_vec 6 rfl) (by rw [flat_len hcR]; omega) (by decide) (by omega) (by omega) rfl)) ?_
                                                          refine tb_float (i := 20) rfl (by kernel_rfl) rfl (wants_t rfl rfl rfl) (yq_of (y_fieldAddrE (td := 30) Try.underlying182 rfl rfl Try.sizeOf30 rfl (fe_t rfl) (rdl_vec 6 rfl) (by rw [flat_len hcR]; omega))) ?_
                                                          refine tb_float (i := 21) rfl (by kernel_rfl) rfl (wants_t rfl rfl rfl) (yq_of (y_ld Try.isAgg30 (fe_t rfl) (rdl_vec 6 rfl) (flatG (d := Rf.nil) (i := 2) hcR (by omega) rfl))) ?_
                                                          refine tb_one2 (i := 22) rfl (by kernel_rfl) (by kernel_rfl) (wants_t rfl rfl rfl) (oj_call2 Try.call24 fe_f (fel_cons (fe_t rfl) (fel_cons (fe_t rfl) fel_nil)) (fun w' hS => lift 5 hS rfl (fun T hS => cmpZ hS hRj.en (hrel y.toNat (by omega)).en (by omega) (by omega))) (fun rc7 hrc7 => ⟨fun w h => h.pick [0, 1, 2, 3, 4, 6, 7, 8, 9] _ rfl (by decide), ?_⟩))
                                                          refine tb_float (i := 23) rfl (by kernel_rfl) rfl (wants_t rfl rfl rfl) (yq_of (y_lss (fe_t rfl) fe_c)) ?_
                                                          refine tb_float (i := 24) rfl (by kernel_rfl) rfl (wants_t rfl rfl rfl) (yq_of (y_pickf (fe_t rfl) (fe_t rfl))) ?_
                                                          refine tb_float (i := 25) rfl (by kernel_rfl) rfl (wants_none rfl) (yq_of (y_pickt (fe_t rfl) (fe_t rfl))) ?_
                                                          refine tb_done (by kernel_rfl) ?_
                                                          refine tx_then ?_
                                                          refine tr_condp (fe_t rfl) (fun hq63 => ?_) (fun hq64 => ?_)
                                                          · try (exfalso; omega)
                                                            all_goals
                                                              refine tr_region ?_
                                                              refine tl_step rfl (oj_val (y_move (fe_t rfl)) ?_)
                                                              refine tl_step rfl (oj_val (y_assign (fe_t rfl)) ?_)
                                                              refine tl_nil ?_
                                                              refine tx_in ?_
                                                              refine tx_then ?_
                                                              refine tr_region ?_
                                                              refine tl_step rfl (oj_val (y_inc (fe_t rfl) fe_c (by omega)) ?_)
                                                              refine tl_step rfl (oj_val (y_move (fe_t rfl)) ?_)
                                                              refine tl_nil ?_
                                                              apply tx_back4 (j + 1) ((j : Int)) (_) (_)
                                                              · exact (cov_cons (by first | rfl | exact v_int (by omega) | exact v_int (by dsimp only; omega)) (cov_cons (by first | rfl | exact v_int (by omega) | exact v_int (by dsimp only; omega)) (cov_nil)))
                                                              · repeat (first | exact over_nil | refine over_put rfl ?_ | refine over_drop rfl ?_)
                                                              · exact fun w h => h.pick [1, 2, 3, 4, 5, 6, 7, 8, 9] _ rfl (by decide)
                                                              · first
                                                                  | exact ⟨⟨by omega, hm.take (by omega) (by omega) (by omega)⟩, by omega⟩
                                                                  | exact ⟨⟨by omega, hm.skip (by omega)⟩, by omega⟩
                                                                  | exact ⟨⟨by omega, hm.keep (by omega) (by omega)⟩, by omega⟩
                                                          · try (exfalso; omega)
                                                            all_goals
                                                              refine tr_skip ?_
                                                              refine tx_in ?_
                                                              refine tx_then ?_
                                                              refine tr_region ?_
                                                              refine tl_step rfl (oj_val (y_inc (fe_t rfl) fe_c (by omega)) ?_)
                                                              refine tl_step rfl (oj_val (y_move (fe_t rfl)) ?_)
                                                              refine tl_nil ?_
                                                              apply tx_back4 (j + 1) (y) (_) (_)
                                                              · exact (cov_cons (by first | rfl | exact v_int (by omega) | exact v_int (by dsimp only; omega)) (cov_cons (by first | rfl | exact v_int (by omega) | exact v_int (by dsimp only; omega)) (cov_nil)))
                                                              · repeat (first | exact over_nil | refine over_put rfl ?_ | refine over_drop rfl ?_)
                                                              · exact fun w h => h.pick [1, 2, 3, 4, 5, 6, 7, 8, 9] _ rfl (by decide)
                                                              · first
                                                                  | exact ⟨⟨by omega, hm.take (by omega) (by omega) (by omega)⟩, by omega⟩
                                                                  | exact ⟨⟨by omega, hm.skip (by omega)⟩, by omega⟩
                                                                  | exact ⟨⟨by omega, hm.keep (by omega) (by omega)⟩, by omega⟩
                                                  · try (exfalso; omega)
                                                    all_goals
                                                      refine tb_skip (i := 12) rfl (by kernel_rfl) rfl (wants_f rfl rfl rfl rfl) ?_
                                                      refine tb_skip (i := 13) rfl (by kernel_rfl) rfl (wants_f rfl rfl rfl rfl) ?_
                                                      refine tb_skip (i := 14) rfl (by kernel_rfl) rfl (wants_f rfl rfl rfl rfl) ?_
                                                      refine tb_skip (i := 15) rfl (by kernel_rfl) rfl (wants_undef rfl rfl rfl) ?_
                                                      refine tb_skip (i := 16) rfl (by kernel_rfl) rfl (wants_undef rfl rfl rfl) ?_
                                                      refine tb_skip (i := 17) rfl (by kernel_rfl) rfl (wants_undef rfl rfl rfl) ?_
                                                      refine tb_skip (i := 18) rfl (by kernel_rfl) rfl (wants_undef rfl rfl rfl) ?_
                                                      refine tb_skip (i := 19) rfl (by kernel_rfl) rfl (wants_undef rfl rfl rfl) ?_
                                                      refine tb_skip (i := 20) rfl (by kernel_rfl) rfl (wants_undef rfl rfl rfl) ?_
                                                      refine tb_skip (i := 21) rfl (by kernel_rfl) rfl (wants_undef rfl rfl rfl) ?_
                                                      refine tb_skip (i := 22) rfl (by kernel_rfl) rfl (wants_undef rfl rfl rfl) ?_
                                                      refine tb_skip (i := 23) rfl (by kernel_rfl) rfl (wants_undef rfl rfl rfl) ?_
                                                      refine tb_skip (i := 24) rfl (by kernel_rfl) rfl (wants_f rfl rfl rfl rfl) ?_
                                                      refine tb_float (i := 25) rfl (by kernel_rfl) rfl (wants_none rfl) (yq_of (y_pickf (fe_t rfl) fe_c)) ?_
                                                      refine tb_done (by kernel_rfl) ?_
                                                      refine tx_then ?_
                                                      refine tr_condf (fe_t rfl) ?_
                                                      refine tr_skip ?_
                                                      refine tx_in ?_
                                                      refine tx_then ?_
                                                      refine tr_region ?_
                                                      refine tl_step rfl (oj_val (y_inc (fe_t rfl) fe_c (by omega)) ?_)
                                                      refine tl_step rfl (oj_val (y_move (fe_t rfl)) ?_)
                                                      refine tl_nil ?_
                                                      apply tx_back4 (j + 1) (y) (_) (_)
                                                      · exact (cov_cons (by first | rfl | exact v_int (by omega) | exact v_int (by dsimp only; omega)) (cov_cons (by first | rfl | exact v_int (by omega) | exact v_int (by dsimp only; omega)) (cov_nil)))
                                                      · repeat (first | exact over_nil | refine over_put rfl ?_ | refine over_drop rfl ?_)
                                                      · exact fun w h => h.pick [1, 2, 3, 4, 5, 6, 7, 8, 9] _ rfl (by decide)
                                                      · first
                                                          | exact ⟨⟨by omega, hm.take (by omega) (by omega) (by omega)⟩, by omega⟩
                                                          | exact ⟨⟨by omega, hm.skip (by omega)⟩, by omega⟩
                                                          | exact ⟨⟨by omega, hm.keep (by omega) (by omega)⟩, by omega⟩
                                              · try (exfalso; omega)
                                                all_goals
                                                  refine tb_skip (i := 5) rfl (by kernel_rfl) rfl (wants_f rfl rfl rfl rfl) ?_
                                                  refine tb_skip (i := 6) rfl (by kernel_rfl) rfl (wants_f rfl rfl rfl rfl) ?_
                                                  refine tb_skip (i := 7) rfl (by kernel_rfl) rfl (wants_f rfl rfl rfl rfl) ?_
                                                  refine tb_skip (i := 8) rfl (by kernel_rfl) rfl (wants_f rfl rfl rfl rfl) ?_
                                                  refine tb_skip (i := 9) rfl (by kernel_rfl) rfl (wants_f rfl rfl rfl rfl) ?_
                                                  refine tb_float (i := 10) rfl (by kernel_rfl) rfl (wants_none rfl) (yq_of (y_pickf (fe_t rfl) fe_c)) ?_
                                                  refine tb_float (i := 11) rfl (by kernel_rfl) rfl (wants_none rfl) (yq_of (y_move (fe_t rfl))) ?_
                                                  refine tb_skip (i := 12) rfl (by kernel_rfl) rfl (wants_f rfl rfl rfl rfl) ?_
                                                  refine tb_skip (i := 13) rfl (by kernel_rfl) rfl (wants_f rfl rfl rfl rfl) ?_
                                                  refine tb_skip (i := 14) rfl (by kernel_rfl) rfl (wants_f rfl rfl rfl rfl) ?_
                                                  refine tb_skip (i := 15) rfl (by kernel_rfl) rfl (wants_undef rfl rfl rfl) ?_
                                                  refine tb_skip (i := 16) rfl (by kernel_rfl) rfl (wants_undef rfl rfl rfl) ?_
                                                  refine tb_skip (i := 17) rfl (by kernel_rfl) rfl (wants_undef rfl rfl rfl) ?_
                                                  refine tb_skip (i := 18) rfl (by kernel_rfl) rfl (wants_undef rfl rfl rfl) ?_
                                                  refine tb_skip (i := 19) rfl (by kernel_rfl) rfl (wants_undef rfl rfl rfl) ?_
                                                  refine tb_skip (i := 20) rfl (by kernel_rfl) rfl (wants_undef rfl rfl rfl) ?_
                                                  refine tb_skip (i := 21) rfl (by kernel_rfl) rfl (wants_undef rfl rfl rfl) ?_
                                                  refine tb_skip (i := 22) rfl (by kernel_rfl) rfl (wants_undef rfl rfl rfl) ?_
                                                  refine tb_skip (i := 23) rfl (by kernel_rfl) rfl (wants_undef rfl rfl rfl) ?_
                                                  refine tb_skip (i := 24) rfl (by kernel_rfl) rfl (wants_f rfl rfl rfl rfl) ?_
                                                  refine tb_float (i := 25) rfl (by kernel_rfl) rfl (wants_none rfl) (yq_of (y_pickf (fe_t rfl) fe_c)) ?_
                                                  refine tb_done (by kernel_rfl) ?_
                                                  refine tx_then ?_
                                                  refine tr_condf (fe_t rfl) ?_
                                                  refine tr_skip ?_
                                                  refine tx_in ?_
                                                  refine tx_then ?_
                                                  refine tr_region ?_
                                                  refine tl_step rfl (oj_val (y_inc (fe_t rfl) fe_c (by omega)) ?_)
                                                  refine tl_step rfl (oj_val (y_move (fe_t rfl)) ?_)
                                                  refine tl_nil ?_
                                                  apply tx_back4 (j + 1) (y) (_) (_)
                                                  · exact (cov_cons (by first | rfl | exact v_int (by omega) | exact v_int (by dsimp only; omega)) (cov_cons (by first | rfl | exact v_int (by omega) | exact v_int (by dsimp only; omega)) (cov_nil)))
                                                  · repeat (first | exact over_nil | refine over_put rfl ?_ | refine over_drop rfl ?_)
                                                  · exact fun w h => h.pick [1, 2, 3, 4, 5, 6, 7, 8, 9] _ rfl (by decide)
                                                  · first
                                                      | exact ⟨⟨by omega, hm.take (by omega) (by omega) (by omega)⟩, by omega⟩
                                                      | exact ⟨⟨by omega, hm.skip (by omega)⟩, by omega⟩
                                                      | exact ⟨⟨by omega, hm.keep (by omega) (by omega)⟩, by omega⟩
                                          · try (exfalso; omega)
                                            all_goals
                                              refine tr_exit ?_
                                              refine tx_then_exit ?_
                                              refine tx_then_exit ?_
                                              refine tx_in_exit ?_
                                              refine tx_then ?_
                                              refine tr_seq ?_
                                              obtain ⟨q, hq1, hM⟩ := mb_some (n := n) (k := j) (by omega) hm hL
                                              subst hq1
                                              have hqn := hM.1
                                              have hRq := hrel q hqn
                                              have hokq := hwf.ok q
                                              have hq0 : 0 < (gq s.fs q).bs.length := hM.2.1
                                              have hhd := hd_ok hokq hq0
                                              have hhq : hd (l.getD q Rf.nil).bs = hd (gq s.fs q).bs := by rw [hRq.bs]
                                              have hqb : (l.getD q Rf.nil).bs.length = (gq s.fs q).bs.length := by rw [hRq.bs]
                                              have hTb : 0 ≤ (max s.time (gq s.fs z.toNat).bg) ∧ (max s.time (gq s.fs z.toNat).bg) ≤ 4000000000000 := by omega
                                              refine tr_region ?_
                                              refine tl_step rfl (oj_val (y_ldb 5 Try.isAgg180 (fe_t rfl) rfl rfl) ?_)
                                              refine tl_step rfl (oj_val (y_move (fe_t rfl)) ?_)
                                              refine tl_step rfl (oj_val (y_index Try.underlying180 Try.sizeOf182 (fe_t rfl) (fe_t rfl) (rdl_vec 6 rfl) (by rw [flat_len hcR]; omega) (by decide) (by omega) rfl) ?_)
                                              refine tl_step rfl (oj_val (y_assign (fe_t rfl)) ?_)
                                              refine tl_nil ?_
                                              refine tx_then ?_
                                              refine tr_seq ?_
                                              refine tr_region ?_
                                              refine tl_step rfl (oj_val (y_move (fe_t rfl)) ?_)
                                              refine tl_step rfl (oj_val (y_move (fe_t rfl)) ?_)
                                              refine tl_step rfl (oj_val (y_move (fe_t rfl)) ?_)
                                              refine tl_step rfl (oj_val (y_nilCheckE (fe_t rfl) (rdl_vec 6 rfl) (by rw [flat_len hcR]; omega)) ?_)
                                              refine tl_step rfl (oj_val (y_fieldAddrE (td := 79) Try.underlying182 rfl rfl Try.sizeOf79 rfl (fe_t rfl) (rdl_vec 6 rfl) (by rw [flat_len hcR]; omega)) ?_)
                                              refine tl_step rfl (oj_val (y_ld Try.isAgg79 (fe_t rfl) (rdl_vec 6 rfl) (flatG (d := Rf.nil) (i := 0) hcR (by omega) rfl)) ?_)
                                              refine tl_step rfl (oj_val (y_indexI (m := 0) Try.underlying79 Try.sizeOf3 (fe_t rfl) fe_c (subG (f := Rf.bV) (d := Rf.nil) 3 rfl (by omega)) (by simp [Rf.bV, cI]) (by decide) (by decide) (by omega) rfl) ?_)
                                              refine tl_step rfl (oj_val (y_ld Try.isAgg3 (fe_t rfl) (subG (f := Rf.bV) (d := Rf.nil) 3 rfl (by omega)) (hdI (by omega))) ?_)
                                              refine tl_step rfl (oj_val ((fun {u0 u1} hx hb => y_build (is := [0, 1]) (vs := [u0, u1]) (cs := [u0, u1]) rfl hx hb) (fel_cons (fe_t rfl) (fel_cons (fe_t rfl) fel_nil)) (by kernel_rfl)) ?_)
                                              refine tl_step rfl (oj_slice1 Try.underlying93 Try.sizeOf102 Try.zeroValue102 (fe_t rfl) (by decide) rfl (fun b15 => ?_))
                                              refine tl_step rfl (oj_append (i := 2) (s := 2) (z := (.agg #[.int .i64 0, .int .i64 0])) (bytes := 16) Try.underlying93 (by kernel_rfl) (fe_t rfl) (fe_t rfl) rfl (rdl_blk 0 rfl) rfl (by decide) (by first | exact oneI | exact oneF (fun _ => rfl) | exact fun u hu => List.all_eq_true.1 (show List.all _ (fun x => x.oneCell') = true from rfl) u hu | (intro u hu; revert u hu; simp [Value.oneCell'])) (by decide) ⟨by omega, by decide⟩ (fun Aa15 ca15 hca15 => ?_))
                                              refine tl_step rfl (oj_val (y_assign (fe_t rfl)) ?_)
                                              refine tl_nil ?_
                                              refine tx_then ?_
                                              refine tr_seq ?_
                                              obtain ⟨ta, tb, mta, mtb, hTr⟩ := hT2
                                              obtain ⟨⟨f1, f2⟩, f3, f4⟩ := time_bd hTb
                                              obtain ⟨k1, k2⟩ := mk_bd (n := hd (l.getD q Rf.nil).bs) (d := 1) (by omega)
                                              have k3 := (mkRat (hd (l.getD q Rf.nil).bs) (1 : Int).toNat).den_pos
                                              have k0 : ((mkRat (hd (l.getD q Rf.nil).bs) (1 : Int).toNat).den : Int) = 1 := by omega
                                              have k4 := prod_bd (a := (mkRat (hd (l.getD q Rf.nil).bs) (1 : Int).toNat).num) (b := ((mkRat (max s.time (gq s.fs z.toNat).bg) 27720).den : Int)) (A := 1500) (B := 27720) (by omega) (by omega) (by omega) (by omega)
                                              have k5 : (mkRat (max s.time (gq s.fs z.toNat).bg) 27720).num * ((mkRat (hd (l.getD q Rf.nil).bs) (1 : Int).toNat).den : Int) = (mkRat (max s.time (gq s.fs z.toNat).bg) 27720).num := by rw [k0, Int.mul_one]
                                              have k6 : ((mkRat (max s.time (gq s.fs z.toNat).bg) 27720).den : Int) * ((mkRat (hd (l.getD q Rf.nil).bs) (1 : Int).toNat).den : Int) = ((mkRat (max s.time (gq s.fs z.toNat).bg) 27720).den : Int) := by rw [k0, Int.mul_one]
                                              refine tr_region ?_
                                              refine tl_step rfl (oj_allocR 5 Try.zeroValue37 rfl (fun b_tn H_tn => ?_))
                                              refine tl_step rfl (oj_val (y_move (fe_t rfl)) ?_)
                                              refine tl_step rfl (oj_val (y_move (fe_t rfl)) ?_)
                                              refine tl_step rfl (oj_val (y_nilCheckE (fe_t rfl) (rdl_vec 7 rfl) (by rw [flat_len hcR]; omega)) ?_)
                                              refine tl_step rfl (oj_val (y_fieldAddrE (td := 79) Try.underlying182 rfl rfl Try.sizeOf79 rfl (fe_t rfl) (rdl_vec 7 rfl) (by rw [flat_len hcR]; omega)) ?_)
                                              refine tl_step rfl (oj_val (y_ld Try.isAgg79 (fe_t rfl) (rdl_vec 7 rfl) (flatG (d := Rf.nil) (i := 0) hcR (by omega) rfl)) ?_)
                                              refine tl_step rfl (oj_val (y_indexI (m := 0) Try.underlying79 Try.sizeOf3 (fe_t rfl) fe_c (subG (f := Rf.bV) (d := Rf.nil) 4 rfl (by omega)) (by simp [Rf.bV, cI]) (by decide) (by decide) (by omega) rfl) ?_)
                                              refine tl_step rfl (oj_val (y_ld Try.isAgg3 (fe_t rfl) (subG (f := Rf.bV) (d := Rf.nil) 4 rfl (by omega)) (hdI (by omega))) ?_)
                                              refine tl_step rfl (oj_call2 Try.call83 fe_f (fel_cons (fe_t rfl) (fel_cons fe_c fel_nil)) (fun w' hS => lift 5 hS rfl (fun T hS => newR hS (hd (l.getD q Rf.nil).bs) 1 (by omega) (by omega) (by omega) (by omega))) (fun r3 hr3 => ?_))
                                              refine tl_step rfl (oj_call2 Try.call22 fe_f (fel_cons (fe_t rfl) (fel_cons (fe_t rfl) (fel_cons (fe_t rfl) fel_nil))) (fun w' hS => lift2 (p := fun m_ n_ => RatIs m_ n_ (mkRat (max s.time (gq s.fs z.toNat).bg) 27720 + mkRat (hd (l.getD q Rf.nil).bs) (1 : Int).toNat)) 5 2 3 hS rfl rfl rfl rfl (fun T l' hm hS => addR hS (hm _ (List.mem_cons_of_mem _ (List.mem_cons_of_mem _ (List.mem_cons_of_mem _ (List.mem_cons_of_mem _ mta))))) (hm _ (List.mem_cons_of_mem _ (List.mem_cons_of_mem _ (List.mem_cons_of_mem _ (List.mem_cons_of_mem _ mtb))))) (hm _ (pget_mem 0 rfl)) (hm _ (pget_mem 1 rfl)) hTr hr3 (by omega) (by omega) (by omega) (by omega) (by omega))) (fun r4 hr4 => ?_))
                                              refine tl_step rfl (oj_val (y_assign (fe_t rfl)) ?_)
                                              refine tl_nil ?_
                                              refine tx_then ?_
                                              refine tr_seq ?_
                                              refine tr_norm (L' := [_, _, _, _, _, _, _, _, _, _]) (fun w h => h.pick [0, 1, 2, 3, 4, 5, 6, 7, 8, 9] _ rfl (by decide)) ?_
                                              refine tr_bagEq 5 rfl (fun es1 he1 => ?_)
                                              have hext : Ext es es1 := by rw [he1]; exact (.cons _ (.cons _ (.cons _ (.cons _ Ext.rfl))))
                                              have hT3 : HoldR es1 b_tn ((max s.time (gq s.fs z.toNat).bg) + hd (l.getD q Rf.nil).bs * 27720) := by rw [he1]; exact ⟨_, _, pget_mem 2 rfl, pget_mem 3 rfl, by have h := hr4; rw [mk_one] at h; exact h⟩
                                              have hrel1 := hrel.mono hext
                                              refine tr_subCut 4 q rfl (map_at (d := Rf.nil) Rf.bV (by omega)) (by show 1 ≤ (l.getD q Rf.nil).bs.length; omega) cut_r ?_
                                              refine tr_region ?_
                                              refine tl_step rfl (oj_val (y_move (fe_t rfl)) ?_)
                                              refine tl_step rfl (oj_val (y_move (fe_t rfl)) ?_)
                                              refine tl_step rfl (oj_val (y_nilCheckE (fe_t rfl) (rdl_vec 7 rfl) (by rw [flat_len hcR]; omega)) ?_)
                                              refine tl_step rfl (oj_val (y_fieldAddrE (td := 79) Try.underlying182 rfl rfl Try.sizeOf79 rfl (fe_t rfl) (rdl_vec 7 rfl) (by rw [flat_len hcR]; omega)) ?_)
                                              refine tl_step rfl (oj_val (y_ld Try.isAgg79 (fe_t rfl) (rdl_vec 7 rfl) (flatG (d := Rf.nil) (i := 0) hcR (by omega) rfl)) ?_)
                                              refine tl_step rfl (oj_val (y_cutL (l := 1) Try.underlying79 Try.sizeOf3 (fe_t rfl) fe_c (by omega)) ?_)
                                              refine tl_step rfl (oj_val (y_nilCheckE (fe_t rfl) (rdl_vec 7 rfl) (by rw [flat_len hcR]; omega)) ?_)
                                              refine tl_step rfl (oj_val (y_fieldAddrE (td := 79) Try.underlying182 rfl rfl Try.sizeOf79 rfl (fe_t rfl) (rdl_vec 7 rfl) (by rw [flat_len hcR]; omega)) ?_)
                                              refine tl_step rfl (oj_storeG (i := 7) Rf.nil (⟨cutA (l.getD q Rf.nil).A1 1 (l.getD q Rf.nil).c1 1, (l.getD q Rf.nil).c1 - 1, (l.getD q Rf.nil).bs.drop 1, (l.getD q Rf.nil).pb, (l.getD q Rf.nil).pe⟩ : Rf) hcR Try.sizeOf79 (fe_t rfl) (fe_t rfl) rfl rfl rfl (by (try rw [List.length_set]); omega) rfl (by simp [cR]) (?_))
                                              refine tl_nil ?_
                                              refine tx_then ?_
                                              refine tr_seq ?_
                                              generalize hl1 : l.set q (⟨cutA (l.getD q Rf.nil).A1 1 (l.getD q Rf.nil).c1 1, (l.getD q Rf.nil).c1 - 1, (l.getD q Rf.nil).bs.drop 1, (l.getD q Rf.nil).pb, (l.getD q Rf.nil).pe⟩ : Rf) = l1
                                              have hl1n : l1.length = n := by rw [← hl1, List.length_set]; exact hll
                                              have hl1k : l1.getD q Rf.nil = (⟨cutA (l.getD q Rf.nil).A1 1 (l.getD q Rf.nil).c1 1, (l.getD q Rf.nil).c1 - 1, (l.getD q Rf.nil).bs.drop 1, (l.getD q Rf.nil).pb, (l.getD q Rf.nil).pe⟩ : Rf) := by rw [← hl1, getD_set (by omega), if_pos rfl]
                                              have hrel2 : Rel es1 n l1 (s.fs.set q ⟨(gq s.fs q).bs.drop 1, (gq s.fs q).bg, (gq s.fs q).en⟩) := by rw [← hl1]; exact hrel1.set hll hfl hqn ⟨by rw [hRq.bs], (hrel1 q hqn).bg, (hrel1 q hqn).en⟩
                                              have hg1 : gq (s.fs.set q ⟨(gq s.fs q).bs.drop 1, (gq s.fs q).bg, (gq s.fs q).en⟩) q = ⟨(gq s.fs q).bs.drop 1, (gq s.fs q).bg, (gq s.fs q).en⟩ := by rw [gq_set (by omega), if_pos rfl]
                                              have hfl1 : (s.fs.set q ⟨(gq s.fs q).bs.drop 1, (gq s.fs q).bg, (gq s.fs q).en⟩).length = n := by rw [List.length_set]; exact hfl
                                              have hbl : (l1.getD q Rf.nil).bs.length = (gq s.fs q).bs.length - 1 := by rw [(hrel2 q hqn).bs, hg1]; simp
                                              have hen1 : HoldR es1 (l1.getD q Rf.nil).pe (gq s.fs q).en := by have h := (hrel2 q hqn).en; rw [hg1] at h; exact h
                                              refine tr_region ?_
                                              refine tl_step rfl (oj_val (y_move (fe_t rfl)) ?_)
                                              refine tl_step rfl (oj_val (y_nilCheckE (fe_t rfl) (rdl_vec 7 rfl) (by rw [flat_len hcR]; omega)) ?_)
                                              refine tl_step rfl (oj_val (y_fieldAddrE (td := 79) Try.underlying182 rfl rfl Try.sizeOf79 rfl (fe_t rfl) (rdl_vec 7 rfl) (by rw [flat_len hcR]; omega)) ?_)
                                              refine tl_step rfl (oj_val (y_ld Try.isAgg79 (fe_t rfl) (rdl_vec 7 rfl) (flatG (d := Rf.nil) (i := 0) hcR (by omega) rfl)) ?_)
                                              refine tl_step rfl (oj_val (y_len Try.underlying79 (fe_t rfl)) ?_)
                                              refine tl_step rfl (oj_val (y_gtr (fe_t rfl) fe_c) ?_)
                                              refine tl_nil ?_
                                              refine tx_then ?_
                                              refine tr_condp (fe_t rfl) (fun hq65 => ?_) (fun hq66 => ?_)
                                              · try (exfalso; omega)
                                                all_goals
                                                  refine tr_region ?_
                                                  refine tl_step rfl (oj_val (y_move (fe_t rfl)) ?_)
                                                  refine tl_step rfl (oj_val (y_move (fe_t rfl)) ?_)
                                                  refine tl_step rfl (oj_val (y_move (fe_t rfl)) ?_)
                                                  refine tl_step rfl (oj_val (y_nilCheckE (fe_t rfl) (rdl_vec 7 rfl) (by rw [flat_len hcR]; omega)) ?_)
                                                  refine tl_step rfl (oj_val (y_fieldAddrE (td := 30) Try.underlying182 rfl rfl Try.sizeOf30 rfl (fe_t rfl) (rdl_vec 7 rfl) (by rw [flat_len hcR]; omega)) ?_)
                                                  refine tl_step rfl (oj_val (y_ld Try.isAgg30 (fe_t rfl) (rdl_vec 7 rfl) (flatG (d := Rf.nil) (i := 2) hcR (by omega) rfl)) ?_)
                                                  refine tl_step rfl (oj_callF Try.call141 (fe_t rfl) (fel_cons (fe_t rfl) (fel_cons (fe_t rfl) fel_nil)) (fun w' hS => firstH (hS.pick [6, 8, 9, 7, 4, 5, 0, 1, 2, 3] [_, _, _, _, _, _, _, _, _, _] rfl (by decide)) hr hn hl1n hfl1 hrel2 hqn hen1 (by have := hokq.2.1; omega) (by rw [hg1]; show 0 < ((gq s.fs q).bs.drop 1).length; rw [List.length_drop]; omega) (by rw [hg1]; exact hokq.2.2 _ (List.mem_of_mem_drop (hd_mem (fun e => by have h := congrArg List.length e; rw [List.length_drop] at h; simp at h; omega)))) (hgw q hqn) hsm) (fun q1 hQ1 => ?_))
                                                  refine tl_nil ?_
                                                  refine tx_in ?_
                                                  refine tx_then ?_
                                                  refine tr_region ?_
                                                  refine tl_step rfl (oj_val (y_move (fe_t rfl)) ?_)
                                                  refine tl_step rfl (oj_val (y_move (fe_t rfl)) ?_)
                                                  refine tl_step rfl (oj_slice1 Try.underlying92 Try.sizeOf24 Try.zeroValue24 (fe_t rfl) (by decide) rfl (fun b16 => ?_))
                                                  refine tl_step rfl (oj_append (i := 10) (s := 1) (z := (.int .i64 0)) (bytes := 8) Try.underlying92 (by kernel_rfl) (fe_t rfl) (fe_t rfl) rfl (rdl_blk 0 rfl) rfl (by decide) (by first | exact oneI | exact oneF (fun _ => rfl) | exact fun u hu => List.all_eq_true.1 (show List.all _ (fun x => x.oneCell') = true from rfl) u hu | (intro u hu; revert u hu; simp [Value.oneCell'])) (by decide) ⟨by omega, by decide⟩ (fun Aa16 ca16 hca16 => ?_))
                                                  refine tl_step rfl (oj_val (y_assign (fe_t rfl)) ?_)
                                                  refine tl_nil ?_
                                                  refine tx_in ?_
                                                  refine tx_then ?_
                                                  refine tr_region ?_
                                                  refine tl_step rfl (oj_val (y_inc (fe_t rfl) fe_c (by omega)) ?_)
                                                  refine tl_step rfl (oj_val (y_move (fe_t rfl)) ?_)
                                                  refine tl_nil ?_
                                                  apply tx_back9 (i + 1) (⟨s.fs.set q (outQ (cost ws q) (gq s.fs q)), (max s.time (gq s.fs z.toNat).bg) + hd (gq s.fs q).bs * 27720, s.errs ++ [0], s.sent ++ [((q : Int), hd (gq s.fs q).bs)]⟩) (q1.1) ((⟨_, _, _, _⟩ : Vs)) ((⟨_, _, _, _⟩ : Vs)) (b_tn) (_) (_) (q1.2.2.2)
                                                  · exact (cov_cons (by first | rfl | exact v_int (by omega) | exact v_int (by dsimp only; omega)) (cov_cons (by first | rfl | exact v_int (by omega) | exact v_int (by dsimp only; omega)) (cov_cons (by first | rfl | exact v_int (by omega) | exact v_int (by dsimp only; omega)) (cov_cons (by first | rfl | exact v_int (by omega) | exact v_int (by dsimp only; omega)) (cov_nil)))))
                                                  · repeat (first | exact over_nil | refine over_put rfl ?_ | refine over_drop rfl ?_)
                                                  · exact fun w h => h.pick [9, 10, 5, 6, 1, 4, 2, 3] _ rfl (by decide)
                                                  · exact ⟨⟨by omega, ⟨s, hrun, .out q (gq s.fs z.toNat).bg (by show o1 os i = 2; omega) hL hM⟩, hQ1.1, by have h := hQ1.2.2; rw [hg1, List.set_set] at h; dsimp only at h; dsimp only; unfold outQ; rw [decide_eq_false (show ¬ (gq s.fs q).bs.length = 1 by omega)]; exact h, by dsimp only; rw [← hhq]; exact hT3.mono hQ1.2.1, ⟨by simp; omega, by dsimp only; rw [hex, cI, cI, List.map_append]; rfl⟩, by simp; omega, by dsimp only; rw [hsx, List.flatMap_append, hhq]; rfl⟩, by omega⟩
                                              · try (exfalso; omega)
                                                all_goals
                                                  refine tr_skip ?_
                                                  refine tx_in ?_
                                                  refine tx_then ?_
                                                  refine tr_region ?_
                                                  refine tl_step rfl (oj_val (y_move (fe_t rfl)) ?_)
                                                  refine tl_step rfl (oj_val (y_move (fe_t rfl)) ?_)
                                                  refine tl_step rfl (oj_slice1 Try.underlying92 Try.sizeOf24 Try.zeroValue24 (fe_t rfl) (by decide) rfl (fun b17 => ?_))
                                                  refine tl_step rfl (oj_append (i := 4) (s := 1) (z := (.int .i64 0)) (bytes := 8) Try.underlying92 (by kernel_rfl) (fe_t rfl) (fe_t rfl) rfl (rdl_blk 0 rfl) rfl (by decide) (by first | exact oneI | exact oneF (fun _ => rfl) | exact fun u hu => List.all_eq_true.1 (show List.all _ (fun x => x.oneCell') = true from rfl) u hu | (intro u hu; revert u hu; simp [Value.oneCell'])) (by decide) ⟨by omega, by decide⟩ (fun Aa17 ca17 hca17 => ?_))
                                                  refine tl_step rfl (oj_val (y_assign (fe_t rfl)) ?_)
                                                  refine tl_nil ?_
                                                  refine tx_in ?_
                                                  refine tx_then ?_
                                                  refine tr_region ?_
                                                  refine tl_step rfl (oj_val (y_inc (fe_t rfl) fe_c (by omega)) ?_)
                                                  refine tl_step rfl (oj_val (y_move (fe_t rfl)) ?_)
                                                  refine tl_nil ?_
                                                  apply tx_back9 (i + 1) (⟨s.fs.set q (outQ (cost ws q) (gq s.fs q)), (max s.time (gq s.fs z.toNat).bg) + hd (gq s.fs q).bs * 27720, s.errs ++ [0], s.sent ++ [((q : Int), hd (gq s.fs q).bs)]⟩) (l1) ((⟨_, _, _, _⟩ : Vs)) ((⟨_, _, _, _⟩ : Vs)) (b_tn) (_) (_) (es1)
                                                  · exact (cov_cons (by first | rfl | exact v_int (by omega) | exact v_int (by dsimp only; omega)) (cov_cons (by first | rfl | exact v_int (by omega) | exact v_int (by dsimp only; omega)) (cov_cons (by first | rfl | exact v_int (by omega) | exact v_int (by dsimp only; omega)) (cov_cons (by first | rfl | exact v_int (by omega) | exact v_int (by dsimp only; omega)) (cov_nil)))))
                                                  · repeat (first | exact over_nil | refine over_put rfl ?_ | refine over_drop rfl ?_)
                                                  · exact fun w h => h.pick [3, 4, 5, 6, 7, 8, 9, 10] _ rfl (by decide)
                                                  · exact ⟨⟨by omega, ⟨s, hrun, .out q (gq s.fs z.toNat).bg (by show o1 os i = 2; omega) hL hM⟩, hl1n, by dsimp only; unfold outQ; rw [decide_eq_true (show (gq s.fs q).bs.length = 1 by omega)]; exact hrel2, by dsimp only; rw [← hhq]; exact hT3, ⟨by simp; omega, by dsimp only; rw [hex, cI, cI, List.map_append]; rfl⟩, by simp; omega, by dsimp only; rw [hsx, List.flatMap_append, hhq]; rfl⟩, by omega⟩
      · try (exfalso; omega)
        all_goals
          refine tr_exit ?_
          refine tx_then_exit ?_
          refine tx_then_exit ?_
          refine tx_in_exit ?_
          refine tx_then ?_
          refine tr_seq ?_
          refine tr_region ?_
          refine tl_step rfl (oj_val (y_assign fe_c) ?_)
          refine tl_nil ?_
          refine tx_then ?_
          refine tr_seq ?_
          refine tr_seq ?_
          refine tr_region ?_
          refine tl_step rfl (oj_val (y_ldb 4 Try.isAgg180 (fe_t rfl) rfl rfl) ?_)
          refine tl_step rfl (oj_val (y_len Try.underlying180 (fe_t rfl)) ?_)
          refine tl_step rfl (oj_val (y_move fe_c) ?_)
          refine tl_nil ?_
          refine tx_then ?_
          refine tr_block ?_
          refine tr_add (r := vec 3 1 (.slice none 0 0) 0 []) vec_nil rfl ?_
          refine tr_loop2 [26, 28, 271, 272, 273, 274, 275, 276, 277, 278, 279, 280, 281] (fun (k : Nat) (z1 : Vs) => [(271, .int .i64 (k : Int)), (26, .slice z1.A z1.n z1.c)]) 0 (fun (k : Nat) (z1 : Vs) => [(0, vec 3 1 (.slice z1.A z1.n z1.c) z1.n z1.xs)]) (fun (k : Nat) (z1 : Vs) => k ≤ n ∧ z1.n = k ∧ z1.xs = cI ((left s).take k)) (fun (k : Nat) (z1 : Vs) => n - k) (0) (⟨none, 0, 0, []⟩ : Vs) (cov_cons (by first | rfl | exact v_int (by omega) | exact v_int (by dsimp only; omega)) (cov_cons (by first | rfl | exact v_int (by omega) | exact v_int (by dsimp only; omega)) (cov_nil))) (fun w h => h) ?_ ?_
          · try dsimp only
            exact ⟨by omega, rfl, rfl⟩
          intro k z1 hp
          obtain ⟨hk, hzn, hzx⟩ := hp
          refine tr_seq ?_
          refine tr_region ?_
          refine tl_step rfl (oj_val (y_lss (fe_t rfl) (fe_t rfl)) ?_)
          refine tl_nil ?_
          refine tx_then ?_
          refine tr_seq ?_
          refine tr_condp (fe_t rfl) (fun hq67 => ?_) (fun hq68 => ?_)
          · try (exfalso; omega)
            all_goals
              refine tr_skip ?_
              refine tx_then ?_
              refine tr_seq ?_
              refine tr_block ?_
              refine tr_seq ?_
              refine tr_region ?_
              refine tl_step rfl (oj_val (y_index Try.underlying180 Try.sizeOf182 (fe_t rfl) (fe_t rfl) (rdl_vec 6 rfl) (by rw [flat_len hcR]; omega) (by decide) (by omega) rfl) ?_)
              refine tl_step rfl (oj_val (y_ldA (cs := cR (l.getD k Rf.nil)) Try.isAgg182 Try.sizeOf182 (fe_t rfl) (rdl_vec 6 rfl) rfl (by decide) (flatGA (d := Rf.nil) hcR (by omega))) ?_)
              refine tl_step rfl (oj_alloc Try.zeroValue182 (fun bz => ?_))
              refine tl_step rfl (oj_storeW 0 Try.sizeOf182 (fe_t rfl) (fe_t rfl) rfl rfl rfl rfl rfl (?_))
              refine tl_nil ?_
              refine tx_then ?_
              refine tr_region ?_
              refine tl_step rfl (oj_val (y_move (fe_t rfl)) ?_)
              refine tl_step rfl (oj_val (y_fieldAddr (td := 79) Try.underlying182 rfl rfl Try.sizeOf79 (o' := 0) rfl (fe_t rfl)) ?_)
              refine tl_step rfl (oj_val (y_ldb 0 Try.isAgg79 (fe_t rfl) rfl rfl) ?_)
              refine tl_step rfl (oj_val (y_len Try.underlying79 (fe_t rfl)) ?_)
              refine tl_step rfl (oj_slice1 Try.underlying79 Try.sizeOf3 Try.zeroValue3 (fe_t rfl) (by decide) rfl (fun b18 => ?_))
              refine tl_step rfl (oj_append (i := 2) (s := 1) (z := (.int .i64 0)) (bytes := 8) Try.underlying79 (by kernel_rfl) (fe_t rfl) (fe_t rfl) rfl (rdl_blk 0 rfl) rfl (by decide) (by first | exact oneI | exact oneF (fun _ => rfl) | exact fun u hu => List.all_eq_true.1 (show List.all _ (fun x => x.oneCell') = true from rfl) u hu | (intro u hu; revert u hu; simp [Value.oneCell'])) (by decide) ⟨by omega, by decide⟩ (fun Aa18 ca18 hca18 => ?_))
              refine tl_step rfl (oj_val (y_assign (fe_t rfl)) ?_)
              refine tl_nil ?_
              refine tx_in ?_
              refine tx_then ?_
              refine tr_region ?_
              refine tl_step rfl (oj_val (y_inc (fe_t rfl) fe_c (by omega)) ?_)
              refine tl_step rfl (oj_val (y_move (fe_t rfl)) ?_)
              refine tl_nil ?_
              apply tx_back2 (k + 1) ((⟨_, _, _, _⟩ : Vs))
              · exact (cov_cons (by first | rfl | exact v_int (by omega) | exact v_int (by dsimp only; omega)) (cov_cons (by first | rfl | exact v_int (by omega) | exact v_int (by dsimp only; omega)) (cov_nil)))
              · repeat (first | exact over_nil | refine over_put rfl ?_ | refine over_drop rfl ?_)
              · exact fun w h => h.pick [2, 3, 4, 5, 6, 7, 8, 9, 10] _ rfl (by decide)
              · refine ⟨⟨by omega, by dsimp only; omega, ?_⟩, by omega⟩
                dsimp only
                rw [hzx, left_take (by rw [hwf.len]; omega), cI, cI, List.map_append, (hrel k (by omega)).bs]
                rfl
          · try (exfalso; omega)
            all_goals
              refine tr_exit ?_
              refine tx_then_exit ?_
              refine tx_then_exit ?_
              refine tx_in_exit ?_
              refine tx_then ?_
              refine tr_seq ?_
              refine tr_region ?_
              refine tl_step rfl (oj_val (y_move (fe_t rfl)) ?_)
              refine tl_step rfl (oj_val (y_move (fe_t rfl)) ?_)
              refine tl_step rfl (oj_val (y_move (fe_t rfl)) ?_)
              refine tl_step rfl (oj_val (y_assign (fe_t rfl)) ?_)
              refine tl_step rfl (oj_val (y_assign (fe_t rfl)) ?_)
              refine tl_step rfl (oj_val (y_assign (fe_t rfl)) ?_)
              refine tl_nil ?_
              refine tx_then ?_
              refine tr_ret ?_
              refine tx_ret (res3 Try.results70 (rok_t rfl) (rok_t rfl) (rok_t rfl)) (fun w' hS => ?_)
              obtain rfl : k = n := by omega
              obtain rfl : i = m := by omega
              exact ⟨(s, e1, s1, z1), ⟨hrun, ⟨hen, hex⟩, ⟨hsn, hsx⟩, hzn, by rw [hzx, List.take_of_length_le (by simp [left, hwf.len])]⟩, rfl, hS.pick [2, 1, 0] _ rfl (by decide)⟩

end Go.Proofs.Ytcpdelkamckmfaa.Wfq
