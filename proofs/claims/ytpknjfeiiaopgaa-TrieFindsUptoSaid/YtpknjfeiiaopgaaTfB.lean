/- Walk: trie.build. -/
import Derived.Test.YtpknjfeiiaopgaaTfV
namespace Go.Proofs.Ytpknjfeiiaopgaa.Trie
open Go.RowKit Go.Proofs.Ytpknjfeiiaopgaa.E

set_option maxRecDepth 100000 in
set_option maxHeartbeats 4000000 in
theorem buildE (A : Option Addr) (n c : Nat) (l : List Pfx) (w : World) (hr : Rd w A (l.flatMap cPx)) (hn : l.length = n) (hm : n ≤ 140737488355328) (hc : n ≤ c) (hok : ∀ p ∈ l, p.x.ok) (hf : Fine l) :
    Calls Try.prog 49 #[.slice A n c] w fun e w' => ∃ q : Nat × List Nd, (Rel q.2 l ∧ kid q.2 0 0 = some q.1) ∧ e = .returned (.pointer (some ⟨q.1, 0, none⟩)) ∧ St w w' [nds q.2] := by
  refine calls_tr Try.func49 Try.ntmps49 rfl rfl (St.refl _) ?_
  refine tr_seq ?_
  refine tr_region ?_
  refine tl_step rfl (oj_val (y_assign fe_c) ?_)
  refine tl_nil ?_
  refine tx_then ?_
  refine tr_seq ?_
  refine tr_region ?_
  refine tl_step rfl (oj_val (y_build (is := []) (vs := []) (cs := [.pointer none, .pointer none, .pointer none]) rfl fel_nil (by kernel_rfl)) ?_)
  refine tl_step rfl (oj_box (fe_t rfl) (fun rb => ?_))
  refine tl_step rfl (oj_val (y_assign (fe_t rfl)) ?_)
  refine tl_nil ?_
  refine tx_then ?_
  refine tr_seq ?_
  refine tr_seq ?_
  refine tr_root 0 rfl ?_
  refine tr_region ?_
  refine tl_step rfl (oj_val (y_move (fe_t rfl)) ?_)
  refine tl_step rfl (oj_val (y_len Try.underlying22 (fe_t rfl)) ?_)
  refine tl_step rfl (oj_val (y_move fe_c) ?_)
  refine tl_nil ?_
  refine tx_then ?_
  refine tr_block ?_
  refine tr_loop2 [5, 6, 7, 8, 9, 14, 15, 16, 17, 18, 19, 20, 21, 22, 23, 24, 25, 26, 27, 28, 29, 30, 31, 32, 33, 34, 35, 36, 37, 38, 39, 40, 41, 42, 43, 44, 45, 46, 47, 48, 49, 50, 51, 52, 53, 54] (fun (i : Nat) (M : List Nd) => [(14, .int .i64 (i : Int))]) 0 (fun (i : Nat) (M : List Nd) => [(0, nds M)]) (fun (i : Nat) (M : List Nd) => i ≤ n ∧ Rel M (l.take i) ∧ kid M 0 0 = some rb) (fun (i : Nat) (M : List Nd) => n - i) (0) ([⟨0, 0, rb, none⟩]) (cov_cons (by first | rfl | exact v_int (by omega) | exact v_ptr h0b | exact v_ptr h0b.symm) (cov_nil)) (fun w h => h) ?_ ?_
  · try dsimp only
    exact ⟨by omega, by rw [List.take_zero]; exact Rel.start, by unfold kid node; rw [List.find?_cons_of_pos (by simp)]; rfl⟩
  intro i M hp
  obtain ⟨hi, hrel, hroot⟩ := hp
  refine tr_seq ?_
  refine tr_region ?_
  refine tl_step rfl (oj_val (y_lss (fe_t rfl) (fe_t rfl)) ?_)
  refine tl_nil ?_
  refine tx_then ?_
  refine tr_seq ?_
  refine tr_condp (fe_t rfl) (fun hq1 => ?_) (fun hq2 => ?_)
  · try (exfalso; omega)
    all_goals
      refine tr_skip ?_
      refine tx_then ?_
      refine tr_seq ?_
      refine tr_block ?_
      refine tr_seq ?_
      refine tr_region ?_
      refine tl_step rfl (oj_val (y_index Try.underlying22 Try.sizeOf26 (fe_t rfl) (fe_t rfl) (rdl_out hr) (by rw [flat_len hcPx]; omega) (by decide) (by omega) rfl) ?_)
      refine tl_step rfl (oj_val (y_ldA (cs := cPx (l.getD i pN)) Try.isAgg26 Try.sizeOf26 (fe_t rfl) (rdl_out hr) rfl (by decide) (flatGA (d := pN) hcPx (by omega))) ?_)
      refine tl_step rfl (oj_alloc Try.zeroValue26 (fun pb => ?_))
      refine tl_step rfl (oj_storeW 0 Try.sizeOf26 (fe_t rfl) (fe_t rfl) rfl rfl rfl rfl rfl (?_))
      refine tl_nil ?_
      refine tx_then ?_
      refine tr_seq ?_
      refine tr_region ?_
      refine tl_step rfl (oj_val (y_move (fe_t rfl)) ?_)
      refine tl_step rfl (oj_val (y_assign (fe_t rfl)) ?_)
      refine tl_nil ?_
      refine tx_then ?_
      refine tr_seq ?_
      refine tr_seq ?_
      obtain ⟨e0, h0m, h0k, h0x, h0b⟩ := kid_some hroot
      have hxk : (l.getD i pN).x.ok := hok _ (by rw [getD_lt (by omega)]; exact List.getElem_mem _)
      have hbt := hf.bits (l.getD i pN) (by rw [getD_lt (by omega)]; exact List.getElem_mem _)
      refine tr_region ?_
      refine tl_step rfl (oj_val (y_fieldAddr (td := 3) Try.underlying26 rfl rfl Try.sizeOf3 (o' := 4) rfl (fe_t rfl)) ?_)
      refine tl_step rfl (oj_val (y_ldb 0 Try.isAgg3 (fe_t rfl) rfl rfl) ?_)
      refine tl_step rfl (oj_val (y_move fe_c) ?_)
      refine tl_nil ?_
      refine tx_then ?_
      refine tr_block ?_
      refine tr_loop3 [6, 7, 8, 21, 22, 23, 24, 25, 26, 27, 28, 29, 30, 31, 32, 33, 34, 35, 36, 37, 38, 39, 40, 41, 42, 43, 44, 45, 46, 47, 48] (fun (d : Nat) (M2 : List Nd) (e : Nd) => [(21, .int .i64 (d : Int)), (6, .pointer (some ⟨e.b, 0, none⟩))]) 0 (fun (d : Nat) (M2 : List Nd) (e : Nd) => [(1, nds M2)]) (fun (d : Nat) (M2 : List Nd) (e : Nd) => d ≤ (l.getD i pN).n.toNat ∧ Mid M2 (l.take i) (l.getD i pN) d ∧ e ∈ M2 ∧ e.k = d ∧ e.x = pre (l.getD i pN).v d ∧ kid M2 0 0 = some rb) (fun (d : Nat) (M2 : List Nd) (e : Nd) => (l.getD i pN).n.toNat - d) (0) (M) (e0) (cov_cons (by first | rfl | exact v_int (by omega) | exact v_ptr h0b | exact v_ptr h0b.symm) (cov_cons (by first | rfl | exact v_int (by omega) | exact v_ptr h0b | exact v_ptr h0b.symm) (cov_nil))) (fun w h => h) ?_ ?_
      · try dsimp only
        have hp0 := pre_zero (Ad.bd hxk).1 (Ad.bd hxk).2
        exact ⟨by omega, Mid.zero hrel hp0, h0m, h0k, h0x.trans hp0.symm, hroot⟩
      intro d M2 e hp
      obtain ⟨hd, hmid, hem, hek, hex, hroot2⟩ := hp
      refine tr_seq ?_
      refine tr_pure (nds_dis (i := 1) rfl) (fun hd2 => ?_)
      refine tr_region ?_
      refine tl_step rfl (oj_val (y_lss (fe_t rfl) (fe_t rfl)) ?_)
      refine tl_nil ?_
      refine tx_then ?_
      refine tr_seq ?_
      refine tr_condp (fe_t rfl) (fun hq3 => ?_) (fun hq4 => ?_)
      · try (exfalso; omega)
        all_goals
          refine tr_skip ?_
          refine tx_then ?_
          refine tr_seq ?_
          refine tr_block ?_
          refine tr_seq ?_
          refine tr_region ?_
          refine tl_step rfl (oj_val (y_move (fe_t rfl)) ?_)
          refine tl_step rfl (oj_val (y_assign (fe_t rfl)) ?_)
          refine tl_nil ?_
          refine tx_then ?_
          refine tr_seq ?_
          refine tr_region ?_
          refine tl_step rfl (oj_val (y_fieldAddr (td := 24) Try.underlying26 rfl rfl Try.sizeOf24 (o' := 0) rfl (fe_t rfl)) ?_)
          refine tl_step rfl (oj_val (y_ldbA 0 Try.isAgg24 Try.sizeOf24 (fe_t rfl) rfl rfl rfl) ?_)
          refine tl_step rfl (oj_val (y_move (fe_t rfl)) ?_)
          refine tl_step rfl (oj_callv Try.call50 fe_f (fel_cons (fe_t rfl) (fel_cons (fe_t rfl) fel_nil)) (fun w' hS => bitE (l.getD i pN).x hxk d (by omega) w') ?_)
          refine tl_step rfl (oj_val (y_assign (fe_t rfl)) ?_)
          refine tl_nil ?_
          refine tx_then ?_
          refine tr_seq ?_
          refine tr_seq ?_
          have hab := abit_bd (l.getD i pN).v d
          have hab2 : abit (l.getD i pN).v d = 0 ∨ abit (l.getD i pN).v d = 1 := by omega
          have hps := pre_succ (l.getD i pN).v d (by omega)
          have hkx : 2 * e.x + abit (l.getD i pN).v d = pre (l.getD i pN).v (d + 1) := by rw [hex, hps]
          have hkid : (ndC M2 e)[(abit (l.getD i pN).v d).toNat]? = some (ptr (kid M2 (d + 1) (pre (l.getD i pN).v (d + 1)))) := by rw [ndC_kid hab2, hek, hkx]
          refine tr_region ?_
          refine tl_step rfl (oj_val (y_move (fe_t rfl)) ?_)
          refine tl_step rfl (oj_val (y_move (fe_t rfl)) ?_)
          refine tl_step rfl (oj_val (y_nilCheck (fe_t rfl)) ?_)
          refine tl_step rfl (oj_val (y_fieldAddr (td := 96) Try.underlying99 rfl rfl Try.sizeOf96 (o' := 0) rfl (fe_t rfl)) ?_)
          refine tl_step rfl (oj_val (y_indexPA (z := abit (l.getD i pN).v d) Try.underlying96 Try.sizeOf94 (fe_t rfl) (fe_t rfl) (by omega) (by omega)) ?_)
          refine tl_step rfl (oj_val (y_ld (v := (ptr (kid M2 (d + 1) (pre (l.getD i pN).v (d + 1))))) Try.isAgg94 (fe_t rfl) (rdl_nd 1 rfl hem) (hkid)) ?_)
          refine tl_step rfl (oj_val (y_eqptr Try.underlying94 (fe_t rfl) fe_c) ?_)
          refine tl_nil ?_
          refine tx_then ?_
          refine tr_cond (fe_t rfl) (fun hq5 => ?_) (fun hq6 => ?_)
          · try (exfalso; omega)
            all_goals
              have hkn : kid M2 (d + 1) (pre (l.getD i pN).v (d + 1)) = none := Option.isNone_iff_eq_none.1 hq5
              have hno := kid_none hkn
              refine tr_region ?_
              refine tl_step rfl (oj_val (y_move (fe_t rfl)) ?_)
              refine tl_step rfl (oj_val (y_move (fe_t rfl)) ?_)
              refine tl_step rfl (oj_val (y_build (is := []) (vs := []) (cs := [.pointer none, .pointer none, .pointer none]) rfl fel_nil (by kernel_rfl)) ?_)
              refine tl_step rfl (oj_box (fe_t rfl) (fun nb => ?_))
              refine tl_step rfl (oj_val (y_nilCheck (fe_t rfl)) ?_)
              refine tl_step rfl (oj_val (y_fieldAddr (td := 96) Try.underlying99 rfl rfl Try.sizeOf96 (o' := 0) rfl (fe_t rfl)) ?_)
              refine tl_step rfl (oj_val (y_indexPA (z := abit (l.getD i pN).v d) Try.underlying96 Try.sizeOf94 (fe_t rfl) (fe_t rfl) (by omega) (by omega)) ?_)
              refine tl_ndOut 2 rfl hem ?_
              refine tl_step rfl (oj_storeQ (q := (abit (l.getD i pN).v d).toNat) 0 Try.sizeOf94 (fe_t rfl) (fe_t rfl) rfl rfl rfl (by rw [show (ndC M2 e).length = 3 from rfl]; omega) (?_))
              refine tl_nil ?_
              refine tx_then ?_
              refine tr_ndIn (x' := 2 * e.x + abit (l.getD i pN).v d) (e := e) 3 1 0 rfl rfl rfl (by decide) (by decide) (by decide) hem (by rw [hek, hkx]; exact hno) (by omega) (ndC_set hab2 hd2 hem (by rw [hek, hkx]; exact hno)) ?_
              have hE : (⟨e.k + 1, 2 * e.x + abit (l.getD i pN).v d, nb, none⟩ : Nd) = (⟨d + 1, pre (l.getD i pN).v (d + 1), nb, none⟩ : Nd) := by rw [hek, hkx]
              refine tr_as (r' := nds ((⟨d + 1, pre (l.getD i pN).v (d + 1), nb, none⟩ : Nd) :: M2)) 3 rfl (by rw [hE]) ?_
              refine tr_pure (nds_dis (i := 3) rfl) (fun hd3 => ?_)
              have hem3 : e ∈ (⟨d + 1, pre (l.getD i pN).v (d + 1), nb, none⟩ : Nd) :: M2 := List.mem_cons_of_mem _ hem
              have h2m : (⟨d + 1, pre (l.getD i pN).v (d + 1), nb, none⟩ : Nd) ∈ (⟨d + 1, pre (l.getD i pN).v (d + 1), nb, none⟩ : Nd) :: M2 := List.mem_cons_self ..
              have hk12 : (ndC ((⟨d + 1, pre (l.getD i pN).v (d + 1), nb, none⟩ : Nd) :: M2) e)[(abit (l.getD i pN).v d).toNat]? = some (.pointer (some ⟨(⟨d + 1, pre (l.getD i pN).v (d + 1), nb, none⟩ : Nd).b, 0, none⟩)) := kid_at hd3 h2m (by rw [hek]) (by rw [hkx]) hab2
              have hmid3 : Mid ((⟨d + 1, pre (l.getD i pN).v (d + 1), nb, none⟩ : Nd) :: M2) (l.take i) (l.getD i pN) (d + 1) := hmid.new hno rfl
              have hr3 : kid ((⟨d + 1, pre (l.getD i pN).v (d + 1), nb, none⟩ : Nd) :: M2) 0 0 = some rb := by rw [kid_cons (by simp)]; exact hroot2
              refine tr_region ?_
              refine tl_step rfl (oj_val (y_move (fe_t rfl)) ?_)
              refine tl_step rfl (oj_val (y_move (fe_t rfl)) ?_)
              refine tl_step rfl (oj_val (y_nilCheck (fe_t rfl)) ?_)
              refine tl_step rfl (oj_val (y_fieldAddr (td := 96) Try.underlying99 rfl rfl Try.sizeOf96 (o' := 0) rfl (fe_t rfl)) ?_)
              refine tl_step rfl (oj_val (y_indexPA (z := abit (l.getD i pN).v d) Try.underlying96 Try.sizeOf94 (fe_t rfl) (fe_t rfl) (by omega) (by omega)) ?_)
              refine tl_step rfl (oj_val (y_ld (v := .pointer (some ⟨(⟨d + 1, pre (l.getD i pN).v (d + 1), nb, none⟩ : Nd).b, 0, none⟩)) Try.isAgg94 (fe_t rfl) (rdl_nd 3 rfl hem3) (hk12)) ?_)
              refine tl_step rfl (oj_val (y_assign (fe_t rfl)) ?_)
              refine tl_nil ?_
              refine tx_in ?_
              refine tx_then ?_
              refine tr_region ?_
              refine tl_step rfl (oj_val (y_inc (fe_t rfl) fe_c (by omega)) ?_)
              refine tl_step rfl (oj_val (y_move (fe_t rfl)) ?_)
              refine tl_nil ?_
              apply tx_back3 (d + 1) (((⟨d + 1, pre (l.getD i pN).v (d + 1), nb, none⟩ : Nd) :: M2)) ((⟨d + 1, pre (l.getD i pN).v (d + 1), nb, none⟩ : Nd))
              · exact (cov_cons (by first | rfl | exact v_int (by omega) | exact v_ptr h0b | exact v_ptr h0b.symm) (cov_cons (by first | rfl | exact v_int (by omega) | exact v_ptr h0b | exact v_ptr h0b.symm) (cov_nil)))
              · repeat (first | exact over_nil | refine over_put rfl ?_ | refine over_drop rfl ?_)
              · exact fun w h => h.pick [2, 3] _ rfl (by decide)
              · exact ⟨⟨by omega, hmid3, h2m, rfl, rfl, hr3⟩, by omega⟩
          · try (exfalso; omega)
            all_goals
              obtain ⟨b2, hb2⟩ : ∃ b2, kid M2 (d + 1) (pre (l.getD i pN).v (d + 1)) = some b2 := by cases hq : kid M2 (d + 1) (pre (l.getD i pN).v (d + 1)) <;> simp_all
              obtain ⟨e2, h2m, h2k, h2x, h2b⟩ := kid_some hb2
              refine tr_skip ?_
              refine tx_then ?_
              have hem3 := hem
              have hk12 : (ndC M2 e)[(abit (l.getD i pN).v d).toNat]? = some (.pointer (some ⟨e2.b, 0, none⟩)) := kid_at hd2 h2m (by rw [hek, h2k]) (by rw [hkx, h2x]) hab2
              have hmid3 : Mid M2 (l.take i) (l.getD i pN) (d + 1) := hmid.old h2m h2k h2x
              have hr3 := hroot2
              refine tr_region ?_
              refine tl_step rfl (oj_val (y_move (fe_t rfl)) ?_)
              refine tl_step rfl (oj_val (y_move (fe_t rfl)) ?_)
              refine tl_step rfl (oj_val (y_nilCheck (fe_t rfl)) ?_)
              refine tl_step rfl (oj_val (y_fieldAddr (td := 96) Try.underlying99 rfl rfl Try.sizeOf96 (o' := 0) rfl (fe_t rfl)) ?_)
              refine tl_step rfl (oj_val (y_indexPA (z := abit (l.getD i pN).v d) Try.underlying96 Try.sizeOf94 (fe_t rfl) (fe_t rfl) (by omega) (by omega)) ?_)
              refine tl_step rfl (oj_val (y_ld (v := .pointer (some ⟨e2.b, 0, none⟩)) Try.isAgg94 (fe_t rfl) (rdl_nd 1 rfl hem3) (hk12)) ?_)
              refine tl_step rfl (oj_val (y_assign (fe_t rfl)) ?_)
              refine tl_nil ?_
              refine tx_in ?_
              refine tx_then ?_
              refine tr_region ?_
              refine tl_step rfl (oj_val (y_inc (fe_t rfl) fe_c (by omega)) ?_)
              refine tl_step rfl (oj_val (y_move (fe_t rfl)) ?_)
              refine tl_nil ?_
              apply tx_back3 (d + 1) (M2) (e2)
              · exact (cov_cons (by first | rfl | exact v_int (by omega) | exact v_ptr h0b | exact v_ptr h0b.symm) (cov_cons (by first | rfl | exact v_int (by omega) | exact v_ptr h0b | exact v_ptr h0b.symm) (cov_nil)))
              · repeat (first | exact over_nil | refine over_put rfl ?_ | refine over_drop rfl ?_)
              · exact fun w h => h.pick [0, 1] _ rfl (by decide)
              · exact ⟨⟨by omega, hmid3, h2m, h2k, h2x, hr3⟩, by omega⟩
      · try (exfalso; omega)
        all_goals
          refine tr_exit ?_
          refine tx_then_exit ?_
          refine tx_then_exit ?_
          refine tx_in_exit ?_
          refine tx_then ?_
          refine tr_seq ?_
          refine tr_region ?_
          refine tl_step rfl (oj_val (y_fieldAddr (td := 3) Try.underlying26 rfl rfl Try.sizeOf3 (o' := 5) rfl (fe_t rfl)) ?_)
          refine tl_step rfl (oj_val (y_ldb 0 Try.isAgg3 (fe_t rfl) rfl rfl) ?_)
          refine tl_step rfl (oj_alloc Try.zeroValue3 (fun tb => ?_))
          refine tl_step rfl (oj_store1 0 Try.sizeOf3 (fe_t rfl) (fe_t rfl) rfl rfl rfl rfl (?_))
          refine tl_nil ?_
          refine tx_then ?_
          refine tr_region ?_
          refine tl_step rfl (oj_val (y_move (fe_t rfl)) ?_)
          refine tl_step rfl (oj_val (y_nilCheck (fe_t rfl)) ?_)
          refine tl_step rfl (oj_val (y_fieldAddr (td := 97) Try.underlying99 rfl rfl Try.sizeOf97 (o' := 2) rfl (fe_t rfl)) ?_)
          refine tl_ndOut 2 rfl hem ?_
          refine tl_step rfl (oj_storeQ (q := 2) 0 Try.sizeOf97 (fe_t rfl) (fe_t rfl) rfl rfl rfl (by rw [show (ndC M2 e).length = 3 from rfl]; decide) (?_))
          refine tl_nil ?_
          refine tx_in ?_
          refine tx_then ?_
          refine tr_ndToIn (e := e) 3 1 0 rfl rfl rfl (by decide) (by decide) (by decide) hem ndC_to ?_
          refine tr_region ?_
          refine tl_step rfl (oj_val (y_inc (fe_t rfl) fe_c (by omega)) ?_)
          refine tl_step rfl (oj_val (y_move (fe_t rfl)) ?_)
          refine tl_nil ?_
          apply tx_back2 (i + 1) (setTo M2 e.b tb (l.getD i pN).to)
          · exact (cov_cons (by first | rfl | exact v_int (by omega) | exact v_ptr h0b | exact v_ptr h0b.symm) (cov_nil))
          · repeat (first | exact over_nil | refine over_put rfl ?_ | refine over_drop rfl ?_)
          · exact fun w h => h.pick [3] _ rfl (by decide)
          · refine ⟨⟨by omega, ?_, by rw [node_set]; exact hroot2⟩, by omega⟩
            have hli : (l.getD i pN) = l[i]'(by omega) := getD_lt (by omega)
            have h9 := hmid.done (t := tb) hd2 hem hek hex (by omega) (by rw [hli]; have := hf.one (i := i) (by omega); rw [← hli] at this ⊢; rw [show d = (l.getD i pN).n.toNat by omega]; exact this)
            rw [List.take_succ_eq_append_getElem (by omega), ← hli]
            exact h9
  · try (exfalso; omega)
    all_goals
      refine tr_exit ?_
      refine tx_then_exit ?_
      refine tx_then_exit ?_
      refine tx_in_exit ?_
      refine tx_then ?_
      refine tr_seq ?_
      refine tr_region ?_
      refine tl_step rfl (oj_val (y_move (fe_t rfl)) ?_)
      refine tl_step rfl (oj_val (y_assign (fe_t rfl)) ?_)
      refine tl_nil ?_
      refine tx_then ?_
      refine tr_ret ?_
      refine tx_ret (res1 Try.results49 (rok_t rfl)) (fun w' hS => ?_)
      have hre := hrel
      rw [List.take_of_length_le (by omega)] at hre
      exact ⟨(rb, M), ⟨hre, hroot⟩, rfl, hS.pick [0] _ rfl (by decide)⟩

end Go.Proofs.Ytpknjfeiiaopgaa.Trie
