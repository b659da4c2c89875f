/- SRun. -/
import Derived.Test.YtdfjeoifeladfaaEdfA
import Derived.Test.YtdfjeoifeladfaaEM
namespace Go.Proofs.Ytdfjeoifeladfaa.Edf
open Go.RowKit Go.Proofs.Ytdfjeoifeladfaa.E

/-- All jobs, none done. -/
def mk (k : Nat) : List (Int × Value) := (List.range k).map fun (i : Nat) => ((i : Int), .bool true)
theorem mk_keys (k : Nat) : keys (mk k) = (List.range k).map fun (i : Nat) => (i : Int) := by simp [mk, keys]
theorem mk_mem (k : Nat) (i : Nat) : (i : Int) ∈ keys (mk k) ↔ i < k := by
  rw [mk_keys]
  simp only [List.mem_map, List.mem_range]
  exact ⟨fun ⟨a, h1, h2⟩ => by omega, fun h => ⟨i, h, rfl⟩⟩
theorem mk_put (k : Nat) : mput (mk k) (k : Int) (.bool true) = mk (k + 1) := by
  rw [mput_new (by rw [mk_mem]; omega)]
  simp [mk, List.range_succ]
theorem mk_nodup (k : Nat) : (keys (mk k)).Nodup := by
  rw [mk_keys]
  exact List.Pairwise.map _ (fun a b (h : a ≠ b) => by omega) List.nodup_range
theorem mk_nat {k : Nat} {z : Int} (h : z ∈ keys (mk k)) : 0 ≤ z := by
  rw [mk_keys] at h
  obtain ⟨i, _, rfl⟩ := List.mem_map.1 h
  omega
theorem fill_step {n k : Nat} {vx : List Value} (h : k < n) (hv : vx = cI (List.replicate k (-1) ++ List.replicate (n - k) 0)) : vx.set k (.int .i64 (-1)) = cI (List.replicate (k + 1) (-1) ++ List.replicate (n - (k + 1)) 0) := by
  subst hv
  obtain ⟨d, rfl⟩ : ∃ d, n = k + 1 + d := ⟨n - (k + 1), by omega⟩
  rw [show k + 1 + d - k = d + 1 by omega, show k + 1 + d - (k + 1) = d by omega]
  rw [cI, cI, ← List.map_set (f := Value.int .i64)]
  congr 1
  rw [List.set_append_right _ _ (by simp), List.length_replicate, Nat.sub_self, List.replicate_succ, List.set_cons_zero, List.replicate_succ' (n := k), List.append_assoc]
  rfl
theorem left_next {m : List (Int × Value)} {left : List Int} {q : Nat} (hk : (q : Int) ∈ keys m) (j : Nat) : ((j : Int) ∈ keys m ∧ (j : Int) ∉ left.filter (· != (q : Int))) ↔ ((j : Int) ∈ keys m ∧ (j : Int) ∉ left) ∨ j = q := by
  simp only [List.mem_filter, bne_iff_ne, ne_eq, not_and, Decidable.not_not]
  constructor
  · rintro ⟨h1, h2⟩
    by_cases h : (j : Int) ∈ left
    · exact .inr (by have := h2 h; omega)
    · exact .inl ⟨h1, h⟩
  · rintro (⟨h1, h2⟩ | rfl)
    · exact ⟨h1, fun h => absurd h h2⟩
    · exact ⟨hk, fun _ => rfl⟩
theorem left_less {left : List Int} {q : Int} (h : q ∈ left) : (left.filter (· != q)).length < left.length := by
  have := List.length_filter_lt_length_iff_exists (l := left) (p := (· != q))
  rw [this]
  exact ⟨q, h, by simp⟩

theorem keys_done {n : Nat} {m : List (Int × Value)} {ds : List Int} {b t : Int} (hmn : (keys m).Nodup) (hdl : ds.length = n) (h0 : 0 ≤ t ∧ 0 ≤ b) (hmi : ∀ i : Nat, (i : Int) ∈ keys m ↔ i < n ∧ dv ds i < 0) (hb : b.toNat < n) : ∀ i : Nat, (i : Int) ∈ keys (mdel m b) ↔ i < n ∧ dv (ds.set b.toNat t) i < 0 := fun i => by
  have h1 := mdel_get hmn b (i : Int)
  have h2 : (i : Int) ∈ keys (mdel m b) ↔ mget (mdel m b) i ≠ none := by rw [ne_eq, mget_none, Decidable.not_not]
  have h3 : (i : Int) ∈ keys m ↔ mget m i ≠ none := by rw [ne_eq, mget_none, Decidable.not_not]
  rw [h2, h1, dv_set (by omega)]
  by_cases e : (i : Int) = b
  · have e2 : i = b.toNat := by omega
    rw [if_pos e, if_pos e2]
    simp
    omega
  · have e2 : ¬ i = b.toNat := by omega
    rw [if_neg e, if_neg e2, ← h3, hmi]
set_option maxRecDepth 100000 in
set_option maxHeartbeats 4000000 in
theorem srun_ok (A : Option Addr) (n c : Nat) (l : List J) (w : World) (hr : Rd w A (l.flatMap cj)) (hn : l.length = n) (hm : n ≤ 140737488355328) (hl : n ≤ 400) :
    Calls Try.prog 54 #[.slice A n c] w fun e w' => ∃ q : Nat × List Int, Run l n 1000 q.2 ∧ e = .returned (.slice (some ⟨q.1, 0, none⟩) n n) ∧ St w w' [vec 3 1 (.slice (some ⟨q.1, 0, none⟩) n n) n (cI q.2)] := by
  refine calls_tr Try.func54 Try.ntmps54 rfl rfl (St.refl _) ?_
  refine tr_seq ?_
  refine tr_region ?_
  refine tl_step rfl (oj_val (y_assign fe_c) ?_)
  refine tl_nil ?_
  refine tx_then ?_
  refine tr_seq ?_
  refine tr_region ?_
  refine tl_step rfl (oj_val (y_move (fe_t rfl)) ?_)
  refine tl_step rfl (oj_val (y_len Try.underlying90 (fe_t rfl)) ?_)
  refine tl_step rfl (oj_make (z := (.int .i64 0)) (bytes := 8) Try.underlying31 (by kernel_rfl) (fe_t rfl) (fe_t rfl) rfl ⟨by omega, by decide⟩ (fun g => ?_))
  refine tl_step rfl (oj_val (y_assign (fe_t rfl)) ?_)
  refine tl_nil ?_
  refine tx_then ?_
  refine tr_seq ?_
  refine tr_region ?_
  refine tl_step rfl (oj_makeMap (fun b_mp => ?_))
  refine tl_step rfl (oj_val (y_assign (fe_t rfl)) ?_)
  refine tl_nil ?_
  refine tx_then ?_
  refine tr_seq ?_
  refine tr_seq ?_
  refine tr_region ?_
  refine tl_step rfl (oj_val (y_move (fe_t rfl)) ?_)
  refine tl_step rfl (oj_val (y_len Try.underlying90 (fe_t rfl)) ?_)
  refine tl_step rfl (oj_val (y_move fe_c) ?_)
  refine tl_nil ?_
  refine tx_then ?_
  refine tr_block ?_
  refine tr_loop3 [5, 16, 17, 18, 19, 20, 21, 22, 23, 24] (fun (k : Nat) (vx : List Value) (m : List (Int × Value)) => [(16, .int .i64 (k : Int))]) 0 (fun (k : Nat) (vx : List Value) (m : List (Int × Value)) => [(1, vec 3 1 (.slice (some ⟨g, 0, none⟩) n n) n vx), (0, mpR b_mp m [])]) (fun (k : Nat) (vx : List Value) (m : List (Int × Value)) => k ≤ n ∧ vx = cI (List.replicate k (-1) ++ List.replicate (n - k) 0) ∧ m = mk k) (fun (k : Nat) (vx : List Value) (m : List (Int × Value)) => n - k) (0) (List.replicate n (.int .i64 0)) ([]) (cov_cons (by first | rfl | exact v_int (by omega) | exact v_bool (by simp [*])) (cov_nil)) (fun w h => h) ?_ ?_
  · try dsimp only
    exact ⟨by omega, by simp [cI], rfl⟩
  intro k vx m hp
  obtain ⟨hk, hvx, hmk⟩ := hp
  have hvl : vx.length = n := by rw [hvx]; simp [cI]; omega
  refine tr_seq ?_
  refine tr_region ?_
  refine tl_step rfl (oj_val (y_lss (fe_t rfl) (fe_t rfl)) ?_)
  refine tl_nil ?_
  refine tx_then ?_
  refine tr_seq ?_
  refine tr_condp (fe_t rfl) (fun hq1 => ?_) (fun hq2 => ?_)
  · try (exfalso; omega)
    all_goals
      refine tr_skip ?_
      refine tx_then ?_
      refine tr_seq ?_
      refine tr_block ?_
      refine tr_seq ?_
      refine tr_region ?_
      refine tl_step rfl (oj_val (y_move (fe_t rfl)) ?_)
      refine tl_step rfl (oj_val (y_assign (fe_t rfl)) ?_)
      refine tl_nil ?_
      refine tx_then ?_
      refine tr_seq ?_
      refine tr_region ?_
      refine tl_step rfl (oj_val (y_move (fe_t rfl)) ?_)
      refine tl_step rfl (oj_val (y_move (fe_t rfl)) ?_)
      refine tl_step rfl (oj_val (y_index Try.underlying31 Try.sizeOf3 (fe_t rfl) (fe_t rfl) (rdl_vec 1 rfl) (by omega) (by decide) (by omega) (Nat.mul_one _)) ?_)
      refine tl_step rfl (oj_storeE1 (i := 1) Try.sizeOf3 (fe_t rfl) fe_c rfl rfl rfl (by omega) (?_))
      refine tl_nil ?_
      refine tx_then ?_
      refine tr_region ?_
      refine tl_step rfl (oj_val (y_move (fe_t rfl)) ?_)
      refine tl_step rfl (oj_val (y_move (fe_t rfl)) ?_)
      refine tl_step rfl (oj_mapPut 0 Try.underlying164 Try.underlying3 (fe_t rfl) (fe_t rfl) fe_c rfl (.inl rfl) (?_))
      refine tl_nil ?_
      refine tx_in ?_
      refine tx_then ?_
      refine tr_region ?_
      refine tl_step rfl (oj_val (y_inc (fe_t rfl) fe_c (by omega)) ?_)
      refine tl_step rfl (oj_val (y_move (fe_t rfl)) ?_)
      refine tl_nil ?_
      apply tx_back3 (k + 1) (_) (_)
      · exact (cov_cons (by first | rfl | exact v_int (by omega) | exact v_bool (by simp [*])) (cov_nil))
      · repeat (first | exact over_nil | refine over_put rfl ?_ | refine over_drop rfl ?_)
      · exact fun w h => h.pick [0, 1] _ rfl (by decide)
      · exact ⟨⟨by omega, fill_step (by omega) hvx, by rw [hmk, mk_put]⟩, by omega⟩
  · try (exfalso; omega)
    all_goals
      refine tr_exit ?_
      refine tx_then_exit ?_
      refine tx_then_exit ?_
      refine tx_in_exit ?_
      refine tx_then ?_
      refine tr_seq ?_
      refine tr_seq ?_
      refine tr_region ?_
      refine tl_step rfl (oj_val (y_assign fe_c) ?_)
      refine tl_nil ?_
      refine tx_then ?_
      refine tr_block ?_
      refine tr_loop4 [6, 7, 8, 9, 25, 26, 27, 28, 29, 30, 31, 32, 33, 34, 35, 36, 37, 38, 39, 40, 41, 42, 43, 44, 45, 46, 47, 48, 49, 50, 51, 52, 53, 54, 55, 56, 57, 58, 59, 60, 61, 62, 63, 64, 65, 66, 67, 68, 69, 70, 71, 72, 73, 74, 75, 76, 77, 78, 79, 80, 81, 82, 83, 84, 85, 86, 87, 88, 89] (fun (t : Nat) (ds : List Int) (vx : List Value) (m : List (Int × Value)) => [(6, .int .i64 (t : Int))]) 0 (fun (t : Nat) (ds : List Int) (vx : List Value) (m : List (Int × Value)) => [(1, vec 3 1 (.slice (some ⟨g, 0, none⟩) n n) n vx), (0, mpR b_mp m [])]) (fun (t : Nat) (ds : List Int) (vx : List Value) (m : List (Int × Value)) => t ≤ 1000 ∧ Run l n t ds ∧ vx = cI ds ∧ (keys m).Nodup ∧ (∀ i : Nat, (i : Int) ∈ keys m ↔ i < n ∧ dv ds i < 0) ∧ ∀ z ∈ keys m, 0 ≤ z) (fun (t : Nat) (ds : List Int) (vx : List Value) (m : List (Int × Value)) => 1000 - t) (0) (List.replicate n (-1)) (_) (_) (cov_cons (by first | rfl | exact v_int (by omega) | exact v_bool (by simp [*])) (cov_nil)) (fun w h => h) ?_ ?_
      · try dsimp only
        obtain rfl : n = k := by omega
        subst hmk
        exact ⟨by omega, rfl, by rw [hvx]; simp, mk_nodup n, fun i => by rw [mk_mem]; exact ⟨fun h => ⟨h, by rw [dv_at (by simpa using h)]; simp⟩, fun h => h.1⟩, fun z hz => mk_nat hz⟩
      intro t ds vx m hp
      obtain ⟨ht, hrun, hvx, hmn, hmi, hmz⟩ := hp
      have hdl := run_len hrun
      have hvl : vx.length = n := by rw [hvx]; simpa [cI] using hdl
      refine tr_seq ?_
      refine tr_seq ?_
      refine tr_region ?_
      refine tl_step rfl (oj_val (y_move (fe_t rfl)) ?_)
      refine tl_step rfl (oj_val (y_lss (fe_t rfl) fe_c) ?_)
      refine tl_step rfl (oj_val (y_move (fe_t rfl)) ?_)
      refine tl_splitp (d := 27) rfl (fun hq3 => ?_) (fun hq4 => ?_)
      · try (exfalso; omega)
        all_goals
          refine tl_want rfl rfl rfl (oj_val (y_move (fe_t rfl)) ?_)
          refine tl_want rfl rfl rfl (oj_val (y_mlen 0 Try.underlying164 (fe_t rfl) rfl) ?_)
          refine tl_want rfl rfl rfl (oj_val (y_gtr (fe_t rfl) fe_c) ?_)
          refine tl_step rfl (oj_val (y_pickt (fe_t rfl) (fe_t rfl)) ?_)
          refine tl_nil ?_
          refine tx_then ?_
          refine tr_condp (fe_t rfl) (fun hq5 => ?_) (fun hq6 => ?_)
          · try (exfalso; omega)
            all_goals
              refine tr_skip ?_
              refine tx_then ?_
              refine tr_seq ?_
              refine tr_block ?_
              refine tr_seq ?_
              refine tr_region ?_
              refine tl_step rfl (oj_val (y_assign fe_c) ?_)
              refine tl_nil ?_
              refine tx_then ?_
              refine tr_seq ?_
              refine tr_seq ?_
              refine tr_region ?_
              refine tl_step rfl (oj_val (y_move (fe_t rfl)) ?_)
              refine tl_step rfl (oj_range 0 Try.underlying164 (fe_t rfl) rfl (fun it1 => ?_))
              refine tl_nil ?_
              refine tx_then ?_
              refine tr_block ?_
              refine tr_loop3 [7, 8, 9, 36, 37, 38, 39, 40, 41, 42, 43, 44, 45, 46, 47, 48, 49, 50, 51, 52, 53, 54, 55, 56, 57, 58, 59, 60, 61, 62, 63, 64, 65, 66, 67, 68, 69, 70, 71, 72, 73, 74, 75, 76, 77, 78, 79, 80, 81] (fun (left : List Int) (la : Option Int) (b : Int) => [(7, .int .i64 b)]) 0 (fun (left : List Int) (la : Option Int) (b : Int) => [(0, mpR b_mp m [⟨it1, left, la⟩])]) (fun (left : List Int) (la : Option Int) (b : Int) => Best l ds t (fun j => (j : Int) ∈ keys m ∧ (j : Int) ∉ left) b) (fun (left : List Int) (la : Option Int) (b : Int) => left.length) (keys m) (none) (-1) (cov_cons (by first | rfl | exact v_int (by omega) | exact v_bool (by simp [*])) (cov_nil)) (fun w h => h) ?_ ?_
              · try dsimp only
                exact best_none.congr (fun j _ => ⟨fun h => h.elim, fun h => absurd h.1 h.2⟩)
              intro left la b hp
              have hb := hp
              have hbc := hb.cases
              refine tr_seq ?_
              refine tr_region ?_
              refine tl_step rfl (oj_next 0 (fe_t rfl) rfl rfl (fun hleft1 => ?_) (fun kk1 vv1 hkl1 hkg1 => ?_))
              · refine tl_step rfl (oj_val (y_extract (fe_t rfl) rfl) ?_)
                refine tl_nil ?_
                refine tx_then ?_
                refine tr_seq ?_
                refine tr_condf (fe_t rfl) ?_
                refine tr_exit ?_
                refine tx_then_exit ?_
                refine tx_then_exit ?_
                refine tx_in_exit ?_
                refine tx_then ?_
                refine tr_seq ?_
                subst hleft1
                have hb2 : Best l ds t (· < n) b := hb.congr (fun j hj => ⟨fun h => ((hmi j).1 h.1).1, fun h => ⟨(hmi j).2 ⟨h, hj.1⟩, by simp⟩⟩)
                have hb0 := best_lt hb2
                refine tr_forget 0 [] rfl (List.nil_sublist _) ?_
                refine tr_region ?_
                refine tl_step rfl (oj_val (y_move (fe_t rfl)) ?_)
                refine tl_step rfl (oj_val (y_geq (fe_t rfl) fe_c) ?_)
                refine tl_nil ?_
                refine tx_then ?_
                refine tr_condp (fe_t rfl) (fun hq7 => ?_) (fun hq8 => ?_)
                · try (exfalso; omega)
                  all_goals
                    refine tr_seq ?_
                    refine tr_region ?_
                    refine tl_step rfl (oj_val (y_move (fe_t rfl)) ?_)
                    refine tl_step rfl (oj_val (y_move (fe_t rfl)) ?_)
                    refine tl_step rfl (oj_val (y_move (fe_t rfl)) ?_)
                    refine tl_step rfl (oj_val (y_indexI Try.underlying31 Try.sizeOf3 (fe_t rfl) (fe_t rfl) (rdl_vec 1 rfl) (by omega) (by decide) (by omega) (by omega) (Nat.mul_one _)) ?_)
                    refine tl_step rfl (oj_storeE1 (i := 1) Try.sizeOf3 (fe_t rfl) (fe_t rfl) rfl rfl rfl (by omega) (?_))
                    refine tl_nil ?_
                    refine tx_then ?_
                    refine tr_region ?_
                    refine tl_step rfl (oj_val (y_move (fe_t rfl)) ?_)
                    refine tl_step rfl (oj_val (y_move (fe_t rfl)) ?_)
                    refine tl_step rfl (oj_mapDel 0 Try.underlying164 Try.underlying3 (fe_t rfl) (fe_t rfl) rfl (?_))
                    refine tl_nil ?_
                    refine tx_in ?_
                    refine tx_then ?_
                    refine tr_region ?_
                    refine tl_step rfl (oj_val (y_move (fe_t rfl)) ?_)
                    refine tl_step rfl (oj_val (y_inc (fe_t rfl) fe_c (by omega)) ?_)
                    refine tl_step rfl (oj_val (y_assign (fe_t rfl)) ?_)
                    refine tl_nil ?_
                    apply tx_back4 (t + 1) (ds.set b.toNat (t : Int)) (_) (_)
                    · exact (cov_cons (by first | rfl | exact v_int (by omega) | exact v_bool (by simp [*])) (cov_nil))
                    · repeat (first | exact over_nil | refine over_put rfl ?_ | refine over_drop rfl ?_)
                    · exact fun w h => h.pick [0, 1] _ rfl (by decide)
                    · first
                        | exact ⟨⟨by omega, run_set hrun hb2 (by omega), by rw [hvx, cI, cI, List.map_set], mdel_nodup hmn, keys_done hmn hdl (by omega) hmi (best_lt hb2 (by omega)), fun z hz => hmz z (((mdel_sub m b).map _).subset hz)⟩, by omega⟩
                        | exact ⟨⟨by omega, run_neg hrun hb2 (by omega), hvx, hmn, hmi, hmz⟩, by omega⟩
                · try (exfalso; omega)
                  all_goals
                    refine tr_skip ?_
                    refine tx_in ?_
                    refine tx_then ?_
                    refine tr_region ?_
                    refine tl_step rfl (oj_val (y_move (fe_t rfl)) ?_)
                    refine tl_step rfl (oj_val (y_inc (fe_t rfl) fe_c (by omega)) ?_)
                    refine tl_step rfl (oj_val (y_assign (fe_t rfl)) ?_)
                    refine tl_nil ?_
                    apply tx_back4 (t + 1) (ds) (_) (_)
                    · exact (cov_cons (by first | rfl | exact v_int (by omega) | exact v_bool (by simp [*])) (cov_nil))
                    · repeat (first | exact over_nil | refine over_put rfl ?_ | refine over_drop rfl ?_)
                    · exact fun w h => h.pick [0, 1] _ rfl (by decide)
                    · first
                        | exact ⟨⟨by omega, run_set hrun hb2 (by omega), by rw [hvx, cI, cI, List.map_set], mdel_nodup hmn, keys_done hmn hdl (by omega) hmi (best_lt hb2 (by omega)), fun z hz => hmz z (((mdel_sub m b).map _).subset hz)⟩, by omega⟩
                        | exact ⟨⟨by omega, run_neg hrun hb2 (by omega), hvx, hmn, hmi, hmz⟩, by omega⟩
              · refine tl_step rfl (oj_val (y_extract (fe_t rfl) rfl) ?_)
                refine tl_nil ?_
                refine tx_then ?_
                refine tr_seq ?_
                refine tr_condt (fe_t rfl) ?_
                refine tr_skip ?_
                refine tx_then ?_
                refine tr_block ?_
                refine tr_seq ?_
                refine tr_region ?_
                refine tl_step rfl (oj_val (y_entry 0 (fe_t rfl) rfl hkg1) ?_)
                refine tl_step rfl (oj_val (y_extract (fe_t rfl) rfl) ?_)
                refine tl_step rfl (oj_val (y_assign (fe_t rfl)) ?_)
                refine tl_nil ?_
                refine tx_then ?_
                refine tr_seq ?_
                obtain ⟨q, rfl⟩ : ∃ q : Nat, kk1 = q := ⟨kk1.toNat, by have := hmz _ (mget_key hkg1); omega⟩
                have hqm := mget_key hkg1
                have hqn := (hmi q).1 hqm
                have hbn : 0 ≤ b → b.toNat < n := fun h => by
                  rcases hbc with ⟨h1, _⟩ | ⟨_, h1, _⟩
                  · omega
                  · exact ((hmi _).1 h1.1).1
                refine tr_region ?_
                refine tl_step rfl (oj_val (y_move (fe_t rfl)) ?_)
                refine tl_step rfl (oj_val (y_move (fe_t rfl)) ?_)
                refine tl_step rfl (oj_val (y_index Try.underlying90 Try.sizeOf94 (fe_t rfl) (fe_t rfl) (rdl_out hr) (lenJ hn) (by decide) (by omega) rfl) ?_)
                refine tl_step rfl (oj_val (y_ldA (cs := [(.int .i64 (jf l q)), (.int .i64 (jb l q))]) Try.isAgg94 Try.sizeOf94 (fe_t rfl) (rdl_out hr) rfl (by decide) (getJ (by omega))) ?_)
                refine tl_step rfl (oj_alloc Try.zeroValue94 (fun b1 => ?_))
                refine tl_step rfl (oj_storeW 0 Try.sizeOf94 (fe_t rfl) (fe_t rfl) rfl rfl rfl rfl rfl (?_))
                refine tl_nil ?_
                refine tx_then ?_
                refine tr_seq ?_
                refine tr_seq ?_
                refine tr_region ?_
                refine tl_step rfl (oj_val (y_fieldAddr (td := 3) Try.underlying94 rfl rfl Try.sizeOf3 (o' := 0) rfl (fe_t rfl)) ?_)
                refine tl_step rfl (oj_val (y_ldb 0 Try.isAgg3 (fe_t rfl) rfl rfl) ?_)
                refine tl_step rfl (oj_val (y_move (fe_t rfl)) ?_)
                refine tl_step rfl (oj_val (y_gtr (fe_t rfl) (fe_t rfl)) ?_)
                refine tl_step rfl (oj_val (y_move (fe_t rfl)) ?_)
                refine tl_splitp (d := 48) rfl (fun hq9 => ?_) (fun hq10 => ?_)
                · try (exfalso; omega)
                  all_goals
                    refine tl_skip rfl rfl rfl rfl ?_
                    refine tl_skip rfl rfl rfl rfl ?_
                    refine tl_skip rfl rfl rfl rfl ?_
                    refine tl_skip rfl rfl rfl rfl ?_
                    refine tl_step rfl (oj_val (y_pickt (fe_t rfl) fe_c) ?_)
                    refine tl_nil ?_
                    refine tx_then ?_
                    refine tr_condt (fe_t rfl) ?_
                    refine tr_exit ?_
                    refine tx_then_exit ?_
                    refine tx_in_exit ?_
                    apply tx_back3 (left.filter (· != (q : Int))) (some (q : Int)) (b)
                    · exact (cov_cons (by first | rfl | exact v_int (by omega) | exact v_bool (by simp [*])) (cov_nil))
                    · repeat (first | exact over_nil | refine over_put rfl ?_ | refine over_drop rfl ?_)
                    · exact fun w h => h.pick [1, 2] _ rfl (by decide)
                    · have hlt := left_less hkl1
                      first
                        | exact ⟨hb.take (left_next hqm) ⟨by omega, by omega, by omega⟩ (by omega), hlt⟩
                        | exact ⟨hb.skip (left_next hqm) (fun he => by have h1 := he.1; have h2 := he.2; omega), hlt⟩
                        | exact ⟨hb.keep (left_next hqm) (by omega) (by omega), hlt⟩
                · try (exfalso; omega)
                  all_goals
                    refine tl_want rfl rfl rfl (oj_val (y_fieldAddr (td := 3) Try.underlying94 rfl rfl Try.sizeOf3 (o' := 1) rfl (fe_t rfl)) ?_)
                    refine tl_want rfl rfl rfl (oj_val (y_ldb 0 Try.isAgg3 (fe_t rfl) rfl rfl) ?_)
                    refine tl_want rfl rfl rfl (oj_val (y_move (fe_t rfl)) ?_)
                    refine tl_want rfl rfl rfl (oj_val (y_leq (fe_t rfl) (fe_t rfl)) ?_)
                    refine tl_step rfl (oj_val (y_pickf (fe_t rfl) (fe_t rfl)) ?_)
                    refine tl_nil ?_
                    refine tx_then ?_
                    refine tr_condp (fe_t rfl) (fun hq11 => ?_) (fun hq12 => ?_)
                    · try (exfalso; omega)
                      all_goals
                        refine tr_exit ?_
                        refine tx_then_exit ?_
                        refine tx_in_exit ?_
                        apply tx_back3 (left.filter (· != (q : Int))) (some (q : Int)) (b)
                        · exact (cov_cons (by first | rfl | exact v_int (by omega) | exact v_bool (by simp [*])) (cov_nil))
                        · repeat (first | exact over_nil | refine over_put rfl ?_ | refine over_drop rfl ?_)
                        · exact fun w h => h.pick [1, 2] _ rfl (by decide)
                        · have hlt := left_less hkl1
                          first
                            | exact ⟨hb.take (left_next hqm) ⟨by omega, by omega, by omega⟩ (by omega), hlt⟩
                            | exact ⟨hb.skip (left_next hqm) (fun he => by have h1 := he.1; have h2 := he.2; omega), hlt⟩
                            | exact ⟨hb.keep (left_next hqm) (by omega) (by omega), hlt⟩
                    · try (exfalso; omega)
                      all_goals
                        refine tr_skip ?_
                        refine tx_then ?_
                        refine tr_seq ?_
                        refine tr_draw (sel _ [0, 1, 2]) (fun w h => h.sel _ rfl (by decide)) rfl ?_
                        refine ta_float (i := 0) rfl (by kernel_rfl) (wants_none rfl) (yq_of (y_move (fe_t rfl))) ?_
                        refine ta_float (i := 1) rfl (by kernel_rfl) (wants_none rfl) (yq_of (y_lss (fe_t rfl) fe_c)) ?_
                        refine ta_float (i := 2) rfl (by kernel_rfl) (wants_none rfl) (yq_of (y_move (fe_t rfl))) ?_
                        refine ta_splitp (d := 56) rfl (fun hq13 => ?_) (fun hq14 => ?_)
                        · try (exfalso; omega)
                          all_goals
                            refine ta_skip (i := 3) rfl (by kernel_rfl) (wants_f rfl rfl rfl rfl) ?_
                            refine ta_skip (i := 4) rfl (by kernel_rfl) (wants_f rfl rfl rfl rfl) ?_
                            refine ta_skip (i := 5) rfl (by kernel_rfl) (wants_f rfl rfl rfl rfl) ?_
                            refine ta_skip (i := 6) rfl (by kernel_rfl) (wants_f rfl rfl rfl rfl) ?_
                            refine ta_skip (i := 7) rfl (by kernel_rfl) (wants_f rfl rfl rfl rfl) ?_
                            refine ta_skip (i := 8) rfl (by kernel_rfl) (wants_f rfl rfl rfl rfl) ?_
                            refine ta_skip (i := 9) rfl (by kernel_rfl) (wants_f rfl rfl rfl rfl) ?_
                            refine ta_skip (i := 10) rfl (by kernel_rfl) (wants_f rfl rfl rfl rfl) ?_
                            refine ta_float (i := 11) rfl (by kernel_rfl) (wants_none rfl) (yq_of (y_pickt (fe_t rfl) fe_c)) ?_
                            refine ta_float (i := 12) rfl (by kernel_rfl) (wants_none rfl) (yq_of (y_move (fe_t rfl))) ?_
                            refine ta_skip (i := 13) rfl (by kernel_rfl) (wants_f rfl rfl rfl rfl) ?_
                            refine ta_skip (i := 14) rfl (by kernel_rfl) (wants_f rfl rfl rfl rfl) ?_
                            refine ta_skip (i := 15) rfl (by kernel_rfl) (wants_f rfl rfl rfl rfl) ?_
                            refine ta_skip (i := 16) rfl (by kernel_rfl) (wants_f rfl rfl rfl rfl) ?_
                            refine ta_skip (i := 17) rfl (by kernel_rfl) (wants_f rfl rfl rfl rfl) ?_
                            refine ta_skip (i := 18) rfl (by kernel_rfl) (wants_f rfl rfl rfl rfl) ?_
                            refine ta_skip (i := 19) rfl (by kernel_rfl) (wants_f rfl rfl rfl rfl) ?_
                            refine ta_skip (i := 20) rfl (by kernel_rfl) (wants_f rfl rfl rfl rfl) ?_
                            refine ta_skip (i := 21) rfl (by kernel_rfl) (wants_f rfl rfl rfl rfl) ?_
                            refine ta_skip (i := 22) rfl (by kernel_rfl) (wants_undef rfl rfl rfl) ?_
                            refine ta_skip (i := 23) rfl (by kernel_rfl) (wants_undef rfl rfl rfl) ?_
                            refine ta_skip (i := 24) rfl (by kernel_rfl) (wants_undef rfl rfl rfl) ?_
                            refine ta_skip (i := 25) rfl (by kernel_rfl) (wants_f rfl rfl rfl rfl) ?_
                            refine ta_float (i := 26) rfl (by kernel_rfl) (wants_none rfl) (yq_of (y_pickt (fe_t rfl) fe_c)) ?_
                            refine ta_done (by kernel_rfl) ?_
                            refine tx_then ?_
                            refine tr_condt (fe_t rfl) ?_
                            refine tr_region ?_
                            refine tl_step rfl (oj_val (y_move (fe_t rfl)) ?_)
                            refine tl_step rfl (oj_val (y_assign (fe_t rfl)) ?_)
                            refine tl_nil ?_
                            refine tx_in ?_
                            apply tx_back3 (left.filter (· != (q : Int))) (some (q : Int)) ((q : Int))
                            · exact (cov_cons (by first | rfl | exact v_int (by omega) | exact v_bool (by simp [*])) (cov_nil))
                            · repeat (first | exact over_nil | refine over_put rfl ?_ | refine over_drop rfl ?_)
                            · exact fun w h => h.pick [1, 2] _ rfl (by decide)
                            · have hlt := left_less hkl1
                              first
                                | exact ⟨hb.take (left_next hqm) ⟨by omega, by omega, by omega⟩ (by omega), hlt⟩
                                | exact ⟨hb.skip (left_next hqm) (fun he => by have h1 := he.1; have h2 := he.2; omega), hlt⟩
                                | exact ⟨hb.keep (left_next hqm) (by omega) (by omega), hlt⟩
                        · try (exfalso; omega)
                          all_goals
                            refine ta_float (i := 3) rfl (by kernel_rfl) (wants_t rfl rfl rfl) (yq_of (y_fieldAddr (td := 3) Try.underlying94 rfl rfl Try.sizeOf3 (o' := 1) rfl (fe_t rfl))) ?_
                            refine ta_float (i := 4) rfl (by kernel_rfl) (wants_t rfl rfl rfl) (yq_of (y_ldb 0 Try.isAgg3 (fe_t rfl) rfl rfl)) ?_
                            refine ta_float (i := 5) rfl (by kernel_rfl) (wants_t rfl rfl rfl) (yq_of (y_move (fe_t rfl))) ?_
                            refine ta_float (i := 6) rfl (by kernel_rfl) (wants_t rfl rfl rfl) (yq_of (y_move (fe_t rfl))) ?_
                            refine ta_float (i := 7) rfl (by kernel_rfl) (wants_t rfl rfl rfl) (yq_of (y_indexI Try.underlying90 Try.sizeOf94 (fe_t rfl) (fe_t rfl) (rdl_out hr) (lenJ hn) (by decide) (by omega) (by omega) rfl)) ?_
                            refine ta_float (i := 8) rfl (by kernel_rfl) (wants_t rfl rfl rfl) (yq_of (y_fieldAddrE (td := 3) Try.underlying94 rfl rfl Try.sizeOf3 rfl (fe_t rfl) (rdl_out hr) (by rw [lenJ hn]; omega))) ?_
                            refine ta_float (i := 9) rfl (by kernel_rfl) (wants_t rfl rfl rfl) (yq_of (y_ld (v := (.int .i64 (jb l b.toNat))) Try.isAgg3 (fe_t rfl) (rdl_out hr) (getJb (by omega)))) ?_
                            refine ta_float (i := 10) rfl (by kernel_rfl) (wants_t rfl rfl rfl) (yq_of (y_lss (fe_t rfl) (fe_t rfl))) ?_
                            refine ta_float (i := 11) rfl (by kernel_rfl) (wants_none rfl) (yq_of (y_pickf (fe_t rfl) (fe_t rfl))) ?_
                            refine ta_float (i := 12) rfl (by kernel_rfl) (wants_none rfl) (yq_of (y_move (fe_t rfl))) ?_
                            refine ta_splitp (d := 66) rfl (fun hq15 => ?_) (fun hq16 => ?_)
                            · try (exfalso; omega)
                              all_goals
                                refine ta_skip (i := 13) rfl (by kernel_rfl) (wants_f rfl rfl rfl rfl) ?_
                                refine ta_skip (i := 14) rfl (by kernel_rfl) (wants_f rfl rfl rfl rfl) ?_
                                refine ta_skip (i := 15) rfl (by kernel_rfl) (wants_f rfl rfl rfl rfl) ?_
                                refine ta_skip (i := 16) rfl (by kernel_rfl) (wants_f rfl rfl rfl rfl) ?_
                                refine ta_skip (i := 17) rfl (by kernel_rfl) (wants_f rfl rfl rfl rfl) ?_
                                refine ta_skip (i := 18) rfl (by kernel_rfl) (wants_f rfl rfl rfl rfl) ?_
                                refine ta_skip (i := 19) rfl (by kernel_rfl) (wants_f rfl rfl rfl rfl) ?_
                                refine ta_skip (i := 20) rfl (by kernel_rfl) (wants_f rfl rfl rfl rfl) ?_
                                refine ta_skip (i := 21) rfl (by kernel_rfl) (wants_f rfl rfl rfl rfl) ?_
                                refine ta_skip (i := 22) rfl (by kernel_rfl) (wants_undef rfl rfl rfl) ?_
                                refine ta_skip (i := 23) rfl (by kernel_rfl) (wants_undef rfl rfl rfl) ?_
                                refine ta_skip (i := 24) rfl (by kernel_rfl) (wants_undef rfl rfl rfl) ?_
                                refine ta_skip (i := 25) rfl (by kernel_rfl) (wants_f rfl rfl rfl rfl) ?_
                                refine ta_float (i := 26) rfl (by kernel_rfl) (wants_none rfl) (yq_of (y_pickt (fe_t rfl) fe_c)) ?_
                                refine ta_done (by kernel_rfl) ?_
                                refine tx_then ?_
                                refine tr_condt (fe_t rfl) ?_
                                refine tr_region ?_
                                refine tl_step rfl (oj_val (y_move (fe_t rfl)) ?_)
                                refine tl_step rfl (oj_val (y_assign (fe_t rfl)) ?_)
                                refine tl_nil ?_
                                refine tx_in ?_
                                apply tx_back3 (left.filter (· != (q : Int))) (some (q : Int)) ((q : Int))
                                · exact (cov_cons (by first | rfl | exact v_int (by omega) | exact v_bool (by simp [*])) (cov_nil))
                                · repeat (first | exact over_nil | refine over_put rfl ?_ | refine over_drop rfl ?_)
                                · exact fun w h => h.pick [1, 2] _ rfl (by decide)
                                · have hlt := left_less hkl1
                                  first
                                    | exact ⟨hb.take (left_next hqm) ⟨by omega, by omega, by omega⟩ (by omega), hlt⟩
                                    | exact ⟨hb.skip (left_next hqm) (fun he => by have h1 := he.1; have h2 := he.2; omega), hlt⟩
                                    | exact ⟨hb.keep (left_next hqm) (by omega) (by omega), hlt⟩
                            · try (exfalso; omega)
                              all_goals
                                refine ta_float (i := 13) rfl (by kernel_rfl) (wants_t rfl rfl rfl) (yq_of (y_fieldAddr (td := 3) Try.underlying94 rfl rfl Try.sizeOf3 (o' := 1) rfl (fe_t rfl))) ?_
                                refine ta_float (i := 14) rfl (by kernel_rfl) (wants_t rfl rfl rfl) (yq_of (y_ldb 0 Try.isAgg3 (fe_t rfl) rfl rfl)) ?_
                                refine ta_float (i := 15) rfl (by kernel_rfl) (wants_t rfl rfl rfl) (yq_of (y_move (fe_t rfl))) ?_
                                refine ta_float (i := 16) rfl (by kernel_rfl) (wants_t rfl rfl rfl) (yq_of (y_move (fe_t rfl))) ?_
                                refine ta_float (i := 17) rfl (by kernel_rfl) (wants_t rfl rfl rfl) (yq_of (y_indexI Try.underlying90 Try.sizeOf94 (fe_t rfl) (fe_t rfl) (rdl_out hr) (lenJ hn) (by decide) (by omega) (by omega) rfl)) ?_
                                refine ta_float (i := 18) rfl (by kernel_rfl) (wants_t rfl rfl rfl) (yq_of (y_fieldAddrE (td := 3) Try.underlying94 rfl rfl Try.sizeOf3 rfl (fe_t rfl) (rdl_out hr) (by rw [lenJ hn]; omega))) ?_
                                refine ta_float (i := 19) rfl (by kernel_rfl) (wants_t rfl rfl rfl) (yq_of (y_ld (v := (.int .i64 (jb l b.toNat))) Try.isAgg3 (fe_t rfl) (rdl_out hr) (getJb (by omega)))) ?_
                                refine ta_float (i := 20) rfl (by kernel_rfl) (wants_t rfl rfl rfl) (yq_of (y_eq (fe_t rfl) (fe_t rfl))) ?_
                                refine ta_float (i := 21) rfl (by kernel_rfl) (wants_t rfl rfl rfl) (yq_of (y_move (fe_t rfl))) ?_
                                refine ta_splitp (d := 75) rfl (fun hq17 => ?_) (fun hq18 => ?_)
                                · try (exfalso; omega)
                                  all_goals
                                    refine ta_float (i := 22) rfl (by kernel_rfl) (wants_t rfl rfl rfl) (yq_of (y_move (fe_t rfl))) ?_
                                    refine ta_float (i := 23) rfl (by kernel_rfl) (wants_t rfl rfl rfl) (yq_of (y_move (fe_t rfl))) ?_
                                    refine ta_float (i := 24) rfl (by kernel_rfl) (wants_t rfl rfl rfl) (yq_of (y_lss (fe_t rfl) (fe_t rfl))) ?_
                                    refine ta_float (i := 25) rfl (by kernel_rfl) (wants_t rfl rfl rfl) (yq_of (y_pickt (fe_t rfl) (fe_t rfl))) ?_
                                    refine ta_float (i := 26) rfl (by kernel_rfl) (wants_none rfl) (yq_of (y_pickf (fe_t rfl) (fe_t rfl))) ?_
                                    refine ta_done (by kernel_rfl) ?_
                                    refine tx_then ?_
                                    refine tr_condp (fe_t rfl) (fun hq19 => ?_) (fun hq20 => ?_)
                                    · try (exfalso; omega)
                                      all_goals
                                        refine tr_region ?_
                                        refine tl_step rfl (oj_val (y_move (fe_t rfl)) ?_)
                                        refine tl_step rfl (oj_val (y_assign (fe_t rfl)) ?_)
                                        refine tl_nil ?_
                                        refine tx_in ?_
                                        apply tx_back3 (left.filter (· != (q : Int))) (some (q : Int)) ((q : Int))
                                        · exact (cov_cons (by first | rfl | exact v_int (by omega) | exact v_bool (by simp [*])) (cov_nil))
                                        · repeat (first | exact over_nil | refine over_put rfl ?_ | refine over_drop rfl ?_)
                                        · exact fun w h => h.pick [1, 2] _ rfl (by decide)
                                        · have hlt := left_less hkl1
                                          first
                                            | exact ⟨hb.take (left_next hqm) ⟨by omega, by omega, by omega⟩ (by omega), hlt⟩
                                            | exact ⟨hb.skip (left_next hqm) (fun he => by have h1 := he.1; have h2 := he.2; omega), hlt⟩
                                            | exact ⟨hb.keep (left_next hqm) (by omega) (by omega), hlt⟩
                                    · try (exfalso; omega)
                                      all_goals
                                        refine tr_skip ?_
                                        refine tx_in ?_
                                        apply tx_back3 (left.filter (· != (q : Int))) (some (q : Int)) (b)
                                        · exact (cov_cons (by first | rfl | exact v_int (by omega) | exact v_bool (by simp [*])) (cov_nil))
                                        · repeat (first | exact over_nil | refine over_put rfl ?_ | refine over_drop rfl ?_)
                                        · exact fun w h => h.pick [1, 2] _ rfl (by decide)
                                        · have hlt := left_less hkl1
                                          first
                                            | exact ⟨hb.take (left_next hqm) ⟨by omega, by omega, by omega⟩ (by omega), hlt⟩
                                            | exact ⟨hb.skip (left_next hqm) (fun he => by have h1 := he.1; have h2 := he.2; omega), hlt⟩
                                            | exact ⟨hb.keep (left_next hqm) (by omega) (by omega), hlt⟩
                                · try (exfalso; omega)
                                  all_goals
                                    refine ta_skip (i := 22) rfl (by kernel_rfl) (wants_f rfl rfl rfl rfl) ?_
                                    refine ta_skip (i := 23) rfl (by kernel_rfl) (wants_f rfl rfl rfl rfl) ?_
                                    refine ta_skip (i := 24) rfl (by kernel_rfl) (wants_f rfl rfl rfl rfl) ?_
                                    refine ta_float (i := 25) rfl (by kernel_rfl) (wants_t rfl rfl rfl) (yq_of (y_pickf (fe_t rfl) fe_c)) ?_
                                    refine ta_float (i := 26) rfl (by kernel_rfl) (wants_none rfl) (yq_of (y_pickf (fe_t rfl) (fe_t rfl))) ?_
                                    refine ta_done (by kernel_rfl) ?_
                                    refine tx_then ?_
                                    refine tr_condf (fe_t rfl) ?_
                                    refine tr_skip ?_
                                    refine tx_in ?_
                                    apply tx_back3 (left.filter (· != (q : Int))) (some (q : Int)) (b)
                                    · exact (cov_cons (by first | rfl | exact v_int (by omega) | exact v_bool (by simp [*])) (cov_nil))
                                    · repeat (first | exact over_nil | refine over_put rfl ?_ | refine over_drop rfl ?_)
                                    · exact fun w h => h.pick [1, 2] _ rfl (by decide)
                                    · have hlt := left_less hkl1
                                      first
                                        | exact ⟨hb.take (left_next hqm) ⟨by omega, by omega, by omega⟩ (by omega), hlt⟩
                                        | exact ⟨hb.skip (left_next hqm) (fun he => by have h1 := he.1; have h2 := he.2; omega), hlt⟩
                                        | exact ⟨hb.keep (left_next hqm) (by omega) (by omega), hlt⟩
          · try (exfalso; omega)
            all_goals
              refine tr_exit ?_
              refine tx_then_exit ?_
              refine tx_then_exit ?_
              refine tx_in_exit ?_
              refine tx_then ?_
              refine tr_seq ?_
              refine tr_region ?_
              refine tl_step rfl (oj_val (y_move (fe_t rfl)) ?_)
              refine tl_step rfl (oj_val (y_assign (fe_t rfl)) ?_)
              refine tl_nil ?_
              refine tx_then ?_
              refine tr_ret ?_
              refine tx_ret (res1 Try.results54 (rok_t rfl)) (fun w' hS => ?_)
              have hfin : Run l n 1000 ds := by
                by_cases h : t = 1000
                · rw [← h]; exact hrun
                · have h0 : ∀ j, j < n → 0 ≤ dv ds j := fun j hj => by
                    rcases Int.lt_or_le (dv ds j) 0 with h1 | h1
                    · have h2 := (hmi j).2 ⟨hj, h1⟩
                      have h3 : m = [] := List.eq_nil_of_length_eq_zero (by omega)
                      rw [h3] at h2
                      cases h2
                    · exact h1
                  have := run_stay hrun h0 (1000 - t)
                  rwa [show t + (1000 - t) = 1000 by omega] at this
              exact ⟨(g, ds), hfin, rfl, by rw [← hvx]; exact hS.pick [1] _ rfl (by decide)⟩
      · try (exfalso; omega)
        all_goals
          refine tl_skip rfl rfl rfl rfl ?_
          refine tl_skip rfl rfl rfl rfl ?_
          refine tl_skip rfl rfl rfl rfl ?_
          refine tl_step rfl (oj_val (y_pickf (fe_t rfl) fe_c) ?_)
          refine tl_nil ?_
          refine tx_then ?_
          refine tr_condf (fe_t rfl) ?_
          refine tr_exit ?_
          refine tx_then_exit ?_
          refine tx_then_exit ?_
          refine tx_in_exit ?_
          refine tx_then ?_
          refine tr_seq ?_
          refine tr_region ?_
          refine tl_step rfl (oj_val (y_move (fe_t rfl)) ?_)
          refine tl_step rfl (oj_val (y_assign (fe_t rfl)) ?_)
          refine tl_nil ?_
          refine tx_then ?_
          refine tr_ret ?_
          refine tx_ret (res1 Try.results54 (rok_t rfl)) (fun w' hS => ?_)
          have hfin : Run l n 1000 ds := by
            by_cases h : t = 1000
            · rw [← h]; exact hrun
            · have h0 : ∀ j, j < n → 0 ≤ dv ds j := fun j hj => by
                rcases Int.lt_or_le (dv ds j) 0 with h1 | h1
                · have h2 := (hmi j).2 ⟨hj, h1⟩
                  have h3 : m = [] := List.eq_nil_of_length_eq_zero (by omega)
                  rw [h3] at h2
                  cases h2
                · exact h1
              have := run_stay hrun h0 (1000 - t)
              rwa [show t + (1000 - t) = 1000 by omega] at this
          exact ⟨(g, ds), hfin, rfl, by rw [← hvx]; exact hS.pick [1] _ rfl (by decide)⟩

end Go.Proofs.Ytdfjeoifeladfaa.Edf
