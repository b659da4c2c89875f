/- the reference's WTable, WSort. -/
import Derived.Test.YtpknjfeiiaopgaaHvN
import Derived.Test.YtpknjfeiiaopgaaHvA
namespace Go.Proofs.Ytpknjfeiiaopgaa.Heavy
open Go.RowKit Go.Proofs.Ytpknjfeiiaopgaa.E

theorem y_asv {P : Program} {N : Nat} {w0 : World} {F : Frm} {L : List Res} {o : Oper} {v v' : Value} (h : Yld P N w0 F L o v) (e : v = v') : Yld P N w0 F L o v' := e ▸ h
theorem left_less {left : List Int} {q : Int} (h : q ∈ left) : (left.filter (· != q)).length < left.length := by
  have := List.length_filter_lt_length_iff_exists (l := left) (p := (· != q))
  rw [this]
  exact ⟨q, h, by simp⟩
theorem mem_left {left : List Int} {q j : Int} : j ∉ left.filter (· != q) ↔ j ∉ left ∨ j = q := by
  rw [List.mem_filter]
  by_cases e : j = q
  · subst e; simp
  · simp [e]
theorem id_one {l : List (Int × Int)} (hn : (l.map (·.1)).Nodup) {a b : Int × Int} (ha : a ∈ l) (hb : b ∈ l) (e : a.1 = b.1) : a = b := by
  obtain ⟨i, hi, h1, h2⟩ := k_of_mem ha
  obtain ⟨j, hj, h3, h4⟩ := k_of_mem hb
  obtain rfl := dst_of hn i j hi hj (by omega)
  exact Prod.ext (by omega) (by omega)
theorem next_in {l o : List (Int × Int)} {left : List Int} {ce : Int × Int} (hn : (l.map (·.1)).Nodup) (hce : ce ∈ l) (h0 : 0 < ce.2) (h : ∀ c, c ∈ o ↔ c ∈ l ∧ 0 < c.2 ∧ c.1 ∉ left) (c : Int × Int) : c ∈ o ++ [ce] ↔ c ∈ l ∧ 0 < c.2 ∧ c.1 ∉ left.filter (· != ce.1) := by
  rw [mem_left, List.mem_append, List.mem_singleton, h c]
  constructor
  · rintro (⟨h1, h2, h3⟩ | rfl)
    · exact ⟨h1, h2, .inl h3⟩
    · exact ⟨hce, h0, .inr rfl⟩
  · rintro ⟨h1, h2, h3 | h3⟩
    · exact .inl ⟨h1, h2, h3⟩
    · exact .inr (id_one hn h1 hce h3)
theorem next_out {l o : List (Int × Int)} {left : List Int} {ce : Int × Int} (hn : (l.map (·.1)).Nodup) (hce : ce ∈ l) (h0 : ¬ 0 < ce.2) (h : ∀ c, c ∈ o ↔ c ∈ l ∧ 0 < c.2 ∧ c.1 ∉ left) (c : Int × Int) : c ∈ o ↔ c ∈ l ∧ 0 < c.2 ∧ c.1 ∉ left.filter (· != ce.1) := by
  rw [mem_left, h c]
  constructor
  · exact fun ⟨h1, h2, h3⟩ => ⟨h1, h2, .inl h3⟩
  · rintro ⟨h1, h2, h3 | h3⟩
    · exact ⟨h1, h2, h3⟩
    · obtain rfl := id_one hn h1 hce h3
      exact absurd h2 h0

set_option maxRecDepth 100000 in
set_option maxHeartbeats 2000000 in
theorem wtableE (A : Option Addr) (n c : Nat) (l : List (Int × Int)) (w : World) (hr : Rd w A (l.flatMap c2)) (hn : l.length = n) (hm : n ≤ 140737488355328) (hup : Up l) (hk2 : ∀ i, k2 l i ≤ 1099511627776) (hk1 : ∀ i, 0 ≤ k2 l i) :
    Calls Try.prog 92 #[.slice A n c] w fun e w' => ∃ q : Nat, True ∧ e = .returned (.map (some q)) ∧ St w w' [mpR q (tb l) []] := by
  refine calls_tr Try.func92 Try.ntmps92 rfl rfl (St.refl _) ?_
  refine tr_seq ?_
  refine tr_region ?_
  refine tl_step rfl (oj_val (y_assign fe_c) ?_)
  refine tl_nil ?_
  refine tx_then ?_
  refine tr_seq ?_
  refine tr_region ?_
  refine tl_step rfl (oj_makeMap (fun b_mp => ?_))
  refine tl_step rfl (oj_val (y_assign (fe_t rfl)) ?_)
  refine tl_nil ?_
  refine tx_then ?_
  refine tr_seq ?_
  refine tr_seq ?_
  refine tr_region ?_
  refine tl_step rfl (oj_val (y_move (fe_t rfl)) ?_)
  refine tl_step rfl (oj_val (y_len Try.underlying87 (fe_t rfl)) ?_)
  refine tl_step rfl (oj_val (y_move fe_c) ?_)
  refine tl_nil ?_
  refine tx_then ?_
  refine tr_block ?_
  refine tr_loop1 [5, 9, 10, 11, 12, 13, 14, 15, 16, 17, 18, 19, 20] (fun (i : Nat) => [(9, .int .i64 (i : Int))]) 0 (fun (i : Nat) => [(0, mpR b_mp (tb (l.take i)) [])]) (fun (i : Nat) => i ≤ n) (fun (i : Nat) => n - i) (0) (cov_cons (by first | rfl | exact v_int (by omega) | exact v_bool (by simp [*])) (cov_nil)) (fun w h => h) ?_ ?_
  · try dsimp only
    exact Nat.zero_le _
  intro i hp
  have hi := hp
  refine tr_seq ?_
  refine tr_region ?_
  refine tl_step rfl (oj_val (y_lss (fe_t rfl) (fe_t rfl)) ?_)
  refine tl_nil ?_
  refine tx_then ?_
  refine tr_seq ?_
  refine tr_condp (fe_t rfl) (fun hq1 => ?_) (fun hq2 => ?_)
  · try (exfalso; omega)
    all_goals
      refine tr_skip ?_
      refine tx_then ?_
      refine tr_seq ?_
      refine tr_block ?_
      refine tr_seq ?_
      refine tr_region ?_
      refine tl_step rfl (oj_val (y_index Try.underlying87 Try.sizeOf92 (fe_t rfl) (fe_t rfl) (rdl_out hr) (lenK hn) (by decide) (by omega) rfl) ?_)
      refine tl_step rfl (oj_val (y_ldA (cs := [(.int .i64 (k1 l i)), (.int .i64 (k2 l i))]) Try.isAgg92 Try.sizeOf92 (fe_t rfl) (rdl_out hr) rfl (by decide) (getK (by omega))) ?_)
      refine tl_step rfl (oj_alloc Try.zeroValue92 (fun bc => ?_))
      refine tl_step rfl (oj_storeW 0 Try.sizeOf92 (fe_t rfl) (fe_t rfl) rfl rfl rfl rfl rfl (?_))
      refine tl_nil ?_
      refine tx_then ?_
      have hlk : (mget (tb (l.take i)) (k1 l i)).getD (.int .i64 0) = .int .i64 0 := by rw [tb_none (take_key hup (by omega))]; rfl
      have hkb := hk2 i
      have hkb2 := hk1 i
      refine tr_region ?_
      refine tl_step rfl (oj_val (y_move (fe_t rfl)) ?_)
      refine tl_step rfl (oj_val (y_fieldAddr (td := 3) Try.underlying92 rfl rfl Try.sizeOf3 (o' := 0) rfl (fe_t rfl)) ?_)
      refine tl_step rfl (oj_val (y_ldb 0 Try.isAgg3 (fe_t rfl) rfl rfl) ?_)
      refine tl_step rfl (oj_val (y_asv (y_lookup 1 Try.underlying113 Try.underlying3 Try.zeroValue3 (fe_t rfl) (fe_t rfl) rfl) hlk) ?_)
      refine tl_step rfl (oj_val (y_fieldAddr (td := 3) Try.underlying92 rfl rfl Try.sizeOf3 (o' := 1) rfl (fe_t rfl)) ?_)
      refine tl_step rfl (oj_val (y_ldb 0 Try.isAgg3 (fe_t rfl) rfl rfl) ?_)
      refine tl_step rfl (oj_val (y_add (fe_t rfl) (fe_t rfl) (by omega)) ?_)
      refine tl_step rfl (oj_mapPut 1 Try.underlying113 Try.underlying3 (fe_t rfl) (fe_t rfl) (fe_t rfl) rfl (.inl rfl) (?_))
      refine tl_nil ?_
      refine tx_in ?_
      refine tx_then ?_
      refine tr_as (r' := mpR b_mp (tb (l.take (i + 1))) []) 1 rfl (congrArg (fun m => mpR b_mp m []) (by rw [Int.zero_add, tb_put_new (take_key hup (by omega)), take_succ_k (by omega)])) ?_
      refine tr_region ?_
      refine tl_step rfl (oj_val (y_inc (fe_t rfl) fe_c (by omega)) ?_)
      refine tl_step rfl (oj_val (y_move (fe_t rfl)) ?_)
      refine tl_nil ?_
      apply tx_back1 (i + 1)
      · exact (cov_cons (by first | rfl | exact v_int (by omega) | exact v_bool (by simp [*])) (cov_nil))
      · repeat (first | exact over_nil | refine over_put rfl ?_ | refine over_drop rfl ?_)
      · exact fun w h => h.pick [1] _ rfl (by decide)
      · exact ⟨by omega, by omega⟩
  · try (exfalso; omega)
    all_goals
      refine tr_exit ?_
      refine tx_then_exit ?_
      refine tx_then_exit ?_
      refine tx_in_exit ?_
      refine tx_then ?_
      refine tr_seq ?_
      refine tr_as (r' := mpR b_mp (tb l) []) 0 rfl (congrArg (fun m => mpR b_mp m []) (by rw [List.take_of_length_le (by omega)])) ?_
      refine tr_region ?_
      refine tl_step rfl (oj_val (y_move (fe_t rfl)) ?_)
      refine tl_step rfl (oj_val (y_assign (fe_t rfl)) ?_)
      refine tl_nil ?_
      refine tx_then ?_
      refine tr_ret ?_
      refine tx_ret (res1 Try.results92 (rok_t rfl)) (fun w' hS => ?_)
      exact ⟨b_mp, trivial, rfl, hS.pick [0] _ rfl (by decide)⟩

set_option maxRecDepth 100000 in
set_option maxHeartbeats 4000000 in
theorem wsortE {w0 w : World} {T : List Res} {b : Nat} {l : List (Int × Int)} (hS : St w0 w (mpR b (tb l) [] :: T)) (hnd : (l.map (·.1)).Nodup) (h4 : l.length ≤ 1000000) :
    Calls Try.prog 93 #[.map (some b)] w fun e w' => ∃ r : Vs × List (Int × Int), (Up r.2 ∧ (∀ c, c ∈ r.2 ↔ c ∈ l ∧ 0 < c.2) ∧ r.1.n = r.2.length ∧ r.1.xs = r.2.flatMap c2) ∧ e = .returned (.slice r.1.A r.1.n r.1.c) ∧ St w0 w' (vec 92 2 (.slice r.1.A r.1.n r.1.c) r.1.n r.1.xs :: T) := by
  refine calls_tr Try.func93 Try.ntmps93 rfl rfl hS ?_
  refine tr_seq ?_
  refine tr_region ?_
  refine tl_step rfl (oj_val (y_assign fe_c) ?_)
  refine tl_nil ?_
  refine tx_then ?_
  refine tr_seq ?_
  refine tr_region ?_
  refine tl_step rfl (oj_val (y_assign fe_c) ?_)
  refine tl_nil ?_
  refine tx_then ?_
  refine tr_seq ?_
  refine tr_seq ?_
  refine tr_region ?_
  refine tl_step rfl (oj_val (y_move (fe_t rfl)) ?_)
  refine tl_step rfl (oj_range 0 Try.underlying113 (fe_t rfl) rfl (fun it => ?_))
  refine tl_nil ?_
  refine tx_then ?_
  refine tr_block ?_
  refine tr_add (r := vec 92 2 (.slice none 0 0) 0 []) vec_nil rfl ?_
  refine tr_loop4 [3, 4, 5, 10, 11, 12, 13, 14, 15, 16, 17, 18, 19, 20, 21, 22] (fun (left : List Int) (la : Option Int) (o : List (Int × Int)) (z1 : Vs) => [(3, .slice z1.A z1.n z1.c)]) 0 (fun (left : List Int) (la : Option Int) (o : List (Int × Int)) (z1 : Vs) => [(1, mpR b (tb l) [⟨it, left, la⟩]), (0, vec 92 2 (.slice z1.A z1.n z1.c) z1.n z1.xs)]) (fun (left : List Int) (la : Option Int) (o : List (Int × Int)) (z1 : Vs) => (z1.n = o.length ∧ z1.xs = o.flatMap c2) ∧ (∀ c, c ∈ o ↔ c ∈ l ∧ 0 < c.2 ∧ c.1 ∉ left) ∧ (o.map (·.1)).Nodup ∧ o.length + left.length ≤ l.length) (fun (left : List Int) (la : Option Int) (o : List (Int × Int)) (z1 : Vs) => left.length) (keys (tb l)) (none) ([]) (⟨none, 0, 0, []⟩ : Vs) (cov_cons (by first | rfl | exact v_int (by omega)) (cov_nil)) (fun w h => h) ?_ ?_
  · try dsimp only
    exact ⟨⟨rfl, rfl⟩, fun c => ⟨fun h => by simp at h, fun h => absurd (by rw [tb_keys]; exact List.mem_map.2 ⟨c, h.1, rfl⟩) h.2.2⟩, by simp, by rw [tb_keys]; simp⟩
  intro left la o z1 hp
  obtain ⟨⟨hzn, hzx⟩, hmem, hno, hcnt⟩ := hp
  refine tr_seq ?_
  refine tr_region ?_
  refine tl_step rfl (oj_next 1 (fe_t rfl) rfl rfl (fun hleft1 => ?_) (fun kk1 vv1 hkl1 hkg1 => ?_))
  · refine tl_step rfl (oj_val (y_extract (fe_t rfl) rfl) ?_)
    refine tl_nil ?_
    refine tx_then ?_
    refine tr_seq ?_
    refine tr_condf (fe_t rfl) ?_
    refine tr_exit ?_
    refine tx_then_exit ?_
    refine tx_then_exit ?_
    refine tx_in_exit ?_
    refine tx_then ?_
    refine tr_seq ?_
    refine tr_seq ?_
    refine tr_as (r' := vec 92 2 (.slice z1.A z1.n z1.c) z1.n (o.flatMap c2)) 0 rfl (congrArg (vec _ _ _ _) hzx) ?_
    have hmo : ∀ c, c ∈ o ↔ c ∈ l ∧ 0 < c.2 := fun c => by rw [hmem c, hleft1]; simp
    refine tr_region ?_
    refine tl_step rfl (oj_val (y_move (fe_t rfl)) ?_)
    refine tl_step rfl (oj_val (y_len Try.underlying87 (fe_t rfl)) ?_)
    refine tl_step rfl (oj_val (y_move fe_c) ?_)
    refine tl_nil ?_
    refine tx_then ?_
    refine tr_block ?_
    refine tr_loop2 [6, 7, 25, 26, 27, 28, 29, 30, 31, 32, 33, 34, 35, 36, 37, 38, 39, 40, 41, 42, 43, 44, 45, 46, 47, 48, 49, 50, 51, 52, 53, 54, 55, 56, 57, 58, 59, 60, 61, 62, 63] (fun (i : Nat) (o2 : List (Int × Int)) => [(25, .int .i64 (i : Int))]) 0 (fun (i : Nat) (o2 : List (Int × Int)) => [(0, vec 92 2 (.slice z1.A z1.n z1.c) z1.n (o2.flatMap c2))]) (fun (i : Nat) (o2 : List (Int × Int)) => i ≤ o.length ∧ o2.length = o.length ∧ (∀ c, c ∈ o2 ↔ c ∈ o) ∧ Dst o2 ∧ Srt o2 i) (fun (i : Nat) (o2 : List (Int × Int)) => o.length - i) (0) (o) (cov_cons (by first | rfl | exact v_int (by omega)) (cov_nil)) (fun w h => h) ?_ ?_
    · try dsimp only
      exact ⟨by omega, rfl, fun c => Iff.rfl, dst_of hno, fun a b _ h => by omega⟩
    intro i o2 hp
    obtain ⟨hi, hl2, hm2, hd2, hs2⟩ := hp
    refine tr_seq ?_
    refine tr_region ?_
    refine tl_step rfl (oj_val (y_lss (fe_t rfl) (fe_t rfl)) ?_)
    refine tl_nil ?_
    refine tx_then ?_
    refine tr_seq ?_
    refine tr_condp (fe_t rfl) (fun hq1 => ?_) (fun hq2 => ?_)
    · try (exfalso; omega)
      all_goals
        refine tr_skip ?_
        refine tx_then ?_
        refine tr_seq ?_
        refine tr_block ?_
        refine tr_seq ?_
        refine tr_region ?_
        refine tl_step rfl (oj_val (y_move (fe_t rfl)) ?_)
        refine tl_step rfl (oj_val (y_assign (fe_t rfl)) ?_)
        refine tl_nil ?_
        refine tx_then ?_
        refine tr_seq ?_
        refine tr_region ?_
        refine tl_step rfl (oj_val (y_move (fe_t rfl)) ?_)
        refine tl_step rfl (oj_val (y_assign (fe_t rfl)) ?_)
        refine tl_nil ?_
        refine tx_then ?_
        refine tr_block ?_
        refine tr_loop2 [7, 29, 30, 31, 32, 33, 34, 35, 36, 37, 38, 39, 40, 41, 42, 43, 44, 45, 46, 47, 48, 49, 50, 51, 52, 53, 54, 55, 56, 57, 58, 59, 60, 61, 62] (fun (j : Nat) (o3 : List (Int × Int)) => [(7, .int .i64 (j : Int))]) 0 (fun (j : Nat) (o3 : List (Int × Int)) => [(0, vec 92 2 (.slice z1.A z1.n z1.c) z1.n (o3.flatMap c2))]) (fun (j : Nat) (o3 : List (Int × Int)) => j ≤ i ∧ o3.length = o.length ∧ (∀ c, c ∈ o3 ↔ c ∈ o) ∧ Dst o3 ∧ Mid o3 i j) (fun (j : Nat) (o3 : List (Int × Int)) => j) (i) (o2) (cov_cons (by first | rfl | exact v_int (by omega)) (cov_nil)) (fun w h => h) ?_ ?_
        · try dsimp only
          exact ⟨by omega, hl2, hm2, hd2, mid_start hs2⟩
        intro j o3 hp
        obtain ⟨hj, hl3, hm3, hd3, hM⟩ := hp
        refine tr_seq ?_
        refine tr_seq ?_
        refine tb_draw 16 (sel _ [0, 1]) (fun w h => h.sel _ rfl (by decide)) rfl ?_
        refine tb_float (i := 0) rfl (by kernel_rfl) rfl (wants_none rfl) (yq_of (y_move (fe_t rfl))) ?_
        refine tb_float (i := 1) rfl (by kernel_rfl) rfl (wants_none rfl) (yq_of (y_gtr (fe_t rfl) fe_c)) ?_
        refine tb_float (i := 2) rfl (by kernel_rfl) rfl (wants_none rfl) (yq_of (y_move (fe_t rfl))) ?_
        refine tb_splitp (d := 31) rfl (fun hq3 => ?_) (fun hq4 => ?_)
        · try (exfalso; omega)
          all_goals
            refine tb_float (i := 3) rfl (by kernel_rfl) rfl (wants_t rfl rfl rfl) (yq_of (y_move (fe_t rfl))) ?_
            refine tb_float (i := 4) rfl (by kernel_rfl) rfl (wants_t rfl rfl rfl) (yq_of (y_move (fe_t rfl))) ?_
            refine tb_float (i := 5) rfl (by kernel_rfl) rfl (wants_t rfl rfl rfl) (yq_of (y_index (j := j) Try.underlying87 Try.sizeOf92 (fe_t rfl) (fe_t rfl) (rdl_vec 0 rfl) (lenK (n := z1.n) (by omega)) (by decide) (by omega) rfl)) ?_
            refine tb_float (i := 6) rfl (by kernel_rfl) rfl (wants_t rfl rfl rfl) (yq_of (y_fieldAddrE (td := 3) Try.underlying92 rfl rfl Try.sizeOf3 rfl (fe_t rfl) (rdl_vec 0 rfl) (by rw [lenK (n := z1.n) (by omega)]; omega))) ?_
            refine tb_float (i := 7) rfl (by kernel_rfl) rfl (wants_t rfl rfl rfl) (yq_of (y_ld Try.isAgg3 (fe_t rfl) (rdl_vec 0 rfl) (getK1 (l := o3) (by omega)))) ?_
            refine tb_float (i := 8) rfl (by kernel_rfl) rfl (wants_t rfl rfl rfl) (yq_of (y_move (fe_t rfl))) ?_
            refine tb_float (i := 9) rfl (by kernel_rfl) rfl (wants_t rfl rfl rfl) (yq_of (y_move (fe_t rfl))) ?_
            refine tb_float (i := 10) rfl (by kernel_rfl) rfl (wants_t rfl rfl rfl) (yq_of (y_sub (fe_t rfl) fe_c (by omega))) ?_
            refine tb_float (i := 11) rfl (by kernel_rfl) rfl (wants_t rfl rfl rfl) (yq_of (y_index (j := j - 1) Try.underlying87 Try.sizeOf92 (fe_t rfl) (fe_i (by omega) rfl) (rdl_vec 0 rfl) (lenK (n := z1.n) (by omega)) (by decide) (by omega) rfl)) ?_
            refine tb_float (i := 12) rfl (by kernel_rfl) rfl (wants_t rfl rfl rfl) (yq_of (y_fieldAddrE (td := 3) Try.underlying92 rfl rfl Try.sizeOf3 rfl (fe_t rfl) (rdl_vec 0 rfl) (by rw [lenK (n := z1.n) (by omega)]; omega))) ?_
            refine tb_float (i := 13) rfl (by kernel_rfl) rfl (wants_t rfl rfl rfl) (yq_of (y_ld Try.isAgg3 (fe_t rfl) (rdl_vec 0 rfl) (getK1 (l := o3) (by omega)))) ?_
            refine tb_float (i := 14) rfl (by kernel_rfl) rfl (wants_t rfl rfl rfl) (yq_of (y_lss (fe_t rfl) (fe_t rfl))) ?_
            refine tb_float (i := 15) rfl (by kernel_rfl) rfl (wants_none rfl) (yq_of (y_pickt (fe_t rfl) (fe_t rfl))) ?_
            refine tb_done (by kernel_rfl) ?_
            refine tx_then ?_
            refine tr_condp (fe_t rfl) (fun hq5 => ?_) (fun hq6 => ?_)
            · try (exfalso; omega)
              all_goals
                refine tr_skip ?_
                refine tx_then ?_
                refine tr_seq ?_
                refine tr_block ?_
                refine tb_draw1 15 [_, _] [_, _] (fun w h => h.pick [0, 1] _ rfl (by decide)) (fun w h => (h.weak (i := 0) rfl).pick [0, 1] _ rfl (by decide)) rfl ?_
                refine tb_float (i := 0) rfl (by kernel_rfl) rfl (wants_none rfl) (yq_of (y_move (fe_t rfl))) ?_
                refine tb_float (i := 1) rfl (by kernel_rfl) rfl (wants_none rfl) (yq_of (y_move (fe_t rfl))) ?_
                refine tb_float (i := 2) rfl (by kernel_rfl) rfl (wants_none rfl) (yq_of (y_move (fe_t rfl))) ?_
                refine tb_float (i := 3) rfl (by kernel_rfl) rfl (wants_none rfl) (yq_of (y_move (fe_t rfl))) ?_
                refine tb_float (i := 4) rfl (by kernel_rfl) rfl (wants_none rfl) (yq_of (y_sub (fe_t rfl) fe_c (by omega))) ?_
                refine tb_float (i := 5) rfl (by kernel_rfl) rfl (wants_none rfl) (yq_of (y_move (fe_t rfl))) ?_
                refine tb_float (i := 6) rfl (by kernel_rfl) rfl (wants_none rfl) (yq_of (y_move (fe_t rfl))) ?_
                refine tb_float (i := 7) rfl (by kernel_rfl) rfl (wants_none rfl) (yq_of (y_sub (fe_t rfl) fe_c (by omega))) ?_
                refine tb_float (i := 8) rfl (by kernel_rfl) rfl (wants_none rfl) (yq_of (y_indexR (j := j - 1) Try.underlying87 Try.sizeOf92 (fe_t rfl) (fe_i (by omega) rfl) (rch_w 0 rfl (by omega)) (by omega) rfl)) ?_
                refine tb_float1 (i := 9) rfl (by kernel_rfl) (by kernel_rfl) rfl (wants_none rfl) (yq_of (y_ldA (cs := [(.int .i64 (k1 o3 (j - 1))), (.int .i64 (k2 o3 (j - 1)))]) Try.isAgg92 Try.sizeOf92 (fe_t rfl) (rdl_vec 0 rfl) rfl (by decide) (getK (by omega)))) ?_
                refine tb_float (i := 10) rfl (by kernel_rfl) rfl (wants_none rfl) (yq_of (y_move (fe_t rfl))) ?_
                refine tb_float (i := 11) rfl (by kernel_rfl) rfl (wants_none rfl) (yq_of (y_move (fe_t rfl))) ?_
                refine tb_float (i := 12) rfl (by kernel_rfl) rfl (wants_none rfl) (yq_of (y_indexR (j := j) Try.underlying87 Try.sizeOf92 (fe_t rfl) (fe_t rfl) (rch_w 0 rfl (by omega)) (by omega) rfl)) ?_
                refine tb_float1 (i := 13) rfl (by kernel_rfl) (by kernel_rfl) rfl (wants_none rfl) (yq_of (y_ldA (cs := [(.int .i64 (k1 o3 (j))), (.int .i64 (k2 o3 (j)))]) Try.isAgg92 Try.sizeOf92 (fe_t rfl) (rdl_vec 0 rfl) rfl (by decide) (getK (by omega)))) ?_
                refine tb_float (i := 14) rfl (by kernel_rfl) rfl (wants_none rfl) (yq_of (y_indexR (j := j) Try.underlying87 Try.sizeOf92 (fe_t rfl) (fe_t rfl) (rch_w 0 rfl (by omega)) (by omega) rfl)) ?_
                refine tb_one2 (i := 15) rfl (by kernel_rfl) (by kernel_rfl) (wants_none rfl) (oj_storeR (c := c2) (k := j) (i := 0) ((k1 o3 (j - 1), k2 o3 (j - 1)) : Int × Int) (fun _ => rfl) Try.sizeOf92 (fe_t rfl) (fe_t rfl) rfl rfl rfl (by omega) (by decide) (⟨fun w h => (h.weak (i := 0) rfl).pick [0, 1] _ rfl (by decide), ?_⟩))
                refine tb_float (i := 16) rfl (by kernel_rfl) rfl (wants_none rfl) (yq_of (y_indexR (j := j - 1) Try.underlying87 Try.sizeOf92 (fe_t rfl) (fe_i (by omega) rfl) (rch_w 0 rfl (by omega)) (by omega) rfl)) ?_
                refine tb_one2 (i := 17) rfl (by kernel_rfl) (by kernel_rfl) (wants_none rfl) (oj_storeR (c := c2) (k := j - 1) (i := 0) ((k1 o3 j, k2 o3 j) : Int × Int) (fun _ => rfl) Try.sizeOf92 (fe_t rfl) (fe_t rfl) rfl rfl rfl (by rw [List.length_set]; omega) (by decide) (⟨fun w h => (h.weak (i := 0) rfl).pick [0, 1] _ rfl (by decide), ?_⟩))
                refine tb_done (by kernel_rfl) ?_
                refine tx_in ?_
                refine tx_then ?_
                refine tr_region ?_
                refine tl_step rfl (oj_val (y_move (fe_t rfl)) ?_)
                refine tl_step rfl (oj_val (y_sub (fe_t rfl) fe_c (by omega)) ?_)
                refine tl_step rfl (oj_val (y_assign (fe_t rfl)) ?_)
                refine tl_nil ?_
                apply tx_back2 (j - 1) (swap o3 j)
                · exact (cov_cons (by first | rfl | exact v_int (by omega)) (cov_nil))
                · repeat (first | exact over_nil | refine over_put rfl ?_ | refine over_drop rfl ?_)
                · exact fun w h => h
                · exact ⟨⟨by omega, by rw [swap_len]; exact hl3, fun c => (swap_mem (by omega) (by omega) c).trans (hm3 c), dst_swap hd3 (by omega) (by omega), mid_swap hM (by omega) hj (by omega) (by omega)⟩, by omega⟩
            · try (exfalso; omega)
              all_goals
                refine tr_exit ?_
                refine tx_then_exit ?_
                refine tx_then_exit ?_
                refine tx_in_exit ?_
                refine tx_in ?_
                refine tx_then ?_
                refine tr_region ?_
                refine tl_step rfl (oj_val (y_inc (fe_t rfl) fe_c (by omega)) ?_)
                refine tl_step rfl (oj_val (y_move (fe_t rfl)) ?_)
                refine tl_nil ?_
                apply tx_back2 (i + 1) (o3)
                · exact (cov_cons (by first | rfl | exact v_int (by omega)) (cov_nil))
                · repeat (first | exact over_nil | refine over_put rfl ?_ | refine over_drop rfl ?_)
                · exact fun w h => h
                · exact ⟨⟨by omega, hl3, hm3, hd3, mid_end hM hd3 hj (by omega) (by omega)⟩, by omega⟩
        · try (exfalso; omega)
          all_goals
            refine tb_skip (i := 3) rfl (by kernel_rfl) rfl (wants_f rfl rfl rfl rfl) ?_
            refine tb_skip (i := 4) rfl (by kernel_rfl) rfl (wants_f rfl rfl rfl rfl) ?_
            refine tb_skip (i := 5) rfl (by kernel_rfl) rfl (wants_f rfl rfl rfl rfl) ?_
            refine tb_skip (i := 6) rfl (by kernel_rfl) rfl (wants_f rfl rfl rfl rfl) ?_
            refine tb_skip (i := 7) rfl (by kernel_rfl) rfl (wants_f rfl rfl rfl rfl) ?_
            refine tb_skip (i := 8) rfl (by kernel_rfl) rfl (wants_f rfl rfl rfl rfl) ?_
            refine tb_skip (i := 9) rfl (by kernel_rfl) rfl (wants_f rfl rfl rfl rfl) ?_
            refine tb_skip (i := 10) rfl (by kernel_rfl) rfl (wants_f rfl rfl rfl rfl) ?_
            refine tb_skip (i := 11) rfl (by kernel_rfl) rfl (wants_f rfl rfl rfl rfl) ?_
            refine tb_skip (i := 12) rfl (by kernel_rfl) rfl (wants_f rfl rfl rfl rfl) ?_
            refine tb_skip (i := 13) rfl (by kernel_rfl) rfl (wants_f rfl rfl rfl rfl) ?_
            refine tb_skip (i := 14) rfl (by kernel_rfl) rfl (wants_f rfl rfl rfl rfl) ?_
            refine tb_float (i := 15) rfl (by kernel_rfl) rfl (wants_none rfl) (yq_of (y_pickf (fe_t rfl) fe_c)) ?_
            refine tb_done (by kernel_rfl) ?_
            refine tx_then ?_
            refine tr_condf (fe_t rfl) ?_
            refine tr_exit ?_
            refine tx_then_exit ?_
            refine tx_then_exit ?_
            refine tx_in_exit ?_
            refine tx_in ?_
            refine tx_then ?_
            refine tr_region ?_
            refine tl_step rfl (oj_val (y_inc (fe_t rfl) fe_c (by omega)) ?_)
            refine tl_step rfl (oj_val (y_move (fe_t rfl)) ?_)
            refine tl_nil ?_
            apply tx_back2 (i + 1) (o3)
            · exact (cov_cons (by first | rfl | exact v_int (by omega)) (cov_nil))
            · repeat (first | exact over_nil | refine over_put rfl ?_ | refine over_drop rfl ?_)
            · exact fun w h => h
            · exact ⟨⟨by omega, hl3, hm3, hd3, mid_end hM hd3 hj (by omega) (by omega)⟩, by omega⟩
    · try (exfalso; omega)
      all_goals
        refine tr_exit ?_
        refine tx_then_exit ?_
        refine tx_then_exit ?_
        refine tx_in_exit ?_
        refine tx_then ?_
        refine tr_seq ?_
        refine tr_region ?_
        refine tl_step rfl (oj_val (y_move (fe_t rfl)) ?_)
        refine tl_step rfl (oj_val (y_assign (fe_t rfl)) ?_)
        refine tl_nil ?_
        refine tx_then ?_
        refine tr_ret ?_
        refine tx_ret (res1 Try.results93 (rok_t rfl)) (fun w' hS => ?_)
        have h1 := pickT (l := [_, _]) hS [0] rfl (by decide)
        exact ⟨(⟨z1.A, z1.n, z1.c, o2.flatMap c2⟩, o2), ⟨fun a b h h' => hs2 a b h (by have h2 : b < o2.length := h'; omega), fun c => (hm2 c).trans (hmo c), by dsimp only; omega, rfl⟩, rfl, h1⟩
  · obtain ⟨ce, hce, rfl, rfl⟩ := tb_some hkg1
    refine tl_step rfl (oj_val (y_extract (fe_t rfl) rfl) ?_)
    refine tl_nil ?_
    refine tx_then ?_
    refine tr_seq ?_
    refine tr_condt (fe_t rfl) ?_
    refine tr_skip ?_
    refine tx_then ?_
    refine tr_block ?_
    refine tr_seq ?_
    refine tr_region ?_
    refine tl_step rfl (oj_val (y_entry 1 (fe_t rfl) rfl hkg1) ?_)
    refine tl_step rfl (oj_val (y_extract (fe_t rfl) rfl) ?_)
    refine tl_step rfl (oj_val (y_extract (fe_t rfl) rfl) ?_)
    refine tl_step rfl (oj_val (y_assign (fe_t rfl)) ?_)
    refine tl_step rfl (oj_val (y_assign (fe_t rfl)) ?_)
    refine tl_nil ?_
    refine tx_then ?_
    refine tr_seq ?_
    refine tr_region ?_
    refine tl_step rfl (oj_val (y_move (fe_t rfl)) ?_)
    refine tl_step rfl (oj_val (y_gtr (fe_t rfl) fe_c) ?_)
    refine tl_nil ?_
    refine tx_then ?_
    refine tr_condp (fe_t rfl) (fun hq7 => ?_) (fun hq8 => ?_)
    · try (exfalso; omega)
      all_goals
        refine tr_region ?_
        refine tl_step rfl (oj_val (y_move (fe_t rfl)) ?_)
        refine tl_step rfl (oj_val (y_move (fe_t rfl)) ?_)
        refine tl_step rfl (oj_val (y_move (fe_t rfl)) ?_)
        refine tl_step rfl (oj_val ((fun {u0 u1} hx hb => y_build (is := [0, 1]) (vs := [u0, u1]) (cs := [u0, u1]) rfl hx hb) (fel_cons (fe_t rfl) (fel_cons (fe_t rfl) fel_nil)) (by kernel_rfl)) ?_)
        refine tl_step rfl (oj_slice1 Try.underlying87 Try.sizeOf92 Try.zeroValue92 (fe_t rfl) (by decide) rfl (fun b1 => ?_))
        refine tl_step rfl (oj_append (i := 1) (s := 2) (z := (.agg #[.int .i64 0, .int .i64 0])) (bytes := 16) Try.underlying87 (by kernel_rfl) (fe_t rfl) (fe_t rfl) rfl (rdl_blk 0 rfl) rfl (by decide) (by first | exact oneI | exact oneF (fun _ => rfl) | exact fun u hu => List.all_eq_true.1 (show List.all _ (fun x => x.oneCell') = true from rfl) u hu | (intro u hu; revert u hu; simp [Value.oneCell'])) (by decide) ⟨by omega, by decide⟩ (fun Aa1 ca1 hca1 => ?_))
        refine tl_step rfl (oj_val (y_assign (fe_t rfl)) ?_)
        refine tl_nil ?_
        refine tx_in ?_
        apply tx_back4 (left.filter (· != ce.1)) (some ce.1) (o ++ [ce]) ((⟨_, _, _, _⟩ : Vs))
        · exact (cov_cons (by first | rfl | exact v_int (by omega)) (cov_nil))
        · repeat (first | exact over_nil | refine over_put rfl ?_ | refine over_drop rfl ?_)
        · exact fun w h => h.tail
        · exact ⟨⟨⟨by dsimp only; rw [List.length_append]; simp; omega, by dsimp only; rw [hzx, List.flatMap_append]; rfl⟩, next_in hnd hce (by omega) hmem, by rw [List.map_append, List.nodup_append]; exact ⟨hno, by simp, fun a ha b hb e => by
            simp at hb
            subst hb
            obtain ⟨d, hd, rfl⟩ := List.mem_map.1 ha
            exact ((hmem d).1 hd).2.2 (e ▸ hkl1)⟩, by rw [List.length_append, List.length_singleton]; have := left_less hkl1; omega⟩, left_less hkl1⟩
    · try (exfalso; omega)
      all_goals
        refine tr_skip ?_
        refine tx_in ?_
        apply tx_back4 (left.filter (· != ce.1)) (some ce.1) (o) (z1)
        · exact (cov_cons (by first | rfl | exact v_int (by omega)) (cov_nil))
        · repeat (first | exact over_nil | refine over_put rfl ?_ | refine over_drop rfl ?_)
        · exact fun w h => h
        · exact ⟨⟨⟨hzn, hzx⟩, next_out hnd hce (by omega) hmem, hno, by have := left_less hkl1; omega⟩, left_less hkl1⟩

end Go.Proofs.Ytpknjfeiiaopgaa.Heavy
