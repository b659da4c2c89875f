/- Walks: who is first. -/
import Derived.Test.YtpknjfeiiaopgaaHpD
import Derived.Test.YtpknjfeiiaopgaaHpP
namespace Go.Proofs.Ytpknjfeiiaopgaa.Heap
open Go.RowKit Go.Proofs.Ytpknjfeiiaopgaa.E Go.Proofs.Ytpknjfeiiaopgaa.Big

set_option maxRecDepth 100000 in
set_option maxHeartbeats 8000000 in
theorem cminE {w0 w : World} {T : List Res} {kb mb : Nat} {m : Mp} {f : Tb} (hS : St w0 w (blk kb [.map (some mb)] :: mpR mb m [] :: T)) (hmr : Mr m f) (hne : ¬ Emp f) :
    Calls Try.prog 65 #[.pointer (some ⟨kb, 0, none⟩)] w fun e w' => ∃ _q : Unit, IsMin f (amin f) ∧ e = .returned (.int .i64 (amin f)) ∧ St w0 w' (blk kb [.map (some mb)] :: mpR mb m [] :: T) := by
  refine calls_tr Try.func65 Try.ntmps65 rfl rfl hS ?_
  refine tr_seq ?_
  refine tr_region ?_
  refine tl_step rfl (oj_val (y_assign fe_c) ?_)
  refine tl_nil ?_
  refine tx_then ?_
  refine tr_seq ?_
  refine tr_region ?_
  refine tl_step rfl (oj_val (y_assign fe_c) ?_)
  refine tl_step rfl (oj_val (y_assign fe_c) ?_)
  refine tl_nil ?_
  refine tx_then ?_
  refine tr_seq ?_
  refine tr_seq ?_
  refine tr_region ?_
  refine tl_step rfl (oj_val (y_ldb 0 Try.isAgg128 (fe_t rfl) rfl rfl) ?_)
  refine tl_step rfl (oj_range 1 Try.underlying128 (fe_t rfl) rfl (fun it1 => ?_))
  refine tl_nil ?_
  refine tx_then ?_
  refine tr_block ?_
  refine tr_loop4 [2, 3, 4, 5, 6, 9, 10, 11, 12, 13, 14, 15, 16, 17, 18, 19, 20, 21, 22, 23, 24, 25, 26, 27, 28, 29, 30, 31, 32, 33, 34, 35, 36, 37, 38, 39, 40, 41, 42, 43, 44, 45, 46, 47, 48, 49, 50, 51, 52] (fun (left : List Int) (la : Option Int) (b : Int) (fd : Bool) => [(2, .int .i64 b), (3, .bool fd)]) 0 (fun (left : List Int) (la : Option Int) (b : Int) (fd : Bool) => [(1, mpR mb m [⟨it1, left, la⟩])]) (fun (left : List Int) (la : Option Int) (b : Int) (fd : Bool) => Bst f (fun i => i ∈ keys m ∧ i ∉ left) b fd) (fun (left : List Int) (la : Option Int) (b : Int) (fd : Bool) => left.length) (keys m) (none) (0) (false) (cov_cons (by first | rfl | exact v_int (by omega) | exact v_bool (by simp [*])) (cov_cons (by first | rfl | exact v_int (by omega) | exact v_bool (by simp [*])) (cov_nil))) (fun w h => h) ?_ ?_
  · try dsimp only
    exact .inl ⟨rfl, fun i h => h.2 h.1⟩
  intro left la b fd hp
  have hb := hp
  refine tr_seq ?_
  refine tr_region ?_
  refine tl_step rfl (oj_next 1 (fe_t rfl) rfl rfl (fun hleft1 => ?_) (fun kk1 vv1 hkl1 hkg1 => ?_))
  · refine tl_step rfl (oj_val (y_extract (fe_t rfl) rfl) ?_)
    refine tl_nil ?_
    refine tx_then ?_
    refine tr_seq ?_
    refine tr_condf (fe_t rfl) ?_
    refine tr_exit ?_
    refine tx_then_exit ?_
    refine tx_then_exit ?_
    refine tx_in_exit ?_
    refine tx_then ?_
    refine tr_seq ?_
    subst hleft1
    refine tr_forget 1 [] rfl (List.nil_sublist _) ?_
    refine tr_region ?_
    refine tl_step rfl (oj_val (y_move (fe_t rfl)) ?_)
    refine tl_step rfl (oj_val (y_assign (fe_t rfl)) ?_)
    refine tl_nil ?_
    refine tx_then ?_
    refine tr_ret ?_
    refine tx_ret (res1 Try.results65 (rok_t rfl)) (fun w' hS => ?_)
    have h1 := pickT (l := [_, _]) hS [0, 1] rfl (by decide)
    exact ⟨(), (hb.fin hmr hne).2, by rw [(hb.fin hmr hne).1], h1⟩
  · refine tl_step rfl (oj_val (y_extract (fe_t rfl) rfl) ?_)
    refine tl_nil ?_
    refine tx_then ?_
    refine tr_seq ?_
    refine tr_condt (fe_t rfl) ?_
    refine tr_skip ?_
    refine tx_then ?_
    refine tr_block ?_
    refine tr_seq ?_
    obtain ⟨kj, hkj, rfl⟩ := hmr.at hkg1
    refine tr_region ?_
    refine tl_step rfl (oj_val (y_entry 1 (fe_t rfl) rfl hkg1) ?_)
    refine tl_step rfl (oj_val (y_extract (fe_t rfl) rfl) ?_)
    refine tl_step rfl (oj_val (y_extract (fe_t rfl) rfl) ?_)
    refine tl_step rfl (oj_alloc Try.zeroValue119 (fun bk => ?_))
    refine tl_step rfl (oj_val (y_assign (fe_t rfl)) ?_)
    refine tl_step rfl (oj_storeW 0 Try.sizeOf119 (fe_t rfl) (fe_t rfl) rfl rfl rfl rfl rfl (?_))
    refine tl_nil ?_
    refine tx_then ?_
    refine tr_seq ?_
    obtain ⟨cb, hcv, hck⟩ := hmr.val b
    refine tr_region ?_
    refine tl_step rfl (oj_val (y_ldb 1 Try.isAgg128 (fe_t rfl) rfl rfl) ?_)
    refine tl_step rfl (oj_val (y_move (fe_t rfl)) ?_)
    refine tl_step rfl (oj_val (y_lookupA 2 Try.underlying128 Try.underlying3 Try.zeroValue119 (fe_t rfl) (fe_t rfl) rfl hcv) ?_)
    refine tl_step rfl (oj_alloc Try.zeroValue119 (fun bl => ?_))
    refine tl_step rfl (oj_storeW 0 Try.sizeOf119 (fe_t rfl) (fe_t rfl) rfl rfl rfl rfl rfl (?_))
    refine tl_nil ?_
    refine tx_then ?_
    refine tr_seq ?_
    refine tr_region ?_
    refine tl_step rfl (oj_val (y_move (fe_t rfl)) ?_)
    refine tl_step rfl (oj_val (y_not (fe_t rfl)) ?_)
    refine tl_step rfl (oj_val (y_move (fe_t rfl)) ?_)
    refine tl_split (d := 19) rfl (fun hq1 => ?_) (fun hq2 => ?_)
    · try (exfalso; omega)
      all_goals
        have hfd : fd = false := by simpa using hq1
        refine tl_skip rfl rfl rfl rfl ?_
        refine tl_skip rfl rfl rfl rfl ?_
        refine tl_skip rfl rfl rfl rfl ?_
        refine tl_skip rfl rfl rfl rfl ?_
        refine tl_skip rfl rfl rfl rfl ?_
        refine tl_step rfl (oj_val (y_pickt (fe_t rfl) fe_c) ?_)
        refine tl_step rfl (oj_val (y_move (fe_t rfl)) ?_)
        refine tl_skip rfl rfl rfl rfl ?_
        refine tl_skip rfl rfl rfl rfl ?_
        refine tl_skip rfl rfl rfl rfl ?_
        refine tl_skip rfl rfl rfl rfl ?_
        refine tl_skip rfl rfl rfl rfl ?_
        refine tl_skip rfl rfl rfl rfl ?_
        refine tl_skip rfl rfl rfl rfl ?_
        refine tl_skip rfl rfl rfl rfl ?_
        refine tl_skip rfl rfl rfl rfl ?_
        refine tl_skip rfl rfl rfl rfl ?_
        refine tl_skip rfl rfl rfl rfl ?_
        refine tl_skip rfl rfl rfl rfl ?_
        refine tl_skip rfl rfl rfl rfl ?_
        refine tl_skip rfl rfl rfl rfl ?_
        refine tl_skip rfl rfl rfl rfl ?_
        refine tl_skip rfl rfl rfl rfl ?_
        refine tl_skip rfl rfl rfl rfl ?_
        refine tl_skip rfl rfl rfl rfl ?_
        refine tl_skip rfl rfl rfl rfl ?_
        refine tl_skip rfl rfl rfl rfl ?_
        refine tl_skip rfl rfl rfl rfl ?_
        refine tl_skip rfl rfl rfl rfl ?_
        refine tl_skip rfl rfl rfl rfl ?_
        refine tl_skip rfl rfl rfl rfl ?_
        refine tl_step rfl (oj_val (y_pickt (fe_t rfl) fe_c) ?_)
        refine tl_nil ?_
        refine tx_then ?_
        refine tr_condt (fe_t rfl) ?_
        refine tr_region ?_
        refine tl_step rfl (oj_val (y_move (fe_t rfl)) ?_)
        refine tl_step rfl (oj_val (y_assign (fe_t rfl)) ?_)
        refine tl_step rfl (oj_val (y_assign fe_c) ?_)
        refine tl_nil ?_
        refine tx_in ?_
        apply tx_back4 (left.filter (· != kk1)) (some kk1) (kk1) (true)
        · exact (cov_cons (by first | rfl | exact v_int (by omega) | exact v_bool (by simp [*])) (cov_cons (by first | rfl | exact v_int (by omega) | exact v_bool (by simp [*])) (cov_nil)))
        · repeat (first | exact over_nil | refine over_put rfl ?_ | refine over_drop rfl ?_)
        · exact fun w h => h.tail.tail
        · first
            | exact ⟨hb.take (left_nextI (mget_key hkg1)) hkj (fun h9 => absurd h9 (by rw [hfd]; decide)), left_less hkl1⟩
            | exact ⟨hb.take (left_nextI (mget_key hkg1)) hkj (fun _ k9 h9 => by rw [hck k9 h9]; exact lt3_mk.2 (by omega)), left_less hkl1⟩
            | exact ⟨hb.keep hfd (left_nextI (mget_key hkg1)) (fun h9 => h9.2 hkl1) hkj (fun k9 h9 => by rw [hck k9 h9]; exact fun h8 => by have := lt3_mk.1 h8; omega), left_less hkl1⟩
    · try (exfalso; omega)
      all_goals
        have hfd : fd = true := by simpa using hq2
        refine tl_want rfl rfl rfl (oj_val (y_fieldAddr (td := 117) Try.underlying119 rfl rfl Try.sizeOf117 (o' := 0) rfl (fe_t rfl)) ?_)
        refine tl_want rfl rfl rfl (oj_val (y_ldb 1 Try.isAgg117 (fe_t rfl) rfl rfl) ?_)
        refine tl_want rfl rfl rfl (oj_val (y_fieldAddr (td := 117) Try.underlying119 rfl rfl Try.sizeOf117 (o' := 0) rfl (fe_t rfl)) ?_)
        refine tl_want rfl rfl rfl (oj_val (y_ldb 0 Try.isAgg117 (fe_t rfl) rfl rfl) ?_)
        refine tl_want rfl rfl rfl (oj_val (y_lss (fe_t rfl) (fe_t rfl)) ?_)
        refine tl_step rfl (oj_val (y_pickf (fe_t rfl) (fe_t rfl)) ?_)
        refine tl_step rfl (oj_val (y_move (fe_t rfl)) ?_)
        refine tl_splitp (d := 26) rfl (fun hq3 => ?_) (fun hq4 => ?_)
        · try (exfalso; omega)
          all_goals
            refine tl_skip rfl rfl rfl rfl ?_
            refine tl_skip rfl rfl rfl rfl ?_
            refine tl_skip rfl rfl rfl rfl ?_
            refine tl_skip rfl rfl rfl rfl ?_
            refine tl_skip rfl rfl rfl rfl ?_
            refine tl_skip rfl rfl rfl rfl ?_
            refine tl_skip rfl rfl rfl rfl ?_
            refine tl_skip rfl rfl rfl rfl ?_
            refine tl_skip rfl rfl rfl rfl ?_
            refine tl_skip rfl rfl rfl rfl ?_
            refine tl_skip rfl rfl rfl rfl ?_
            refine tl_skip rfl rfl rfl rfl ?_
            refine tl_skip rfl rfl rfl rfl ?_
            refine tl_skip rfl rfl rfl rfl ?_
            refine tl_skip rfl rfl rfl rfl ?_
            refine tl_skip rfl rfl rfl rfl ?_
            refine tl_skip rfl rfl rfl rfl ?_
            refine tl_skip rfl rfl rfl rfl ?_
            refine tl_skip rfl rfl rfl rfl ?_
            refine tl_skip rfl rfl rfl rfl ?_
            refine tl_skip rfl rfl rfl rfl ?_
            refine tl_skip rfl rfl rfl rfl ?_
            refine tl_skip rfl rfl rfl rfl ?_
            refine tl_skip rfl rfl rfl rfl ?_
            refine tl_step rfl (oj_val (y_pickt (fe_t rfl) fe_c) ?_)
            refine tl_nil ?_
            refine tx_then ?_
            refine tr_condt (fe_t rfl) ?_
            refine tr_region ?_
            refine tl_step rfl (oj_val (y_move (fe_t rfl)) ?_)
            refine tl_step rfl (oj_val (y_assign (fe_t rfl)) ?_)
            refine tl_step rfl (oj_val (y_assign fe_c) ?_)
            refine tl_nil ?_
            refine tx_in ?_
            apply tx_back4 (left.filter (· != kk1)) (some kk1) (kk1) (true)
            · exact (cov_cons (by first | rfl | exact v_int (by omega) | exact v_bool (by simp [*])) (cov_cons (by first | rfl | exact v_int (by omega) | exact v_bool (by simp [*])) (cov_nil)))
            · repeat (first | exact over_nil | refine over_put rfl ?_ | refine over_drop rfl ?_)
            · exact fun w h => h.tail.tail
            · first
                | exact ⟨hb.take (left_nextI (mget_key hkg1)) hkj (fun h9 => absurd h9 (by rw [hfd]; decide)), left_less hkl1⟩
                | exact ⟨hb.take (left_nextI (mget_key hkg1)) hkj (fun _ k9 h9 => by rw [hck k9 h9]; exact lt3_mk.2 (by omega)), left_less hkl1⟩
                | exact ⟨hb.keep hfd (left_nextI (mget_key hkg1)) (fun h9 => h9.2 hkl1) hkj (fun k9 h9 => by rw [hck k9 h9]; exact fun h8 => by have := lt3_mk.1 h8; omega), left_less hkl1⟩
        · try (exfalso; omega)
          all_goals
            refine tl_want rfl rfl rfl (oj_val (y_fieldAddr (td := 117) Try.underlying119 rfl rfl Try.sizeOf117 (o' := 0) rfl (fe_t rfl)) ?_)
            refine tl_want rfl rfl rfl (oj_val (y_ldb 1 Try.isAgg117 (fe_t rfl) rfl rfl) ?_)
            refine tl_want rfl rfl rfl (oj_val (y_fieldAddr (td := 117) Try.underlying119 rfl rfl Try.sizeOf117 (o' := 0) rfl (fe_t rfl)) ?_)
            refine tl_want rfl rfl rfl (oj_val (y_ldb 0 Try.isAgg117 (fe_t rfl) rfl rfl) ?_)
            refine tl_want rfl rfl rfl (oj_val (y_eq (fe_t rfl) (fe_t rfl)) ?_)
            refine tl_want rfl rfl rfl (oj_val (y_move (fe_t rfl)) ?_)
            refine tl_splitp (d := 32) rfl (fun hq5 => ?_) (fun hq6 => ?_)
            · try (exfalso; omega)
              all_goals
                refine tl_want rfl rfl rfl (oj_val (y_fieldAddr (td := 117) Try.underlying119 rfl rfl Try.sizeOf117 (o' := 1) rfl (fe_t rfl)) ?_)
                refine tl_want rfl rfl rfl (oj_val (y_ldb 1 Try.isAgg117 (fe_t rfl) rfl rfl) ?_)
                refine tl_want rfl rfl rfl (oj_val (y_fieldAddr (td := 117) Try.underlying119 rfl rfl Try.sizeOf117 (o' := 1) rfl (fe_t rfl)) ?_)
                refine tl_want rfl rfl rfl (oj_val (y_ldb 0 Try.isAgg117 (fe_t rfl) rfl rfl) ?_)
                refine tl_want rfl rfl rfl (oj_val (y_lss (fe_t rfl) (fe_t rfl)) ?_)
                refine tl_want rfl rfl rfl (oj_val (y_move (fe_t rfl)) ?_)
                refine tl_splitp (d := 38) rfl (fun hq7 => ?_) (fun hq8 => ?_)
                · try (exfalso; omega)
                  all_goals
                    refine tl_skip rfl rfl rfl rfl ?_
                    refine tl_skip rfl rfl rfl rfl ?_
                    refine tl_skip rfl rfl rfl rfl ?_
                    refine tl_skip rfl rfl rfl rfl ?_
                    refine tl_skip rfl rfl rfl rfl ?_
                    refine tl_skip rfl rfl rfl rfl ?_
                    refine tl_skip rfl rfl rfl rfl ?_
                    refine tl_skip rfl rfl rfl rfl ?_
                    refine tl_skip rfl rfl rfl rfl ?_
                    refine tl_skip rfl rfl rfl rfl ?_
                    refine tl_want rfl rfl rfl (oj_val (y_pickt (fe_t rfl) fe_c) ?_)
                    refine tl_want rfl rfl rfl (oj_val (y_pickt (fe_t rfl) (fe_t rfl)) ?_)
                    refine tl_step rfl (oj_val (y_pickf (fe_t rfl) (fe_t rfl)) ?_)
                    refine tl_nil ?_
                    refine tx_then ?_
                    refine tr_condt (fe_t rfl) ?_
                    refine tr_region ?_
                    refine tl_step rfl (oj_val (y_move (fe_t rfl)) ?_)
                    refine tl_step rfl (oj_val (y_assign (fe_t rfl)) ?_)
                    refine tl_step rfl (oj_val (y_assign fe_c) ?_)
                    refine tl_nil ?_
                    refine tx_in ?_
                    apply tx_back4 (left.filter (· != kk1)) (some kk1) (kk1) (true)
                    · exact (cov_cons (by first | rfl | exact v_int (by omega) | exact v_bool (by simp [*])) (cov_cons (by first | rfl | exact v_int (by omega) | exact v_bool (by simp [*])) (cov_nil)))
                    · repeat (first | exact over_nil | refine over_put rfl ?_ | refine over_drop rfl ?_)
                    · exact fun w h => h.tail.tail
                    · first
                        | exact ⟨hb.take (left_nextI (mget_key hkg1)) hkj (fun h9 => absurd h9 (by rw [hfd]; decide)), left_less hkl1⟩
                        | exact ⟨hb.take (left_nextI (mget_key hkg1)) hkj (fun _ k9 h9 => by rw [hck k9 h9]; exact lt3_mk.2 (by omega)), left_less hkl1⟩
                        | exact ⟨hb.keep hfd (left_nextI (mget_key hkg1)) (fun h9 => h9.2 hkl1) hkj (fun k9 h9 => by rw [hck k9 h9]; exact fun h8 => by have := lt3_mk.1 h8; omega), left_less hkl1⟩
                · try (exfalso; omega)
                  all_goals
                    refine tl_want rfl rfl rfl (oj_val (y_fieldAddr (td := 117) Try.underlying119 rfl rfl Try.sizeOf117 (o' := 1) rfl (fe_t rfl)) ?_)
                    refine tl_want rfl rfl rfl (oj_val (y_ldb 1 Try.isAgg117 (fe_t rfl) rfl rfl) ?_)
                    refine tl_want rfl rfl rfl (oj_val (y_fieldAddr (td := 117) Try.underlying119 rfl rfl Try.sizeOf117 (o' := 1) rfl (fe_t rfl)) ?_)
                    refine tl_want rfl rfl rfl (oj_val (y_ldb 0 Try.isAgg117 (fe_t rfl) rfl rfl) ?_)
                    refine tl_want rfl rfl rfl (oj_val (y_eq (fe_t rfl) (fe_t rfl)) ?_)
                    refine tl_want rfl rfl rfl (oj_val (y_move (fe_t rfl)) ?_)
                    refine tl_splitp (d := 44) rfl (fun hq9 => ?_) (fun hq10 => ?_)
                    · try (exfalso; omega)
                      all_goals
                        refine tl_want rfl rfl rfl (oj_val (y_move (fe_t rfl)) ?_)
                        refine tl_want rfl rfl rfl (oj_val (y_move (fe_t rfl)) ?_)
                        refine tl_want rfl rfl rfl (oj_val (y_lss (fe_t rfl) (fe_t rfl)) ?_)
                        refine tl_want rfl rfl rfl (oj_val (y_pickt (fe_t rfl) (fe_t rfl)) ?_)
                        refine tl_want rfl rfl rfl (oj_val (y_pickf (fe_t rfl) (fe_t rfl)) ?_)
                        refine tl_want rfl rfl rfl (oj_val (y_pickt (fe_t rfl) (fe_t rfl)) ?_)
                        refine tl_step rfl (oj_val (y_pickf (fe_t rfl) (fe_t rfl)) ?_)
                        refine tl_nil ?_
                        refine tx_then ?_
                        refine tr_condp (fe_t rfl) (fun hq11 => ?_) (fun hq12 => ?_)
                        · try (exfalso; omega)
                          all_goals
                            refine tr_region ?_
                            refine tl_step rfl (oj_val (y_move (fe_t rfl)) ?_)
                            refine tl_step rfl (oj_val (y_assign (fe_t rfl)) ?_)
                            refine tl_step rfl (oj_val (y_assign fe_c) ?_)
                            refine tl_nil ?_
                            refine tx_in ?_
                            apply tx_back4 (left.filter (· != kk1)) (some kk1) (kk1) (true)
                            · exact (cov_cons (by first | rfl | exact v_int (by omega) | exact v_bool (by simp [*])) (cov_cons (by first | rfl | exact v_int (by omega) | exact v_bool (by simp [*])) (cov_nil)))
                            · repeat (first | exact over_nil | refine over_put rfl ?_ | refine over_drop rfl ?_)
                            · exact fun w h => h.tail.tail
                            · first
                                | exact ⟨hb.take (left_nextI (mget_key hkg1)) hkj (fun h9 => absurd h9 (by rw [hfd]; decide)), left_less hkl1⟩
                                | exact ⟨hb.take (left_nextI (mget_key hkg1)) hkj (fun _ k9 h9 => by rw [hck k9 h9]; exact lt3_mk.2 (by omega)), left_less hkl1⟩
                                | exact ⟨hb.keep hfd (left_nextI (mget_key hkg1)) (fun h9 => h9.2 hkl1) hkj (fun k9 h9 => by rw [hck k9 h9]; exact fun h8 => by have := lt3_mk.1 h8; omega), left_less hkl1⟩
                        · try (exfalso; omega)
                          all_goals
                            refine tr_skip ?_
                            refine tx_in ?_
                            apply tx_back4 (left.filter (· != kk1)) (some kk1) (b) (fd)
                            · exact (cov_cons (by first | rfl | exact v_int (by omega) | exact v_bool (by simp [*])) (cov_cons (by first | rfl | exact v_int (by omega) | exact v_bool (by simp [*])) (cov_nil)))
                            · repeat (first | exact over_nil | refine over_put rfl ?_ | refine over_drop rfl ?_)
                            · exact fun w h => h.tail.tail
                            · first
                                | exact ⟨hb.take (left_nextI (mget_key hkg1)) hkj (fun h9 => absurd h9 (by rw [hfd]; decide)), left_less hkl1⟩
                                | exact ⟨hb.take (left_nextI (mget_key hkg1)) hkj (fun _ k9 h9 => by rw [hck k9 h9]; exact lt3_mk.2 (by omega)), left_less hkl1⟩
                                | exact ⟨hb.keep hfd (left_nextI (mget_key hkg1)) (fun h9 => h9.2 hkl1) hkj (fun k9 h9 => by rw [hck k9 h9]; exact fun h8 => by have := lt3_mk.1 h8; omega), left_less hkl1⟩
                    · try (exfalso; omega)
                      all_goals
                        refine tl_skip rfl rfl rfl rfl ?_
                        refine tl_skip rfl rfl rfl rfl ?_
                        refine tl_skip rfl rfl rfl rfl ?_
                        refine tl_want rfl rfl rfl (oj_val (y_pickf (fe_t rfl) fe_c) ?_)
                        refine tl_want rfl rfl rfl (oj_val (y_pickf (fe_t rfl) (fe_t rfl)) ?_)
                        refine tl_want rfl rfl rfl (oj_val (y_pickt (fe_t rfl) (fe_t rfl)) ?_)
                        refine tl_step rfl (oj_val (y_pickf (fe_t rfl) (fe_t rfl)) ?_)
                        refine tl_nil ?_
                        refine tx_then ?_
                        refine tr_condf (fe_t rfl) ?_
                        refine tr_skip ?_
                        refine tx_in ?_
                        apply tx_back4 (left.filter (· != kk1)) (some kk1) (b) (fd)
                        · exact (cov_cons (by first | rfl | exact v_int (by omega) | exact v_bool (by simp [*])) (cov_cons (by first | rfl | exact v_int (by omega) | exact v_bool (by simp [*])) (cov_nil)))
                        · repeat (first | exact over_nil | refine over_put rfl ?_ | refine over_drop rfl ?_)
                        · exact fun w h => h.tail.tail
                        · first
                            | exact ⟨hb.take (left_nextI (mget_key hkg1)) hkj (fun h9 => absurd h9 (by rw [hfd]; decide)), left_less hkl1⟩
                            | exact ⟨hb.take (left_nextI (mget_key hkg1)) hkj (fun _ k9 h9 => by rw [hck k9 h9]; exact lt3_mk.2 (by omega)), left_less hkl1⟩
                            | exact ⟨hb.keep hfd (left_nextI (mget_key hkg1)) (fun h9 => h9.2 hkl1) hkj (fun k9 h9 => by rw [hck k9 h9]; exact fun h8 => by have := lt3_mk.1 h8; omega), left_less hkl1⟩
            · try (exfalso; omega)
              all_goals
                refine tl_skip rfl rfl rfl rfl ?_
                refine tl_skip rfl rfl rfl rfl ?_
                refine tl_skip rfl rfl rfl rfl ?_
                refine tl_skip rfl rfl rfl rfl ?_
                refine tl_skip rfl rfl rfl rfl ?_
                refine tl_skip rfl rfl rfl rfl ?_
                refine tl_skip rfl rfl rfl rfl ?_
                refine tl_skip rfl rfl rfl rfl ?_
                refine tl_skip rfl rfl rfl rfl ?_
                refine tl_skip rfl rfl rfl rfl ?_
                refine tl_skip rfl rfl rfl rfl ?_
                refine tl_skip rfl rfl rfl rfl ?_
                refine tl_skip rfl rfl rfl rfl ?_
                refine tl_skip rfl rfl rfl rfl ?_
                refine tl_skip rfl rfl rfl rfl ?_
                refine tl_skip rfl rfl rfl rfl ?_
                refine tl_skip rfl rfl rfl rfl ?_
                refine tl_want rfl rfl rfl (oj_val (y_pickf (fe_t rfl) fe_c) ?_)
                refine tl_step rfl (oj_val (y_pickf (fe_t rfl) (fe_t rfl)) ?_)
                refine tl_nil ?_
                refine tx_then ?_
                refine tr_condf (fe_t rfl) ?_
                refine tr_skip ?_
                refine tx_in ?_
                apply tx_back4 (left.filter (· != kk1)) (some kk1) (b) (fd)
                · exact (cov_cons (by first | rfl | exact v_int (by omega) | exact v_bool (by simp [*])) (cov_cons (by first | rfl | exact v_int (by omega) | exact v_bool (by simp [*])) (cov_nil)))
                · repeat (first | exact over_nil | refine over_put rfl ?_ | refine over_drop rfl ?_)
                · exact fun w h => h.tail.tail
                · first
                    | exact ⟨hb.take (left_nextI (mget_key hkg1)) hkj (fun h9 => absurd h9 (by rw [hfd]; decide)), left_less hkl1⟩
                    | exact ⟨hb.take (left_nextI (mget_key hkg1)) hkj (fun _ k9 h9 => by rw [hck k9 h9]; exact lt3_mk.2 (by omega)), left_less hkl1⟩
                    | exact ⟨hb.keep hfd (left_nextI (mget_key hkg1)) (fun h9 => h9.2 hkl1) hkj (fun k9 h9 => by rw [hck k9 h9]; exact fun h8 => by have := lt3_mk.1 h8; omega), left_less hkl1⟩

end Go.Proofs.Ytpknjfeiiaopgaa.Heap
