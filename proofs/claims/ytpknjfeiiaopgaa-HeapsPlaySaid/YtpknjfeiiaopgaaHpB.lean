/- Walks: fix. -/
import Derived.Test.YtpknjfeiiaopgaaHpA
namespace Go.Proofs.Ytpknjfeiiaopgaa.Heap
open Go.RowKit Go.Proofs.Ytpknjfeiiaopgaa.E Go.Proofs.Ytpknjfeiiaopgaa.Big

set_option maxRecDepth 100000 in
set_option maxHeartbeats 8000000 in
theorem fixE {w0 w : World} {T : List Res} {hb mb n c : Nat} {A : Option Addr} {l : List I3} {m : Mp} (hn : l.length = n) (hin : Inj l) (hmo : MapOk l m) (hS : St w0 w (blk hb [.slice A n c, .map (some mb)] :: vec 125 3 (.slice A n c) n (l.flatMap cI3) :: mpR mb m [] :: T)) {i0 : Nat} (hah : AH l i0) (hnb : n ≤ 4398046511104) :
    Calls Try.prog 96 #[.pointer (some ⟨hb, 0, none⟩), (.int .i64 ((i0 : Int)))] w fun e w' => ∃ q : List I3 × Mp, (Hp q.1 ∧ Same n l q.1 q.2) ∧ e = .returned (.tuple #[]) ∧ St w0 w' (blk hb [.slice A n c, .map (some mb)] :: vec 125 3 (.slice A n c) n (q.1.flatMap cI3) :: mpR mb q.2 [] :: T) := by
  refine calls_tr Try.func96 Try.ntmps96 rfl rfl hS ?_
  refine tr_seq ?_
  refine tr_block ?_
  refine tr_loop3 [1, 5, 6, 7, 8, 9, 10, 11, 12, 13, 14, 15, 16, 17, 18, 19, 20, 21, 22, 23] (fun (i : Nat) (l1 : List I3) (m1 : Mp) => [(1, .int .i64 (i : Int))]) 0 (fun (i : Nat) (l1 : List I3) (m1 : Mp) => [(1, vec 125 3 (.slice A n c) n (l1.flatMap cI3)), (2, mpR mb m1 [])]) (fun (i : Nat) (l1 : List I3) (m1 : Mp) => AH l1 i ∧ Same n l l1 m1) (fun (i : Nat) (l1 : List I3) (m1 : Mp) => i) (i0) (l) (m) (cov_cons (by first | rfl | exact v_int (by omega) | exact v_bool (by simp [*])) (cov_nil)) (fun w h => h) ?_ ?_
  · try dsimp only
    exact ⟨hah, hn, hin, hmo, fun _ => Iff.rfl⟩
  intro i l1 m1 hp
  obtain ⟨ha1, hs1⟩ := hp
  have hl1 := hs1.len
  have hi1 := ha1.lt
  refine tr_seq ?_
  refine tr_seq ?_
  refine tr_region ?_
  refine tl_step rfl (oj_val (y_move (fe_t rfl)) ?_)
  refine tl_step rfl (oj_val (y_gtr (fe_t rfl) fe_c) ?_)
  refine tl_step rfl (oj_val (y_move (fe_t rfl)) ?_)
  refine tl_splitp (d := 7) rfl (fun hq1 => ?_) (fun hq2 => ?_)
  · refine tl_want rfl rfl rfl (oj_val (y_move (fe_t rfl)) ?_)
    refine tl_want rfl rfl rfl (oj_val (y_move (fe_t rfl)) ?_)
    refine tl_want rfl rfl rfl (oj_val (y_move (fe_t rfl)) ?_)
    refine tl_want rfl rfl rfl (oj_val (y_as (b := ((i - 1 : Nat) : Int)) (y_sub (fe_t rfl) fe_c (by omega)) (by omega)) ?_)
    refine tl_want rfl rfl rfl (oj_val (y_as (b := (((i - 1) / 2 : Nat) : Int)) (y_quo (fe_t rfl) fe_c (by omega)) (by omega)) ?_)
    refine tl_want rfl rfl rfl (oj_call2 Try.call123 fe_f (fel_cons (fe_t rfl) (fel_cons (fe_t rfl) (fel_cons (fe_t rfl) fel_nil))) (fun w' hS => lessE hl1 (pickT (l := [_, _, _]) hS [0, 1, 2] rfl (by decide)) (i := i) (j := ((i - 1) / 2)) (by omega) (by omega)) (fun _ _ => ?_))
    refine tl_step rfl (oj_val (y_pickt (fe_t rfl) (fe_t rfl)) ?_)
    refine tl_nil ?_
    refine tx_then ?_
    refine tr_condp (fe_t rfl) (fun hq3 => ?_) (fun hq4 => ?_)
    · refine tr_skip ?_
      refine tx_then ?_
      refine tr_block ?_
      refine tr_seq ?_
      refine tr_region ?_
      refine tl_step rfl (oj_val (y_move (fe_t rfl)) ?_)
      refine tl_step rfl (oj_val (y_move (fe_t rfl)) ?_)
      refine tl_step rfl (oj_val (y_move (fe_t rfl)) ?_)
      refine tl_step rfl (oj_val (y_as (b := ((i - 1 : Nat) : Int)) (y_sub (fe_t rfl) fe_c (by omega)) (by omega)) ?_)
      refine tl_step rfl (oj_val (y_as (b := (((i - 1) / 2 : Nat) : Int)) (y_quo (fe_t rfl) fe_c (by omega)) (by omega)) ?_)
      refine tl_step rfl (oj_call2 Try.call97 fe_f (fel_cons (fe_t rfl) (fel_cons (fe_t rfl) (fel_cons (fe_t rfl) fel_nil))) (fun w' hS => swapE hl1 hs1.inj hs1.map (pickT (l := [_, _, _]) hS [0, 1, 2] rfl (by decide)) (i := i) (j := ((i - 1) / 2)) (by omega) (by omega)) (fun m4 hm4 => ?_))
      refine tl_nil ?_
      refine tx_then ?_
      refine tr_region ?_
      refine tl_step rfl (oj_val (y_move (fe_t rfl)) ?_)
      refine tl_step rfl (oj_val (y_as (b := ((i - 1 : Nat) : Int)) (y_sub (fe_t rfl) fe_c (by omega)) (by omega)) ?_)
      refine tl_step rfl (oj_val (y_as (b := (((i - 1) / 2 : Nat) : Int)) (y_quo (fe_t rfl) fe_c (by omega)) (by omega)) ?_)
      refine tl_step rfl (oj_val (y_assign (fe_t rfl)) ?_)
      refine tl_nil ?_
      refine tx_in ?_
      apply tx_back3 (((i - 1) / 2)) (swp l1 i ((i - 1) / 2)) (m4)
      · exact (cov_cons (by first | rfl | exact v_int (by omega) | exact v_bool (by simp [*])) (cov_nil))
      · repeat (first | exact over_nil | refine over_put rfl ?_ | refine over_drop rfl ?_)
      · exact fun w h => h
      · exact ⟨⟨ha1.up (by omega) (by assumption), hs1.swp (by omega) (by omega) hm4⟩, by omega⟩
    · refine tr_exit ?_
      refine tx_then_exit ?_
      refine tx_then_exit ?_
      refine tx_in_exit ?_
      refine tx_then ?_
      refine tr_block ?_
      refine tr_loop3 [1, 4, 24, 25, 26, 27, 28, 29, 30, 31, 32, 33, 34, 35, 36, 37, 38, 39, 40, 41, 42, 43, 44, 45, 46, 47, 48, 49, 50, 51, 52, 53, 54, 55, 56, 57, 58, 59, 60] (fun (q : Nat) (l2 : List I3) (m3 : Mp) => [(1, .int .i64 (q : Int))]) 0 (fun (q : Nat) (l2 : List I3) (m3 : Mp) => [(1, vec 125 3 (.slice A n c) n (l2.flatMap cI3)), (2, mpR mb m3 [])]) (fun (q : Nat) (l2 : List I3) (m3 : Mp) => DH l2 q ∧ Same n l l2 m3) (fun (q : Nat) (l2 : List I3) (m3 : Mp) => n - q) (i) (l1) (m1) (cov_cons (by first | rfl | exact v_int (by omega) | exact v_bool (by simp [*])) (cov_nil)) (fun w h => h) ?_ ?_
      · try dsimp only
        exact ⟨ha1.down (fun h0 => by first | assumption | (exfalso; omega)), hs1⟩
      intro q l2 m3 hp
      obtain ⟨ha2, hs2⟩ := hp
      have hl2 := hs2.len
      have hi2 := ha2.lt
      refine tr_block ?_
      refine tr_seq ?_
      refine tr_region ?_
      refine tl_step rfl (oj_val (y_move (fe_t rfl)) ?_)
      refine tl_step rfl (oj_val (y_as (b := ((2 * q : Nat) : Int)) (y_mul fe_c (fe_t rfl) (by omega)) (by omega)) ?_)
      refine tl_step rfl (oj_val (y_as (b := ((2 * q + 1 : Nat) : Int)) (y_add (fe_t rfl) fe_c (by omega)) (by omega)) ?_)
      refine tl_step rfl (oj_val (y_assign (fe_t rfl)) ?_)
      refine tl_nil ?_
      refine tx_then ?_
      refine tr_seq ?_
      refine tr_seq ?_
      refine tr_region ?_
      refine tl_step rfl (oj_val (y_move (fe_t rfl)) ?_)
      refine tl_step rfl (oj_val (y_move (fe_t rfl)) ?_)
      refine tl_step rfl (oj_val (y_nilCheck (fe_t rfl)) ?_)
      refine tl_step rfl (oj_val (y_fieldAddr (td := 114) Try.underlying116 rfl rfl Try.sizeOf114 (o' := 0) rfl (fe_t rfl)) ?_)
      refine tl_step rfl (oj_val (y_ldb 0 Try.isAgg114 (fe_t rfl) rfl rfl) ?_)
      refine tl_step rfl (oj_val (y_len Try.underlying114 (fe_t rfl)) ?_)
      refine tl_step rfl (oj_val (y_geq (fe_t rfl) (fe_t rfl)) ?_)
      refine tl_nil ?_
      refine tx_then ?_
      refine tr_condp (fe_t rfl) (fun hq5 => ?_) (fun hq6 => ?_)
      · refine tr_ret ?_
        refine tx_then_ret ?_
        refine tx_in_ret ?_
        refine tx_then_ret ?_
        refine tx_in_ret ?_
        refine tx_ret (res0 Try.results96 ) (fun w' hS => ?_)
        have h1 := pickT (l := [_, _, _]) hS [0, 1, 2] rfl (by decide)
        exact ⟨(l2, m3), ⟨ha2.leaf (by omega), hs2⟩, rfl, h1⟩
      · refine tr_skip ?_
        refine tx_then ?_
        refine tr_seq ?_
        refine tr_seq ?_
        refine tr_region ?_
        refine tl_step rfl (oj_val (y_move (fe_t rfl)) ?_)
        refine tl_step rfl (oj_val (y_as (b := ((2 * q + 2 : Nat) : Int)) (y_add (fe_t rfl) fe_c (by omega)) (by omega)) ?_)
        refine tl_step rfl (oj_val (y_move (fe_t rfl)) ?_)
        refine tl_step rfl (oj_val (y_nilCheck (fe_t rfl)) ?_)
        refine tl_step rfl (oj_val (y_fieldAddr (td := 114) Try.underlying116 rfl rfl Try.sizeOf114 (o' := 0) rfl (fe_t rfl)) ?_)
        refine tl_step rfl (oj_val (y_ldb 0 Try.isAgg114 (fe_t rfl) rfl rfl) ?_)
        refine tl_step rfl (oj_val (y_len Try.underlying114 (fe_t rfl)) ?_)
        refine tl_step rfl (oj_val (y_lss (fe_t rfl) (fe_t rfl)) ?_)
        refine tl_step rfl (oj_val (y_move (fe_t rfl)) ?_)
        refine tl_splitp (d := 42) rfl (fun hq7 => ?_) (fun hq8 => ?_)
        · refine tl_want rfl rfl rfl (oj_val (y_move (fe_t rfl)) ?_)
          refine tl_want rfl rfl rfl (oj_val (y_move (fe_t rfl)) ?_)
          refine tl_want rfl rfl rfl (oj_val (y_as (b := ((2 * q + 2 : Nat) : Int)) (y_add (fe_t rfl) fe_c (by omega)) (by omega)) ?_)
          refine tl_want rfl rfl rfl (oj_val (y_move (fe_t rfl)) ?_)
          refine tl_want rfl rfl rfl (oj_call2 Try.call123 fe_f (fel_cons (fe_t rfl) (fel_cons (fe_t rfl) (fel_cons (fe_t rfl) fel_nil))) (fun w' hS => lessE hl2 (pickT (l := [_, _, _]) hS [0, 1, 2] rfl (by decide)) (i := 2 * q + 2) (j := 2 * q + 1) (by omega) (by omega)) (fun _ _ => ?_))
          refine tl_step rfl (oj_val (y_pickt (fe_t rfl) (fe_t rfl)) ?_)
          refine tl_nil ?_
          refine tx_then ?_
          refine tr_condp (fe_t rfl) (fun hq9 => ?_) (fun hq10 => ?_)
          · refine tr_region ?_
            refine tl_step rfl (oj_val (y_move (fe_t rfl)) ?_)
            refine tl_step rfl (oj_val (y_as (b := ((2 * q + 2 : Nat) : Int)) (y_add (fe_t rfl) fe_c (by omega)) (by omega)) ?_)
            refine tl_step rfl (oj_val (y_assign (fe_t rfl)) ?_)
            refine tl_nil ?_
            refine tx_then ?_
            refine tr_seq ?_
            refine tr_seq ?_
            have hkid := kid_r (l := l2) (k := q) (by omega) (by assumption)
            refine tr_region ?_
            refine tl_step rfl (oj_val (y_move (fe_t rfl)) ?_)
            refine tl_step rfl (oj_val (y_move (fe_t rfl)) ?_)
            refine tl_step rfl (oj_val (y_move (fe_t rfl)) ?_)
            refine tl_step rfl (oj_call2 Try.call123 fe_f (fel_cons (fe_t rfl) (fel_cons (fe_t rfl) (fel_cons (fe_t rfl) fel_nil))) (fun w' hS => lessE hl2 (pickT (l := [_, _, _]) hS [0, 1, 2] rfl (by decide)) (i := 2 * q + 2) (j := q) (by omega) (by omega)) (fun _ _ => ?_))
            refine tl_step rfl (oj_val (y_notp (fe_t rfl)) ?_)
            refine tl_nil ?_
            refine tx_then ?_
            refine tr_condp (fe_t rfl) (fun hq11 => ?_) (fun hq12 => ?_)
            · have hnl := hq11
              refine tr_ret ?_
              refine tx_then_ret ?_
              refine tx_in_ret ?_
              refine tx_then_ret ?_
              refine tx_in_ret ?_
              refine tx_ret (res0 Try.results96 ) (fun w' hS => ?_)
              have h1 := pickT (l := [_, _, _]) hS [0, 1, 2] rfl (by decide)
              exact ⟨(l2, m3), ⟨ha2.done hkid hnl, hs2⟩, rfl, h1⟩
            · have hlt := Decidable.not_not.1 hq12
              refine tr_skip ?_
              refine tx_then ?_
              refine tr_seq ?_
              refine tr_region ?_
              refine tl_step rfl (oj_val (y_move (fe_t rfl)) ?_)
              refine tl_step rfl (oj_val (y_move (fe_t rfl)) ?_)
              refine tl_step rfl (oj_val (y_move (fe_t rfl)) ?_)
              refine tl_step rfl (oj_call2 Try.call97 fe_f (fel_cons (fe_t rfl) (fel_cons (fe_t rfl) (fel_cons (fe_t rfl) fel_nil))) (fun w' hS => swapE hl2 hs2.inj hs2.map (pickT (l := [_, _, _]) hS [0, 1, 2] rfl (by decide)) (i := 2 * q + 2) (j := q) (by omega) (by omega)) (fun m5 hm5 => ?_))
              refine tl_nil ?_
              refine tx_then ?_
              refine tr_region ?_
              refine tl_step rfl (oj_val (y_move (fe_t rfl)) ?_)
              refine tl_step rfl (oj_val (y_assign (fe_t rfl)) ?_)
              refine tl_nil ?_
              refine tx_in ?_
              apply tx_back3 (2 * q + 2) (swp l2 (2 * q + 2) q) (m5)
              · exact (cov_cons (by first | rfl | exact v_int (by omega) | exact v_bool (by simp [*])) (cov_nil))
              · repeat (first | exact over_nil | refine over_put rfl ?_ | refine over_drop rfl ?_)
              · exact fun w h => h
              · exact ⟨⟨ha2.next hkid hlt, hs2.swp (by omega) (by omega) hm5⟩, by omega⟩
          · refine tr_skip ?_
            refine tx_then ?_
            refine tr_seq ?_
            refine tr_seq ?_
            have hkid := kid_l (l := l2) (k := q) (by omega) (fun h9 => by first | exact absurd h9.2 (by assumption) | (have := h9.1; omega))
            refine tr_region ?_
            refine tl_step rfl (oj_val (y_move (fe_t rfl)) ?_)
            refine tl_step rfl (oj_val (y_move (fe_t rfl)) ?_)
            refine tl_step rfl (oj_val (y_move (fe_t rfl)) ?_)
            refine tl_step rfl (oj_call2 Try.call123 fe_f (fel_cons (fe_t rfl) (fel_cons (fe_t rfl) (fel_cons (fe_t rfl) fel_nil))) (fun w' hS => lessE hl2 (pickT (l := [_, _, _]) hS [0, 1, 2] rfl (by decide)) (i := 2 * q + 1) (j := q) (by omega) (by omega)) (fun _ _ => ?_))
            refine tl_step rfl (oj_val (y_notp (fe_t rfl)) ?_)
            refine tl_nil ?_
            refine tx_then ?_
            refine tr_condp (fe_t rfl) (fun hq13 => ?_) (fun hq14 => ?_)
            · have hnl := hq13
              refine tr_ret ?_
              refine tx_then_ret ?_
              refine tx_in_ret ?_
              refine tx_then_ret ?_
              refine tx_in_ret ?_
              refine tx_ret (res0 Try.results96 ) (fun w' hS => ?_)
              have h1 := pickT (l := [_, _, _]) hS [0, 1, 2] rfl (by decide)
              exact ⟨(l2, m3), ⟨ha2.done hkid hnl, hs2⟩, rfl, h1⟩
            · have hlt := Decidable.not_not.1 hq14
              refine tr_skip ?_
              refine tx_then ?_
              refine tr_seq ?_
              refine tr_region ?_
              refine tl_step rfl (oj_val (y_move (fe_t rfl)) ?_)
              refine tl_step rfl (oj_val (y_move (fe_t rfl)) ?_)
              refine tl_step rfl (oj_val (y_move (fe_t rfl)) ?_)
              refine tl_step rfl (oj_call2 Try.call97 fe_f (fel_cons (fe_t rfl) (fel_cons (fe_t rfl) (fel_cons (fe_t rfl) fel_nil))) (fun w' hS => swapE hl2 hs2.inj hs2.map (pickT (l := [_, _, _]) hS [0, 1, 2] rfl (by decide)) (i := 2 * q + 1) (j := q) (by omega) (by omega)) (fun m5 hm5 => ?_))
              refine tl_nil ?_
              refine tx_then ?_
              refine tr_region ?_
              refine tl_step rfl (oj_val (y_move (fe_t rfl)) ?_)
              refine tl_step rfl (oj_val (y_assign (fe_t rfl)) ?_)
              refine tl_nil ?_
              refine tx_in ?_
              apply tx_back3 (2 * q + 1) (swp l2 (2 * q + 1) q) (m5)
              · exact (cov_cons (by first | rfl | exact v_int (by omega) | exact v_bool (by simp [*])) (cov_nil))
              · repeat (first | exact over_nil | refine over_put rfl ?_ | refine over_drop rfl ?_)
              · exact fun w h => h
              · exact ⟨⟨ha2.next hkid hlt, hs2.swp (by omega) (by omega) hm5⟩, by omega⟩
        · refine tl_skip rfl rfl rfl rfl ?_
          refine tl_skip rfl rfl rfl rfl ?_
          refine tl_skip rfl rfl rfl rfl ?_
          refine tl_skip rfl rfl rfl rfl ?_
          refine tl_skip rfl rfl rfl rfl ?_
          refine tl_step rfl (oj_val (y_pickf (fe_t rfl) fe_c) ?_)
          refine tl_nil ?_
          refine tx_then ?_
          refine tr_condf (fe_t rfl) ?_
          refine tr_skip ?_
          refine tx_then ?_
          refine tr_seq ?_
          refine tr_seq ?_
          have hkid := kid_l (l := l2) (k := q) (by omega) (fun h9 => by first | exact absurd h9.2 (by assumption) | (have := h9.1; omega))
          refine tr_region ?_
          refine tl_step rfl (oj_val (y_move (fe_t rfl)) ?_)
          refine tl_step rfl (oj_val (y_move (fe_t rfl)) ?_)
          refine tl_step rfl (oj_val (y_move (fe_t rfl)) ?_)
          refine tl_step rfl (oj_call2 Try.call123 fe_f (fel_cons (fe_t rfl) (fel_cons (fe_t rfl) (fel_cons (fe_t rfl) fel_nil))) (fun w' hS => lessE hl2 (pickT (l := [_, _, _]) hS [0, 1, 2] rfl (by decide)) (i := 2 * q + 1) (j := q) (by omega) (by omega)) (fun _ _ => ?_))
          refine tl_step rfl (oj_val (y_notp (fe_t rfl)) ?_)
          refine tl_nil ?_
          refine tx_then ?_
          refine tr_condp (fe_t rfl) (fun hq15 => ?_) (fun hq16 => ?_)
          · have hnl := hq15
            refine tr_ret ?_
            refine tx_then_ret ?_
            refine tx_in_ret ?_
            refine tx_then_ret ?_
            refine tx_in_ret ?_
            refine tx_ret (res0 Try.results96 ) (fun w' hS => ?_)
            have h1 := pickT (l := [_, _, _]) hS [0, 1, 2] rfl (by decide)
            exact ⟨(l2, m3), ⟨ha2.done hkid hnl, hs2⟩, rfl, h1⟩
          · have hlt := Decidable.not_not.1 hq16
            refine tr_skip ?_
            refine tx_then ?_
            refine tr_seq ?_
            refine tr_region ?_
            refine tl_step rfl (oj_val (y_move (fe_t rfl)) ?_)
            refine tl_step rfl (oj_val (y_move (fe_t rfl)) ?_)
            refine tl_step rfl (oj_val (y_move (fe_t rfl)) ?_)
            refine tl_step rfl (oj_call2 Try.call97 fe_f (fel_cons (fe_t rfl) (fel_cons (fe_t rfl) (fel_cons (fe_t rfl) fel_nil))) (fun w' hS => swapE hl2 hs2.inj hs2.map (pickT (l := [_, _, _]) hS [0, 1, 2] rfl (by decide)) (i := 2 * q + 1) (j := q) (by omega) (by omega)) (fun m5 hm5 => ?_))
            refine tl_nil ?_
            refine tx_then ?_
            refine tr_region ?_
            refine tl_step rfl (oj_val (y_move (fe_t rfl)) ?_)
            refine tl_step rfl (oj_val (y_assign (fe_t rfl)) ?_)
            refine tl_nil ?_
            refine tx_in ?_
            apply tx_back3 (2 * q + 1) (swp l2 (2 * q + 1) q) (m5)
            · exact (cov_cons (by first | rfl | exact v_int (by omega) | exact v_bool (by simp [*])) (cov_nil))
            · repeat (first | exact over_nil | refine over_put rfl ?_ | refine over_drop rfl ?_)
            · exact fun w h => h
            · exact ⟨⟨ha2.next hkid hlt, hs2.swp (by omega) (by omega) hm5⟩, by omega⟩
  · refine tl_skip rfl rfl rfl rfl ?_
    refine tl_skip rfl rfl rfl rfl ?_
    refine tl_skip rfl rfl rfl rfl ?_
    refine tl_skip rfl rfl rfl rfl ?_
    refine tl_skip rfl rfl rfl rfl ?_
    refine tl_skip rfl rfl rfl rfl ?_
    refine tl_step rfl (oj_val (y_pickf (fe_t rfl) fe_c) ?_)
    refine tl_nil ?_
    refine tx_then ?_
    refine tr_condf (fe_t rfl) ?_
    refine tr_exit ?_
    refine tx_then_exit ?_
    refine tx_then_exit ?_
    refine tx_in_exit ?_
    refine tx_then ?_
    refine tr_block ?_
    refine tr_loop3 [1, 4, 24, 25, 26, 27, 28, 29, 30, 31, 32, 33, 34, 35, 36, 37, 38, 39, 40, 41, 42, 43, 44, 45, 46, 47, 48, 49, 50, 51, 52, 53, 54, 55, 56, 57, 58, 59, 60] (fun (q : Nat) (l2 : List I3) (m3 : Mp) => [(1, .int .i64 (q : Int))]) 0 (fun (q : Nat) (l2 : List I3) (m3 : Mp) => [(1, vec 125 3 (.slice A n c) n (l2.flatMap cI3)), (2, mpR mb m3 [])]) (fun (q : Nat) (l2 : List I3) (m3 : Mp) => DH l2 q ∧ Same n l l2 m3) (fun (q : Nat) (l2 : List I3) (m3 : Mp) => n - q) (i) (l1) (m1) (cov_cons (by first | rfl | exact v_int (by omega) | exact v_bool (by simp [*])) (cov_nil)) (fun w h => h) ?_ ?_
    · try dsimp only
      exact ⟨ha1.down (fun h0 => by first | assumption | (exfalso; omega)), hs1⟩
    intro q l2 m3 hp
    obtain ⟨ha2, hs2⟩ := hp
    have hl2 := hs2.len
    have hi2 := ha2.lt
    refine tr_block ?_
    refine tr_seq ?_
    refine tr_region ?_
    refine tl_step rfl (oj_val (y_move (fe_t rfl)) ?_)
    refine tl_step rfl (oj_val (y_as (b := ((2 * q : Nat) : Int)) (y_mul fe_c (fe_t rfl) (by omega)) (by omega)) ?_)
    refine tl_step rfl (oj_val (y_as (b := ((2 * q + 1 : Nat) : Int)) (y_add (fe_t rfl) fe_c (by omega)) (by omega)) ?_)
    refine tl_step rfl (oj_val (y_assign (fe_t rfl)) ?_)
    refine tl_nil ?_
    refine tx_then ?_
    refine tr_seq ?_
    refine tr_seq ?_
    refine tr_region ?_
    refine tl_step rfl (oj_val (y_move (fe_t rfl)) ?_)
    refine tl_step rfl (oj_val (y_move (fe_t rfl)) ?_)
    refine tl_step rfl (oj_val (y_nilCheck (fe_t rfl)) ?_)
    refine tl_step rfl (oj_val (y_fieldAddr (td := 114) Try.underlying116 rfl rfl Try.sizeOf114 (o' := 0) rfl (fe_t rfl)) ?_)
    refine tl_step rfl (oj_val (y_ldb 0 Try.isAgg114 (fe_t rfl) rfl rfl) ?_)
    refine tl_step rfl (oj_val (y_len Try.underlying114 (fe_t rfl)) ?_)
    refine tl_step rfl (oj_val (y_geq (fe_t rfl) (fe_t rfl)) ?_)
    refine tl_nil ?_
    refine tx_then ?_
    refine tr_condp (fe_t rfl) (fun hq17 => ?_) (fun hq18 => ?_)
    · refine tr_ret ?_
      refine tx_then_ret ?_
      refine tx_in_ret ?_
      refine tx_then_ret ?_
      refine tx_in_ret ?_
      refine tx_ret (res0 Try.results96 ) (fun w' hS => ?_)
      have h1 := pickT (l := [_, _, _]) hS [0, 1, 2] rfl (by decide)
      exact ⟨(l2, m3), ⟨ha2.leaf (by omega), hs2⟩, rfl, h1⟩
    · refine tr_skip ?_
      refine tx_then ?_
      refine tr_seq ?_
      refine tr_seq ?_
      refine tr_region ?_
      refine tl_step rfl (oj_val (y_move (fe_t rfl)) ?_)
      refine tl_step rfl (oj_val (y_as (b := ((2 * q + 2 : Nat) : Int)) (y_add (fe_t rfl) fe_c (by omega)) (by omega)) ?_)
      refine tl_step rfl (oj_val (y_move (fe_t rfl)) ?_)
      refine tl_step rfl (oj_val (y_nilCheck (fe_t rfl)) ?_)
      refine tl_step rfl (oj_val (y_fieldAddr (td := 114) Try.underlying116 rfl rfl Try.sizeOf114 (o' := 0) rfl (fe_t rfl)) ?_)
      refine tl_step rfl (oj_val (y_ldb 0 Try.isAgg114 (fe_t rfl) rfl rfl) ?_)
      refine tl_step rfl (oj_val (y_len Try.underlying114 (fe_t rfl)) ?_)
      refine tl_step rfl (oj_val (y_lss (fe_t rfl) (fe_t rfl)) ?_)
      refine tl_step rfl (oj_val (y_move (fe_t rfl)) ?_)
      refine tl_splitp (d := 42) rfl (fun hq19 => ?_) (fun hq20 => ?_)
      · refine tl_want rfl rfl rfl (oj_val (y_move (fe_t rfl)) ?_)
        refine tl_want rfl rfl rfl (oj_val (y_move (fe_t rfl)) ?_)
        refine tl_want rfl rfl rfl (oj_val (y_as (b := ((2 * q + 2 : Nat) : Int)) (y_add (fe_t rfl) fe_c (by omega)) (by omega)) ?_)
        refine tl_want rfl rfl rfl (oj_val (y_move (fe_t rfl)) ?_)
        refine tl_want rfl rfl rfl (oj_call2 Try.call123 fe_f (fel_cons (fe_t rfl) (fel_cons (fe_t rfl) (fel_cons (fe_t rfl) fel_nil))) (fun w' hS => lessE hl2 (pickT (l := [_, _, _]) hS [0, 1, 2] rfl (by decide)) (i := 2 * q + 2) (j := 2 * q + 1) (by omega) (by omega)) (fun _ _ => ?_))
        refine tl_step rfl (oj_val (y_pickt (fe_t rfl) (fe_t rfl)) ?_)
        refine tl_nil ?_
        refine tx_then ?_
        refine tr_condp (fe_t rfl) (fun hq21 => ?_) (fun hq22 => ?_)
        · refine tr_region ?_
          refine tl_step rfl (oj_val (y_move (fe_t rfl)) ?_)
          refine tl_step rfl (oj_val (y_as (b := ((2 * q + 2 : Nat) : Int)) (y_add (fe_t rfl) fe_c (by omega)) (by omega)) ?_)
          refine tl_step rfl (oj_val (y_assign (fe_t rfl)) ?_)
          refine tl_nil ?_
          refine tx_then ?_
          refine tr_seq ?_
          refine tr_seq ?_
          have hkid := kid_r (l := l2) (k := q) (by omega) (by assumption)
          refine tr_region ?_
          refine tl_step rfl (oj_val (y_move (fe_t rfl)) ?_)
          refine tl_step rfl (oj_val (y_move (fe_t rfl)) ?_)
          refine tl_step rfl (oj_val (y_move (fe_t rfl)) ?_)
          refine tl_step rfl (oj_call2 Try.call123 fe_f (fel_cons (fe_t rfl) (fel_cons (fe_t rfl) (fel_cons (fe_t rfl) fel_nil))) (fun w' hS => lessE hl2 (pickT (l := [_, _, _]) hS [0, 1, 2] rfl (by decide)) (i := 2 * q + 2) (j := q) (by omega) (by omega)) (fun _ _ => ?_))
          refine tl_step rfl (oj_val (y_notp (fe_t rfl)) ?_)
          refine tl_nil ?_
          refine tx_then ?_
          refine tr_condp (fe_t rfl) (fun hq23 => ?_) (fun hq24 => ?_)
          · have hnl := hq23
            refine tr_ret ?_
            refine tx_then_ret ?_
            refine tx_in_ret ?_
            refine tx_then_ret ?_
            refine tx_in_ret ?_
            refine tx_ret (res0 Try.results96 ) (fun w' hS => ?_)
            have h1 := pickT (l := [_, _, _]) hS [0, 1, 2] rfl (by decide)
            exact ⟨(l2, m3), ⟨ha2.done hkid hnl, hs2⟩, rfl, h1⟩
          · have hlt := Decidable.not_not.1 hq24
            refine tr_skip ?_
            refine tx_then ?_
            refine tr_seq ?_
            refine tr_region ?_
            refine tl_step rfl (oj_val (y_move (fe_t rfl)) ?_)
            refine tl_step rfl (oj_val (y_move (fe_t rfl)) ?_)
            refine tl_step rfl (oj_val (y_move (fe_t rfl)) ?_)
            refine tl_step rfl (oj_call2 Try.call97 fe_f (fel_cons (fe_t rfl) (fel_cons (fe_t rfl) (fel_cons (fe_t rfl) fel_nil))) (fun w' hS => swapE hl2 hs2.inj hs2.map (pickT (l := [_, _, _]) hS [0, 1, 2] rfl (by decide)) (i := 2 * q + 2) (j := q) (by omega) (by omega)) (fun m5 hm5 => ?_))
            refine tl_nil ?_
            refine tx_then ?_
            refine tr_region ?_
            refine tl_step rfl (oj_val (y_move (fe_t rfl)) ?_)
            refine tl_step rfl (oj_val (y_assign (fe_t rfl)) ?_)
            refine tl_nil ?_
            refine tx_in ?_
            apply tx_back3 (2 * q + 2) (swp l2 (2 * q + 2) q) (m5)
            · exact (cov_cons (by first | rfl | exact v_int (by omega) | exact v_bool (by simp [*])) (cov_nil))
            · repeat (first | exact over_nil | refine over_put rfl ?_ | refine over_drop rfl ?_)
            · exact fun w h => h
            · exact ⟨⟨ha2.next hkid hlt, hs2.swp (by omega) (by omega) hm5⟩, by omega⟩
        · refine tr_skip ?_
          refine tx_then ?_
          refine tr_seq ?_
          refine tr_seq ?_
          have hkid := kid_l (l := l2) (k := q) (by omega) (fun h9 => by first | exact absurd h9.2 (by assumption) | (have := h9.1; omega))
          refine tr_region ?_
          refine tl_step rfl (oj_val (y_move (fe_t rfl)) ?_)
          refine tl_step rfl (oj_val (y_move (fe_t rfl)) ?_)
          refine tl_step rfl (oj_val (y_move (fe_t rfl)) ?_)
          refine tl_step rfl (oj_call2 Try.call123 fe_f (fel_cons (fe_t rfl) (fel_cons (fe_t rfl) (fel_cons (fe_t rfl) fel_nil))) (fun w' hS => lessE hl2 (pickT (l := [_, _, _]) hS [0, 1, 2] rfl (by decide)) (i := 2 * q + 1) (j := q) (by omega) (by omega)) (fun _ _ => ?_))
          refine tl_step rfl (oj_val (y_notp (fe_t rfl)) ?_)
          refine tl_nil ?_
          refine tx_then ?_
          refine tr_condp (fe_t rfl) (fun hq25 => ?_) (fun hq26 => ?_)
          · have hnl := hq25
            refine tr_ret ?_
            refine tx_then_ret ?_
            refine tx_in_ret ?_
            refine tx_then_ret ?_
            refine tx_in_ret ?_
            refine tx_ret (res0 Try.results96 ) (fun w' hS => ?_)
            have h1 := pickT (l := [_, _, _]) hS [0, 1, 2] rfl (by decide)
            exact ⟨(l2, m3), ⟨ha2.done hkid hnl, hs2⟩, rfl, h1⟩
          · have hlt := Decidable.not_not.1 hq26
            refine tr_skip ?_
            refine tx_then ?_
            refine tr_seq ?_
            refine tr_region ?_
            refine tl_step rfl (oj_val (y_move (fe_t rfl)) ?_)
            refine tl_step rfl (oj_val (y_move (fe_t rfl)) ?_)
            refine tl_step rfl (oj_val (y_move (fe_t rfl)) ?_)
            refine tl_step rfl (oj_call2 Try.call97 fe_f (fel_cons (fe_t rfl) (fel_cons (fe_t rfl) (fel_cons (fe_t rfl) fel_nil))) (fun w' hS => swapE hl2 hs2.inj hs2.map (pickT (l := [_, _, _]) hS [0, 1, 2] rfl (by decide)) (i := 2 * q + 1) (j := q) (by omega) (by omega)) (fun m5 hm5 => ?_))
            refine tl_nil ?_
            refine tx_then ?_
            refine tr_region ?_
            refine tl_step rfl (oj_val (y_move (fe_t rfl)) ?_)
            refine tl_step rfl (oj_val (y_assign (fe_t rfl)) ?_)
            refine tl_nil ?_
            refine tx_in ?_
            apply tx_back3 (2 * q + 1) (swp l2 (2 * q + 1) q) (m5)
            · exact (cov_cons (by first | rfl | exact v_int (by omega) | exact v_bool (by simp [*])) (cov_nil))
            · repeat (first | exact over_nil | refine over_put rfl ?_ | refine over_drop rfl ?_)
            · exact fun w h => h
            · exact ⟨⟨ha2.next hkid hlt, hs2.swp (by omega) (by omega) hm5⟩, by omega⟩
      · refine tl_skip rfl rfl rfl rfl ?_
        refine tl_skip rfl rfl rfl rfl ?_
        refine tl_skip rfl rfl rfl rfl ?_
        refine tl_skip rfl rfl rfl rfl ?_
        refine tl_skip rfl rfl rfl rfl ?_
        refine tl_step rfl (oj_val (y_pickf (fe_t rfl) fe_c) ?_)
        refine tl_nil ?_
        refine tx_then ?_
        refine tr_condf (fe_t rfl) ?_
        refine tr_skip ?_
        refine tx_then ?_
        refine tr_seq ?_
        refine tr_seq ?_
        have hkid := kid_l (l := l2) (k := q) (by omega) (fun h9 => by first | exact absurd h9.2 (by assumption) | (have := h9.1; omega))
        refine tr_region ?_
        refine tl_step rfl (oj_val (y_move (fe_t rfl)) ?_)
        refine tl_step rfl (oj_val (y_move (fe_t rfl)) ?_)
        refine tl_step rfl (oj_val (y_move (fe_t rfl)) ?_)
        refine tl_step rfl (oj_call2 Try.call123 fe_f (fel_cons (fe_t rfl) (fel_cons (fe_t rfl) (fel_cons (fe_t rfl) fel_nil))) (fun w' hS => lessE hl2 (pickT (l := [_, _, _]) hS [0, 1, 2] rfl (by decide)) (i := 2 * q + 1) (j := q) (by omega) (by omega)) (fun _ _ => ?_))
        refine tl_step rfl (oj_val (y_notp (fe_t rfl)) ?_)
        refine tl_nil ?_
        refine tx_then ?_
        refine tr_condp (fe_t rfl) (fun hq27 => ?_) (fun hq28 => ?_)
        · have hnl := hq27
          refine tr_ret ?_
          refine tx_then_ret ?_
          refine tx_in_ret ?_
          refine tx_then_ret ?_
          refine tx_in_ret ?_
          refine tx_ret (res0 Try.results96 ) (fun w' hS => ?_)
          have h1 := pickT (l := [_, _, _]) hS [0, 1, 2] rfl (by decide)
          exact ⟨(l2, m3), ⟨ha2.done hkid hnl, hs2⟩, rfl, h1⟩
        · have hlt := Decidable.not_not.1 hq28
          refine tr_skip ?_
          refine tx_then ?_
          refine tr_seq ?_
          refine tr_region ?_
          refine tl_step rfl (oj_val (y_move (fe_t rfl)) ?_)
          refine tl_step rfl (oj_val (y_move (fe_t rfl)) ?_)
          refine tl_step rfl (oj_val (y_move (fe_t rfl)) ?_)
          refine tl_step rfl (oj_call2 Try.call97 fe_f (fel_cons (fe_t rfl) (fel_cons (fe_t rfl) (fel_cons (fe_t rfl) fel_nil))) (fun w' hS => swapE hl2 hs2.inj hs2.map (pickT (l := [_, _, _]) hS [0, 1, 2] rfl (by decide)) (i := 2 * q + 1) (j := q) (by omega) (by omega)) (fun m5 hm5 => ?_))
          refine tl_nil ?_
          refine tx_then ?_
          refine tr_region ?_
          refine tl_step rfl (oj_val (y_move (fe_t rfl)) ?_)
          refine tl_step rfl (oj_val (y_assign (fe_t rfl)) ?_)
          refine tl_nil ?_
          refine tx_in ?_
          apply tx_back3 (2 * q + 1) (swp l2 (2 * q + 1) q) (m5)
          · exact (cov_cons (by first | rfl | exact v_int (by omega) | exact v_bool (by simp [*])) (cov_nil))
          · repeat (first | exact over_nil | refine over_put rfl ?_ | refine over_drop rfl ?_)
          · exact fun w h => h
          · exact ⟨⟨ha2.next hkid hlt, hs2.swp (by omega) (by omega) hm5⟩, by omega⟩

end Go.Proofs.Ytpknjfeiiaopgaa.Heap
