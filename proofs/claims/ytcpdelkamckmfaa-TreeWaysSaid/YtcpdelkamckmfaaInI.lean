/- slices.Insert of one number at the first place. -/
import Derived.Test.YtcpdelkamckmfaaEV
import Derived.Test.YtcpdelkamckmfaaEU
import Derived.Test.YtcpdelkamckmfaaEC
namespace Go.Proofs.Ytcpdelkamckmfaa.E
open Go.RowKit

theorem cI_one {l : List Int} {n : Nat} {r : List Value} (h : l.length = n) : ∀ u ∈ (cI l ++ r).take n, u.oneCell' = true := fun u hu => by
  rw [List.take_left' (by simp [cI, h])] at hu
  simp only [cI, List.mem_map] at hu
  obtain ⟨z, _, rfl⟩ := hu
  rfl
theorem ins_room {l : List Int} {n : Nat} {x : Int} {v : Value} (h : l.length = n) (h0 : 0 < n) : (((cI l ++ [v]).take 1 ++ (cI l ++ [v]).take (min (n + 1) n) ++ (cI l ++ [v]).drop (1 + min (n + 1) n)).take 0 ++ [(.int .i64 x)].take (min 1 (n + 1)) ++ ((cI l ++ [v]).take 1 ++ (cI l ++ [v]).take (min (n + 1) n) ++ (cI l ++ [v]).drop (1 + min (n + 1) n)).drop (0 + min 1 (n + 1))) = cI (x :: l) := by
  have hl : (cI l).length = n := by simp [cI, h]
  rw [show min (n + 1) n = n by omega, show min 1 (n + 1) = 1 by omega, List.take_left' hl, List.drop_eq_nil_of_le (by simp [hl]; omega)]
  have h1 : ((cI l ++ [v]).take 1).length = 1 := by simp [hl]
  rw [List.append_nil, Nat.zero_add, List.drop_left' h1]
  rfl
theorem ins_grow {l : List Int} {n : Nat} {x : Int} (h : l.length = n) : (((List.replicate (n + 1) (Value.int .i64 0)).take 0 ++ [Value.int .i64 x].take (min 1 (n + 1)) ++ (List.replicate (n + 1) (Value.int .i64 0)).drop (0 + min 1 (n + 1))).take 1 ++ (cI l).take (min n n) ++ ((List.replicate (n + 1) (Value.int .i64 0)).take 0 ++ [Value.int .i64 x].take (min 1 (n + 1)) ++ (List.replicate (n + 1) (Value.int .i64 0)).drop (0 + min 1 (n + 1))).drop (1 + min n n)) = cI (x :: l) := by
  have hl : (cI l).length = n := by simp [cI, h]
  have e : (List.replicate (n + 1) (Value.int .i64 0)).take 0 ++ [Value.int .i64 x].take 1 ++ (List.replicate (n + 1) (Value.int .i64 0)).drop (0 + 1) = Value.int .i64 x :: List.replicate n (Value.int .i64 0) := by simp [List.replicate_succ]
  rw [show min n n = n by omega, show min 1 (n + 1) = 1 by omega, e, List.take_of_length_le (by omega : (cI l).length ≤ n), show 1 + n = n + 1 by omega, List.drop_succ_cons, List.drop_eq_nil_of_le (by simp)]
  simp [cI]
set_option maxRecDepth 100000 in
set_option maxHeartbeats 2000000 in
theorem insertE {w0 w : World} {T : List Res} {A : Option Addr} {n c vb : Nat} {l : List Int} {x : Int} (hS : St w0 w (vec 3 1 (.slice A n c) n (cI l) :: blk vb [(.int .i64 x)] :: T)) (hn : l.length = n) (h16 : n ≤ 1000) :
    Calls Try.prog 152 #[.slice A n c, (.int .i64 0), .slice (some ⟨vb, 0, none⟩) 1 1] w fun e w' => ∃ q : Vs, (q.n = n + 1 ∧ q.xs = cI (x :: l)) ∧ e = .returned (.slice q.A q.n q.c) ∧ St w0 w' (vec 3 1 (.slice q.A q.n q.c) q.n q.xs :: T) := by
  have hA : 0 < n → ∃ g o, A = some ⟨g, o, none⟩ := fun h => (hS.holds 0 _ rfl).addr h
  have hl0 : (cI l).length = n := by simp [cI, hn]
  refine calls_tr Try.func152 Try.ntmps152 rfl rfl hS ?_
  refine tr_seq ?_
  refine tr_region ?_
  refine tl_step rfl (oj_val (y_assign fe_c) ?_)
  refine tl_nil ?_
  refine tx_then ?_
  refine tr_seq ?_
  refine tr_region ?_
  refine tl_step rfl (oj_val (y_move (fe_t rfl)) ?_)
  refine tl_step rfl (oj_val (y_move (fe_t rfl)) ?_)
  refine tl_step rfl (oj_val (y_cutZ Try.underlying79 Try.sizeOf3 (fe_t rfl) (fe_t rfl)) ?_)
  refine tl_nil ?_
  refine tx_then ?_
  refine tr_seq ?_
  refine tr_region ?_
  refine tl_step rfl (oj_val (y_move (fe_t rfl)) ?_)
  refine tl_step rfl (oj_val (y_len Try.underlying79 (fe_t rfl)) ?_)
  refine tl_step rfl (oj_val (y_assign (fe_t rfl)) ?_)
  refine tl_nil ?_
  refine tx_then ?_
  refine tr_seq ?_
  refine tr_seq ?_
  refine tr_region ?_
  refine tl_step rfl (oj_val (y_move (fe_t rfl)) ?_)
  refine tl_step rfl (oj_val (y_eq (fe_t rfl) fe_c) ?_)
  refine tl_nil ?_
  refine tx_then ?_
  refine tr_condp (fe_t rfl) (fun hq1 => ?_) (fun hq2 => ?_)
  · exfalso; omega
  · try (exfalso; omega)
    all_goals
      refine tr_skip ?_
      refine tx_then ?_
      refine tr_seq ?_
      refine tr_region ?_
      refine tl_step rfl (oj_val (y_move (fe_t rfl)) ?_)
      refine tl_step rfl (oj_val (y_len Try.underlying79 (fe_t rfl)) ?_)
      refine tl_step rfl (oj_val (y_assign (fe_t rfl)) ?_)
      refine tl_nil ?_
      refine tx_then ?_
      refine tr_seq ?_
      refine tr_seq ?_
      refine tr_region ?_
      refine tl_step rfl (oj_val (y_move (fe_t rfl)) ?_)
      refine tl_step rfl (oj_val (y_move (fe_t rfl)) ?_)
      refine tl_step rfl (oj_val (y_eq (fe_t rfl) (fe_t rfl)) ?_)
      refine tl_nil ?_
      refine tx_then ?_
      refine tr_condp (fe_t rfl) (fun hq3 => ?_) (fun hq4 => ?_)
      · try (exfalso; omega)
        all_goals
          refine tr_seq ?_
          refine tr_region ?_
          refine tl_step rfl (oj_val (y_move (fe_t rfl)) ?_)
          refine tl_step rfl (oj_val (y_move (fe_t rfl)) ?_)
          refine tl_step rfl (oj_append (i := 0) (s := 1) (z := (.int .i64 0)) (bytes := 8) Try.underlying79 (by kernel_rfl) (fe_t rfl) (fe_t rfl) rfl (rdl_blk 1 rfl) rfl (by decide) (by first | exact oneI | exact oneF (fun _ => rfl) | exact fun u hu => List.all_eq_true.1 (show List.all _ (fun x => x.oneCell') = true from rfl) u hu | (intro u hu; revert u hu; simp [Value.oneCell'])) (by decide) ⟨by omega, by decide⟩ (fun Aa1 ca1 hca1 => ?_))
          refine tl_step rfl (oj_val (y_assign (fe_t rfl)) ?_)
          refine tl_nil ?_
          refine tx_then ?_
          refine tr_ret ?_
          refine tx_then_ret ?_
          refine tx_ret (res1 Try.results152 (rok_t rfl)) (fun w' hS => ?_)
          obtain rfl : l = [] := List.eq_nil_of_length_eq_zero (by omega)
          obtain rfl : n = 0 := by omega
          have h1 := pickT (l := [_, _]) hS [0] rfl (by decide)
          exact ⟨⟨_, _, _, _⟩, ⟨rfl, rfl⟩, rfl, h1⟩
      · try (exfalso; omega)
        all_goals
          obtain ⟨ga, o, rfl⟩ := hA (by omega)
          refine tr_skip ?_
          refine tx_then ?_
          refine tr_seq ?_
          refine tr_seq ?_
          refine tr_region ?_
          refine tl_step rfl (oj_val (y_move (fe_t rfl)) ?_)
          refine tl_step rfl (oj_val (y_move (fe_t rfl)) ?_)
          refine tl_step rfl (oj_val (y_add (fe_t rfl) (fe_t rfl) (by omega)) ?_)
          refine tl_step rfl (oj_val (y_move (fe_t rfl)) ?_)
          refine tl_step rfl (oj_val (y_cap Try.underlying79 (fe_t rfl)) ?_)
          refine tl_step rfl (oj_val (y_gtr (fe_t rfl) (fe_t rfl)) ?_)
          refine tl_nil ?_
          refine tx_then ?_
          refine tr_condp (fe_t rfl) (fun hq5 => ?_) (fun hq6 => ?_)
          · try (exfalso; omega)
            all_goals
              refine tr_seq ?_
              refine tr_region ?_
              refine tl_step rfl (oj_val (y_move (fe_t rfl)) ?_)
              refine tl_step rfl (oj_val (y_move (fe_t rfl)) ?_)
              refine tl_step rfl (oj_val (y_cutH (l := 0) Try.underlying79 Try.sizeOf3 (fe_t rfl) (fe_t rfl) (by omega)) ?_)
              refine tl_step rfl (oj_val (y_move (fe_t rfl)) ?_)
              refine tl_step rfl (oj_val (y_move (fe_t rfl)) ?_)
              refine tl_step rfl (oj_val (y_add (fe_t rfl) (fe_t rfl) (by omega)) ?_)
              refine tl_step rfl (oj_val (y_move (fe_t rfl)) ?_)
              refine tl_step rfl (oj_val (y_sub (fe_t rfl) (fe_t rfl) (by omega)) ?_)
              refine tl_step rfl (oj_appz (m := n + 1) (z := (.int .i64 0)) (bytes := 8) Try.underlying79 Try.underlying3 (by kernel_rfl) (fe_t rfl) (fe_i (by omega) rfl) rfl (by omega) (by omega) (by decide) (fun b9 c9 hc9 => ?_))
              refine tl_step rfl (oj_val (y_assign (fe_t rfl)) ?_)
              refine tl_nil ?_
              refine tx_then ?_
              refine tr_seq ?_
              refine tr_region ?_
              refine tl_step rfl (oj_val (y_move (fe_t rfl)) ?_)
              refine tl_step rfl (oj_val (y_move (fe_t rfl)) ?_)
              refine tl_step rfl (oj_val (y_cutZ Try.underlying79 Try.sizeOf3 (fe_t rfl) (fe_t rfl)) ?_)
              refine tl_step rfl (oj_val (y_move (fe_t rfl)) ?_)
              refine tl_step rfl (oj_copyV (lo := 0) 0 Try.underlying79 (by kernel_rfl) (fe_t rfl) (fe_t rfl) rfl (rdl_blk 2 rfl) (by first | (simp; done) | (simp; omega)) (by omega) (by omega) (fun u hu => by have := List.mem_of_mem_take hu; simp at this; subst this; rfl) (?_))
              refine tl_nil ?_
              refine tx_then ?_
              refine tr_seq ?_
              refine tr_draw (sel _ [1, 2]) (fun w h => h.sel _ rfl (by decide)) rfl ?_
              refine ta_float (i := 0) rfl (by kernel_rfl) (wants_none rfl) (yq_of (y_move (fe_t rfl))) ?_
              refine ta_float (i := 1) rfl (by kernel_rfl) (wants_none rfl) (yq_of (y_move (fe_t rfl))) ?_
              refine ta_float (i := 2) rfl (by kernel_rfl) (wants_none rfl) (yq_of (y_move (fe_t rfl))) ?_
              refine ta_float (i := 3) rfl (by kernel_rfl) (wants_none rfl) (yq_of (y_add (fe_t rfl) (fe_t rfl) (by omega))) ?_
              refine ta_float (i := 4) rfl (by kernel_rfl) (wants_none rfl) (yq_of (y_cutT 1 Try.underlying79 Try.sizeOf3 (fe_t rfl) (fe_i (by omega) rfl) (by omega) (by omega))) ?_
              refine ta_float (i := 5) rfl (by kernel_rfl) (wants_none rfl) (yq_of (y_move (fe_t rfl))) ?_
              refine ta_float (i := 6) rfl (by kernel_rfl) (wants_none rfl) (yq_of (y_move (fe_t rfl))) ?_
              refine ta_float (i := 7) rfl (by kernel_rfl) (wants_none rfl) (yq_of (y_cutZ Try.underlying79 Try.sizeOf3 (fe_t rfl) (fe_t rfl))) ?_
              refine ta_one (i := 8) rfl (by kernel_rfl) (wants_none rfl) (oj_copyV (lo := 1) 0 Try.underlying79 (by kernel_rfl) (fe_t rfl) (fe_t rfl) rfl (rdl_vec 1 rfl) (by first | (simp [cI, hn]; done) | (simp [cI, hn]; omega)) (by omega) (by omega) (fun u hu => cI_one (r := []) hn u (by rw [List.append_nil]; simpa using hu)) (⟨fun w h => h.pick [1, 2] _ rfl (by decide), ?_⟩))
              refine ta_done (by kernel_rfl) ?_
              refine tx_then ?_
              refine tr_seq ?_
              refine tr_region ?_
              refine tl_step rfl (oj_val (y_move (fe_t rfl)) ?_)
              refine tl_step rfl (oj_val (y_assign (fe_t rfl)) ?_)
              refine tl_nil ?_
              refine tx_then ?_
              refine tr_ret ?_
              refine tx_then_ret ?_
              refine tx_ret (res1 Try.results152 (rok_t rfl)) (fun w' hS => ?_)
              have h1 := pickT (l := [_, _, _]) hS [0] rfl (by decide)
              exact ⟨⟨_, n + 1, _, cI (x :: l)⟩, ⟨rfl, rfl⟩, rfl, by rw [← ins_grow (x := x) hn]; exact h1⟩
          · try (exfalso; omega)
            all_goals
              refine tr_skip ?_
              refine tx_then ?_
              refine tr_seq ?_
              refine tr_region ?_
              refine tl_step rfl (oj_val (y_move (fe_t rfl)) ?_)
              refine tl_step rfl (oj_val (y_move (fe_t rfl)) ?_)
              refine tl_step rfl (oj_val (y_move (fe_t rfl)) ?_)
              refine tl_step rfl (oj_val (y_add (fe_t rfl) (fe_t rfl) (by omega)) ?_)
              refine tl_step rfl (oj_val (y_cutH (l := n + 1) Try.underlying79 Try.sizeOf3 (fe_t rfl) (fe_i (by omega) rfl) (by omega)) ?_)
              refine tl_step rfl (oj_val (y_assign (fe_t rfl)) ?_)
              refine tl_nil ?_
              refine tx_then ?_
              refine tr_seq ?_
              refine tr_seq ?_
              refine tr_spare 0 rfl (by omega) (fun v => ?_)
              refine tr_region ?_
              refine tl_step rfl (oj_val (y_move (fe_t rfl)) ?_)
              refine tl_step rfl (oj_val (y_move (fe_t rfl)) ?_)
              refine tl_step rfl (oj_val (y_move (fe_t rfl)) ?_)
              refine tl_step rfl (oj_val (y_move (fe_t rfl)) ?_)
              refine tl_step rfl (oj_val (y_add (fe_t rfl) (fe_t rfl) (by omega)) ?_)
              refine tl_step rfl (oj_val (y_cutT 1 Try.underlying79 Try.sizeOf3 (fe_t rfl) (fe_i (by omega) rfl) (by omega) (by omega)) ?_)
              refine tl_step rfl (oj_val (y_extS (fun w hS => by rw [run_callFunc_extern Try.func181 (by kernel_rfl) (by kernel_rfl) (by kernel_rfl) (e := Extern.SlicesOverlaps.overlaps #[79, 79] #[4]) (by kernel_rfl), apart hS (i := 0) (j := 1) rfl rfl (by decide) (by omega) Try.underlying79 Try.sizeOf3 1]; rfl) fe_f (fel_cons (fe_t rfl) (fel_cons (fe_t rfl) fel_nil))) ?_)
              refine tl_step rfl (oj_val (y_not (fe_t rfl)) ?_)
              refine tl_nil ?_
              refine tx_then ?_
              refine tr_condt (fe_t rfl) ?_
              refine tr_seq ?_
              refine tr_draw (sel _ [1]) (fun w h => h.sel _ rfl (by decide)) rfl ?_
              refine ta_float (i := 0) rfl (by kernel_rfl) (wants_none rfl) (yq_of (y_move (fe_t rfl))) ?_
              refine ta_float (i := 1) rfl (by kernel_rfl) (wants_none rfl) (yq_of (y_move (fe_t rfl))) ?_
              refine ta_float (i := 2) rfl (by kernel_rfl) (wants_none rfl) (yq_of (y_move (fe_t rfl))) ?_
              refine ta_float (i := 3) rfl (by kernel_rfl) (wants_none rfl) (yq_of (y_add (fe_t rfl) (fe_t rfl) (by omega))) ?_
              refine ta_float (i := 4) rfl (by kernel_rfl) (wants_none rfl) (yq_of (y_cutT 1 Try.underlying79 Try.sizeOf3 (fe_t rfl) (fe_i (by omega) rfl) (by omega) (by omega))) ?_
              refine ta_float (i := 5) rfl (by kernel_rfl) (wants_none rfl) (yq_of (y_move (fe_t rfl))) ?_
              refine ta_float (i := 6) rfl (by kernel_rfl) (wants_none rfl) (yq_of (y_move (fe_t rfl))) ?_
              refine ta_float (i := 7) rfl (by kernel_rfl) (wants_none rfl) (yq_of (y_cutZ Try.underlying79 Try.sizeOf3 (fe_t rfl) (fe_t rfl))) ?_
              refine ta_one (i := 8) rfl (by kernel_rfl) (wants_none rfl) (oj_copyV (lo := 1) 0 Try.underlying79 (by kernel_rfl) (fe_t rfl) (fe_t rfl) rfl (rdl_vec 0 rfl) (by first | (simp [cI, hn]; done) | (simp [cI, hn]; omega)) (by omega) (by omega) (fun u hu => cI_one hn u (by rw [show min (n + 1) (n + 1 - 1) = n by omega] at hu; exact hu)) (⟨fun w h => h.pick [1] _ rfl (by decide), ?_⟩))
              refine ta_done (by kernel_rfl) ?_
              refine tx_then ?_
              refine tr_seq ?_
              refine tr_region ?_
              refine tl_step rfl (oj_val (y_move (fe_t rfl)) ?_)
              refine tl_step rfl (oj_val (y_move (fe_t rfl)) ?_)
              refine tl_step rfl (oj_val (y_cutZ Try.underlying79 Try.sizeOf3 (fe_t rfl) (fe_t rfl)) ?_)
              refine tl_step rfl (oj_val (y_move (fe_t rfl)) ?_)
              refine tl_step rfl (oj_copyV (lo := 0) 0 Try.underlying79 (by kernel_rfl) (fe_t rfl) (fe_t rfl) rfl (rdl_blk 1 rfl) (by first | (simp; done) | (simp; omega)) (by omega) (by omega) (fun u hu => by have := List.mem_of_mem_take hu; simp at this; subst this; rfl) (?_))
              refine tl_nil ?_
              refine tx_then ?_
              refine tr_seq ?_
              refine tr_region ?_
              refine tl_step rfl (oj_val (y_move (fe_t rfl)) ?_)
              refine tl_step rfl (oj_val (y_assign (fe_t rfl)) ?_)
              refine tl_nil ?_
              refine tx_then ?_
              refine tr_ret ?_
              refine tx_then_ret ?_
              refine tx_ret (res1 Try.results152 (rok_t rfl)) (fun w' hS => ?_)
              have h1 := pickT (l := [_, _]) hS [0] rfl (by decide)
              exact ⟨⟨_, n + 1, _, cI (x :: l)⟩, ⟨rfl, rfl⟩, rfl, by rw [← ins_room (x := x) (v := v) hn (by omega)]; exact h1⟩
end Go.Proofs.Ytcpdelkamckmfaa.E
