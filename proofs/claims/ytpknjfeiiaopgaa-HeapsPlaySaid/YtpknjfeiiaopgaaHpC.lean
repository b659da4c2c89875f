/- Walks: take. -/
import Derived.Test.YtpknjfeiiaopgaaHpB
import Derived.Test.YtpknjfeiiaopgaaHpR
namespace Go.Proofs.Ytpknjfeiiaopgaa.Heap
open Go.RowKit Go.Proofs.Ytpknjfeiiaopgaa.E Go.Proofs.Ytpknjfeiiaopgaa.Big

set_option maxRecDepth 100000 in
set_option maxHeartbeats 8000000 in
theorem takeE {w0 w : World} {T : List Res} {hb mb n c : Nat} {A : Option Addr} {l : List I3} {m : Mp} (hn : l.length = n + 1) (hin : Inj l) (hmo : MapOk l m) (hS : St w0 w (blk hb [.slice A (n + 1) c, .map (some mb)] :: vec 125 3 (.slice A (n + 1) c) (n + 1) (l.flatMap cI3) :: mpR mb m [] :: T)) {k : Nat} (hk : k ≤ n) (hp : Hp l) (hnb : n + 1 ≤ 4398046511104) :
    Calls Try.prog 63 #[.pointer (some ⟨hb, 0, none⟩), (.int .i64 ((k : Int)))] w fun e w' => ∃ q : List I3 × Mp, (Hp q.1 ∧ q.1.length = n ∧ Inj q.1 ∧ MapOk q.1 q.2 ∧ ∀ x, x ∈ q.1 ↔ x ∈ l ∧ x ≠ gl l k) ∧ e = .returned (.agg #[(.int .i64 ((gl l k).1)), .int .u64 (gl l k).2.1, .int .u64 (gl l k).2.2]) ∧ St w0 w' (blk hb [.slice A n c, .map (some mb)] :: vec 125 3 (.slice A n c) n (q.1.flatMap cI3) :: mpR mb q.2 [] :: T) := by
  refine calls_tr Try.func63 Try.ntmps63 rfl rfl hS ?_
  refine tr_seq ?_
  refine tr_pure (vec_cap 1 rfl) (fun hcap => ?_)
  refine tr_region ?_
  refine tl_step rfl (oj_alloc Try.zeroValue125 (fun bx => ?_))
  refine tl_nil ?_
  refine tx_then ?_
  refine tr_seq ?_
  refine tr_region ?_
  refine tl_step rfl (oj_val (y_move (fe_t rfl)) ?_)
  refine tl_step rfl (oj_val (y_nilCheck (fe_t rfl)) ?_)
  refine tl_step rfl (oj_val (y_fieldAddr (td := 114) Try.underlying116 rfl rfl Try.sizeOf114 (o' := 0) rfl (fe_t rfl)) ?_)
  refine tl_step rfl (oj_val (y_ldb 1 Try.isAgg114 (fe_t rfl) rfl rfl) ?_)
  refine tl_step rfl (oj_val (y_len Try.underlying114 (fe_t rfl)) ?_)
  refine tl_step rfl (oj_val (y_as (b := ((n : Nat) : Int)) (y_sub (fe_t rfl) fe_c (by omega)) (by omega)) ?_)
  refine tl_step rfl (oj_val (y_assign (fe_t rfl)) ?_)
  refine tl_nil ?_
  refine tx_then ?_
  refine tr_seq ?_
  refine tr_region ?_
  refine tl_step rfl (oj_val (y_move (fe_t rfl)) ?_)
  refine tl_step rfl (oj_val (y_move (fe_t rfl)) ?_)
  refine tl_step rfl (oj_val (y_move (fe_t rfl)) ?_)
  refine tl_step rfl (oj_call2 Try.call97 fe_f (fel_cons (fe_t rfl) (fel_cons (fe_t rfl) (fel_cons (fe_t rfl) fel_nil))) (fun w' hS => swapE hn hin hmo (pickT (l := [_, _, _, _]) hS [1, 2, 3, 0] rfl (by decide)) (i := k) (j := n) (by omega) (by omega)) (fun m4 hm4 => ?_))
  refine tl_nil ?_
  refine tx_then ?_
  refine tr_seq ?_
  have hl1 : (swp l k n).length = n + 1 := by rw [swp_len]; exact hn
  refine tr_region ?_
  refine tl_step rfl (oj_val (y_move (fe_t rfl)) ?_)
  refine tl_step rfl (oj_val (y_nilCheck (fe_t rfl)) ?_)
  refine tl_step rfl (oj_val (y_fieldAddr (td := 114) Try.underlying116 rfl rfl Try.sizeOf114 (o' := 0) rfl (fe_t rfl)) ?_)
  refine tl_step rfl (oj_val (y_ldb 0 Try.isAgg114 (fe_t rfl) rfl rfl) ?_)
  refine tl_step rfl (oj_val (y_move (fe_t rfl)) ?_)
  refine tl_step rfl (oj_val (y_index Try.underlying114 Try.sizeOf125 (fe_t rfl) (fe_t rfl) (rdl_vec 1 rfl) (by rw [flat_len hcI, hl1]) (by decide) (by omega) rfl) ?_)
  refine tl_step rfl (oj_val (y_ldA (cs := cI3 (gl (swp l k n) n)) Try.isAgg125 Try.sizeOf125 (fe_t rfl) (rdl_vec 1 rfl) rfl (by decide) (flatGA (d := d3) hcI (by omega))) ?_)
  refine tl_step rfl (oj_alloc Try.zeroValue125 (fun bt => ?_))
  refine tl_step rfl (oj_storeW 0 Try.sizeOf125 (fe_t rfl) (fe_t rfl) rfl rfl rfl rfl rfl (?_))
  refine tl_nil ?_
  refine tx_then ?_
  refine tr_seq ?_
  refine tr_region ?_
  refine tl_step rfl (oj_val (y_move (fe_t rfl)) ?_)
  refine tl_step rfl (oj_val (y_move (fe_t rfl)) ?_)
  refine tl_step rfl (oj_val (y_nilCheck (fe_t rfl)) ?_)
  refine tl_step rfl (oj_val (y_fieldAddr (td := 114) Try.underlying116 rfl rfl Try.sizeOf114 (o' := 0) rfl (fe_t rfl)) ?_)
  refine tl_step rfl (oj_val (y_ldb 1 Try.isAgg114 (fe_t rfl) rfl rfl) ?_)
  refine tl_step rfl (oj_val (y_move (fe_t rfl)) ?_)
  refine tl_step rfl (oj_val (y_cutH (l := n) Try.underlying114 Try.sizeOf125 (fe_t rfl) (fe_t rfl) (by omega)) ?_)
  refine tl_step rfl (oj_val (y_nilCheck (fe_t rfl)) ?_)
  refine tl_step rfl (oj_val (y_fieldAddr (td := 114) Try.underlying116 rfl rfl Try.sizeOf114 (o' := 0) rfl (fe_t rfl)) ?_)
  refine tl_step rfl (oj_store1 1 Try.sizeOf114 (fe_t rfl) (fe_t rfl) rfl rfl rfl rfl (?_))
  refine tl_nil ?_
  refine tx_then ?_
  refine tr_seq ?_
  refine tr_pure (mp_nodup 3 rfl) (fun hnd => ?_)
  obtain ⟨hc1, hc2, hc3, hc4, hc5⟩ := cut_facts hn hk hin hm4 hnd
  refine tr_shrink (m := n) 2 rfl (by omega) ?_
  refine tr_as (r' := vec 125 3 (.slice A n c) n (((swp l k n).take n).flatMap cI3)) 2 rfl (congrArg (vec _ _ _ _) (flat_tk _ _)) ?_
  refine tb_draw 6 (sel _ [0, 1, 2, 4]) (fun w h => h.sel _ rfl (by decide)) rfl ?_
  refine tb_float (i := 0) rfl (by kernel_rfl) rfl (wants_none rfl) (yq_of (y_move (fe_t rfl))) ?_
  refine tb_float (i := 1) rfl (by kernel_rfl) rfl (wants_none rfl) (yq_of (y_nilCheck (fe_t rfl))) ?_
  refine tb_float (i := 2) rfl (by kernel_rfl) rfl (wants_none rfl) (yq_of (y_fieldAddr (td := 113) Try.underlying116 rfl rfl Try.sizeOf113 (o' := 1) rfl (fe_t rfl))) ?_
  refine tb_float (i := 3) rfl (by kernel_rfl) rfl (wants_none rfl) (yq_of (y_ldb 1 Try.isAgg113 (fe_t rfl) rfl rfl)) ?_
  refine tb_float (i := 4) rfl (by kernel_rfl) rfl (wants_none rfl) (yq_of (y_fieldAddr (td := 3) Try.underlying125 rfl rfl Try.sizeOf3 (o' := 0) rfl (fe_t rfl))) ?_
  refine tb_float (i := 5) rfl (by kernel_rfl) rfl (wants_none rfl) (yq_of (y_ldb 0 Try.isAgg3 (fe_t rfl) rfl rfl)) ?_
  refine tb_one2 (i := 6) rfl (by kernel_rfl) (by kernel_rfl) (wants_none rfl) (oj_mapDel 3 Try.underlying113 Try.underlying3 (fe_t rfl) (fe_t rfl) rfl (⟨fun w h => h.pick [0, 1, 2, 4] _ rfl (by decide), ?_⟩))
  refine tb_done (by kernel_rfl) ?_
  refine tx_then ?_
  refine tr_seq ?_
  refine tr_seq ?_
  refine tr_region ?_
  refine tl_step rfl (oj_val (y_move (fe_t rfl)) ?_)
  refine tl_step rfl (oj_val (y_move (fe_t rfl)) ?_)
  refine tl_step rfl (oj_val (y_lss (fe_t rfl) (fe_t rfl)) ?_)
  refine tl_nil ?_
  refine tx_then ?_
  refine tr_condp (fe_t rfl) (fun hq1 => ?_) (fun hq2 => ?_)
  · refine tr_region ?_
    refine tl_step rfl (oj_val (y_move (fe_t rfl)) ?_)
    refine tl_step rfl (oj_val (y_move (fe_t rfl)) ?_)
    refine tl_step rfl (oj_call2 Try.call96 fe_f (fel_cons (fe_t rfl) (fel_cons (fe_t rfl) fel_nil)) (fun w' hS => fixE hc1 hc2 hc3 (pickT (l := [_, _, _, _, _]) hS [1, 2, 3, 0, 4] rfl (by decide)) (i0 := k) (AH.cut hp (by omega) (by omega)) (by omega)) (fun q7 hq7 => ?_))
    refine tl_nil ?_
    refine tx_then ?_
    refine tr_seq ?_
    refine tr_region ?_
    refine tl_step rfl (oj_val (y_ldbA 3 Try.isAgg125 Try.sizeOf125 (fe_t rfl) rfl rfl rfl) ?_)
    refine tl_step rfl (oj_storeW 4 Try.sizeOf125 (fe_t rfl) (fe_t rfl) rfl rfl rfl rfl rfl (?_))
    refine tl_nil ?_
    refine tx_then ?_
    refine tr_ret ?_
    refine tx_ret (res1 Try.results63 (rok_b 4 Try.isAgg125 Try.sizeOf125 rfl rfl rfl)) (fun w' hS => ?_)
    have h1 := pickT (l := [_, _, _, _, _]) hS [0, 1, 2] rfl (by decide)
    exact ⟨q7, ⟨hq7.1, hq7.2.len, hq7.2.inj, hq7.2.map, fun x => (hq7.2.mem x).trans (hc5 x)⟩, by rw [← hc4]; rfl, h1⟩
  · refine tr_skip ?_
    refine tx_then ?_
    refine tr_seq ?_
    refine tr_region ?_
    refine tl_step rfl (oj_val (y_ldbA 0 Try.isAgg125 Try.sizeOf125 (fe_t rfl) rfl rfl rfl) ?_)
    refine tl_step rfl (oj_storeW 4 Try.sizeOf125 (fe_t rfl) (fe_t rfl) rfl rfl rfl rfl rfl (?_))
    refine tl_nil ?_
    refine tx_then ?_
    refine tr_ret ?_
    refine tx_ret (res1 Try.results63 (rok_b 4 Try.isAgg125 Try.sizeOf125 rfl rfl rfl)) (fun w' hS => ?_)
    have h1 := pickT (l := [_, _, _, _, _]) hS [1, 2, 3] rfl (by decide)
    have hkn : k = n := by omega
    have hp0 : Hp ((swp l k n).take n) := by
      rw [hkn, swp_self (by omega)]
      exact hp.take n
    exact ⟨((swp l k n).take n, _), ⟨hp0, hc1, hc2, hc3, hc5⟩, by rw [← hc4]; rfl, h1⟩

end Go.Proofs.Ytpknjfeiiaopgaa.Heap
