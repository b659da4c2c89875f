/- Walks: do. -/
import Derived.Test.YtpknjfeiiaopgaaHpC
import Derived.Test.YtpknjfeiiaopgaaHpO
namespace Go.Proofs.Ytpknjfeiiaopgaa.Heap
open Go.RowKit Go.Proofs.Ytpknjfeiiaopgaa.E Go.Proofs.Ytpknjfeiiaopgaa.Big

set_option maxRecDepth 100000 in
set_option maxHeartbeats 8000000 in
theorem doN {w0 w : World} {T : List Res} {hb mb n c : Nat} {A : Option Addr} {l : List I3} {m : Mp} {f : Tb} {o : Op4} (hg : Gd n l m f) (hmk : mget m o.id = none) (hS : St w0 w (blk hb [.slice A n c, .map (some mb)] :: vec 125 3 (.slice A n c) n (l.flatMap cI3) :: mpR mb m [] :: T)) (hnb : n + 1 ≤ 4398046511104) :
    Calls Try.prog 62 #[.pointer (some ⟨hb, 0, none⟩), .agg #[(.int .i64 o.kind), (.int .i64 o.id), .int .u64 o.hi, .int .u64 o.lo]] w fun e w' => ∃ r : Hd, (Gd r.n r.l r.m (nxt f o) ∧ r.n ≤ n + 1) ∧ e = .returned (.tuple #[(.int .i64 (pop f o)), (.int .i64 (err f o))]) ∧ St w0 w' (blk hb [.slice r.A r.n r.c, .map (some mb)] :: vec 125 3 (.slice r.A r.n r.c) r.n (r.l.flatMap cI3) :: mpR mb r.m [] :: T) := by
  have hn := hg.len
  refine calls_tr Try.func62 Try.ntmps62 rfl rfl hS ?_
  refine tr_seq ?_
  refine tr_region ?_
  refine tl_step rfl (oj_box (fe_t rfl) (fun bo => ?_))
  refine tl_step rfl (oj_val (y_assign fe_c) ?_)
  refine tl_step rfl (oj_val (y_assign fe_c) ?_)
  refine tl_nil ?_
  refine tx_then ?_
  refine tr_seq ?_
  refine tb_draw 12 (sel _ [0, 1, 2, 3]) (fun w h => h.sel _ rfl (by decide)) rfl ?_
  refine tb_float (i := 0) rfl (by kernel_rfl) rfl (wants_none rfl) (yq_of (y_move (fe_t rfl))) ?_
  refine tb_float (i := 1) rfl (by kernel_rfl) rfl (wants_none rfl) (yq_of (y_nilCheck (fe_t rfl))) ?_
  refine tb_float (i := 2) rfl (by kernel_rfl) rfl (wants_none rfl) (yq_of (y_fieldAddr (td := 113) Try.underlying116 rfl rfl Try.sizeOf113 (o' := 1) rfl (fe_t rfl))) ?_
  refine tb_float (i := 3) rfl (by kernel_rfl) rfl (wants_none rfl) (yq_of (y_ldb 1 Try.isAgg113 (fe_t rfl) rfl rfl)) ?_
  refine tb_float (i := 4) rfl (by kernel_rfl) rfl (wants_none rfl) (yq_of (y_fieldAddr (td := 3) Try.underlying121 rfl rfl Try.sizeOf3 (o' := 1) rfl (fe_t rfl))) ?_
  refine tb_float (i := 5) rfl (by kernel_rfl) rfl (wants_none rfl) (yq_of (y_ldb 0 Try.isAgg3 (fe_t rfl) rfl rfl)) ?_
  refine tb_float (i := 6) rfl (by kernel_rfl) rfl (wants_none rfl) (yq_of (y_lookup2n 3 Try.underlying113 Try.underlying3 Try.zeroValue3 (fe_t rfl) (fe_t rfl) rfl hmk)) ?_
  refine tb_float (i := 7) rfl (by kernel_rfl) rfl (wants_none rfl) (yq_of (y_move (fe_t rfl))) ?_
  refine tb_float (i := 8) rfl (by kernel_rfl) rfl (wants_none rfl) (yq_of (y_extract (fe_t rfl) rfl)) ?_
  refine tb_float (i := 9) rfl (by kernel_rfl) rfl (wants_none rfl) (yq_of (y_extract (fe_t rfl) rfl)) ?_
  refine tb_float (i := 10) rfl (by kernel_rfl) rfl (wants_none rfl) (yq_of (y_assign (fe_t rfl))) ?_
  refine tb_float (i := 11) rfl (by kernel_rfl) rfl (wants_none rfl) (yq_of (y_assign (fe_t rfl))) ?_
  refine tb_done (by kernel_rfl) ?_
  refine tx_then ?_
  refine tr_seq ?_
  refine tr_seq ?_
  refine tr_region ?_
  refine tl_step rfl (oj_val (y_fieldAddr (td := 3) Try.underlying121 rfl rfl Try.sizeOf3 (o' := 0) rfl (fe_t rfl)) ?_)
  refine tl_step rfl (oj_val (y_ldb 0 Try.isAgg3 (fe_t rfl) rfl rfl) ?_)
  refine tl_nil ?_
  refine tx_then ?_
  refine tr_block ?_
  refine tr_seq ?_
  refine tr_region ?_
  refine tl_step rfl (oj_val (y_eq (fe_t rfl) fe_c) ?_)
  refine tl_step rfl (oj_val (y_assign (fe_t rfl)) ?_)
  refine tl_nil ?_
  refine tx_then ?_
  refine tr_condp (fe_t rfl) (fun hq1 => ?_) (fun hq2 => ?_)
  · try (exfalso; omega)
    all_goals
      have hkd : o.kind = 1 := hq1
      refine tr_seq ?_
      refine tr_seq ?_
      refine tr_region ?_
      refine tl_step rfl (oj_val (y_move (fe_t rfl)) ?_)
      refine tl_nil ?_
      refine tx_then ?_
      refine tr_condf (fe_t rfl) ?_
      refine tr_skip ?_
      refine tx_then ?_
      refine tr_seq ?_
      refine tb_draw 11 (sel _ [0, 3]) (fun w h => h.sel _ rfl (by decide)) rfl ?_
      refine tb_float (i := 0) rfl (by kernel_rfl) rfl (wants_none rfl) (yq_of (y_move (fe_t rfl))) ?_
      refine tb_float (i := 1) rfl (by kernel_rfl) rfl (wants_none rfl) (yq_of (y_move (fe_t rfl))) ?_
      refine tb_float (i := 2) rfl (by kernel_rfl) rfl (wants_none rfl) (yq_of (y_nilCheck (fe_t rfl))) ?_
      refine tb_float (i := 3) rfl (by kernel_rfl) rfl (wants_none rfl) (yq_of (y_fieldAddr (td := 114) Try.underlying116 rfl rfl Try.sizeOf114 (o' := 0) rfl (fe_t rfl))) ?_
      refine tb_float1 (i := 4) rfl (by kernel_rfl) (by kernel_rfl) rfl (wants_none rfl) (yq_of (y_ldb 1 Try.isAgg114 (fe_t rfl) rfl rfl)) ?_
      refine tb_float (i := 5) rfl (by kernel_rfl) rfl (wants_none rfl) (yq_of (y_fieldAddr (td := 3) Try.underlying121 rfl rfl Try.sizeOf3 (o' := 1) rfl (fe_t rfl))) ?_
      refine tb_float (i := 6) rfl (by kernel_rfl) rfl (wants_none rfl) (yq_of (y_ldb 0 Try.isAgg3 (fe_t rfl) rfl rfl)) ?_
      refine tb_float (i := 7) rfl (by kernel_rfl) rfl (wants_none rfl) (yq_of (y_fieldAddr (td := 119) Try.underlying121 rfl rfl Try.sizeOf119 (o' := 2) rfl (fe_t rfl))) ?_
      refine tb_float (i := 8) rfl (by kernel_rfl) rfl (wants_none rfl) (yq_of (y_ldbA 0 Try.isAgg119 Try.sizeOf119 (fe_t rfl) rfl rfl rfl)) ?_
      refine tb_float (i := 9) rfl (by kernel_rfl) rfl (wants_none rfl) (yq_of ((fun {u0 u1 u2} hx hb => y_build (is := [0, 1]) (vs := [u0, .agg #[u1, u2]]) (cs := [u0, u1, u2]) rfl hx hb) (fel_cons (fe_t rfl) (fel_cons (fe_t rfl) fel_nil)) (by kernel_rfl))) ?_
      refine tb_one1 (i := 10) rfl (by kernel_rfl) (by kernel_rfl) (wants_none rfl) (oj_slice1 Try.underlying114 Try.sizeOf125 Try.zeroValue125 (fe_t rfl) (by decide) rfl (fun bi => ⟨fun w h => pickT (l := [_, _, _, _, _]) h [1, 2, 3, 4] rfl (by decide), ?_⟩))
      refine tb_one2 (i := 11) rfl (by kernel_rfl) (by kernel_rfl) (wants_none rfl) (oj_appendB (i := 3) (s := 3) (z := (.agg #[.int .i64 0, .int .u64 0, .int .u64 0])) (bytes := 24) Try.underlying114 (by kernel_rfl) (fe_t rfl) (fe_t rfl) rfl (rdl_blk 0 rfl) rfl (by decide) (by first | exact oneI | exact oneF (fun _ => rfl) | exact fun u hu => List.all_eq_true.1 (show List.all _ (fun x => x.oneCell') = true from rfl) u hu | (intro u hu; revert u hu; simp [Value.oneCell'])) (by decide) ⟨by omega, by decide⟩ (fun Aa1 ca1 hca1 => ⟨fun w h => h.pick [1, 4] _ rfl (by decide), ?_⟩))
      refine tb_float (i := 12) rfl (by kernel_rfl) rfl (wants_none rfl) (yq_of (y_nilCheck (fe_t rfl))) ?_
      refine tb_float (i := 13) rfl (by kernel_rfl) rfl (wants_none rfl) (yq_of (y_fieldAddr (td := 114) Try.underlying116 rfl rfl Try.sizeOf114 (o' := 0) rfl (fe_t rfl))) ?_
      refine tb_one2 (i := 14) rfl (by kernel_rfl) (by kernel_rfl) (wants_none rfl) (oj_store1 2 Try.sizeOf114 (fe_t rfl) (fe_t rfl) rfl rfl rfl rfl (⟨fun w h => h.pick [1, 4] _ rfl (by decide), ?_⟩))
      refine tb_done (by kernel_rfl) ?_
      refine tx_then ?_
      refine tr_seq ?_
      refine tr_as (r' := vec 125 3 (.slice Aa1 (n + 1) ca1) (n + 1) ((l ++ [(o.id, o.hi, o.lo)]).flatMap cI3)) 3 rfl (congrArg (vec _ _ _ _) (by rw [List.flatMap_append]; rfl)) ?_
      obtain ⟨hi2, hm2, _⟩ := push_facts (x := (o.id, o.hi, o.lo)) hn hg.inj hg.map (hg.rf.no.1 (hg.no hmk))
      have hl1 : (l ++ [(o.id, o.hi, o.lo)]).length = n + 1 := by simp [hn]
      refine tb_draw 12 (sel _ [0, 1, 2, 3]) (fun w h => h.sel _ rfl (by decide)) rfl ?_
      refine tb_float (i := 0) rfl (by kernel_rfl) rfl (wants_none rfl) (yq_of (y_move (fe_t rfl))) ?_
      refine tb_float (i := 1) rfl (by kernel_rfl) rfl (wants_none rfl) (yq_of (y_nilCheck (fe_t rfl))) ?_
      refine tb_float (i := 2) rfl (by kernel_rfl) rfl (wants_none rfl) (yq_of (y_fieldAddr (td := 113) Try.underlying116 rfl rfl Try.sizeOf113 (o' := 1) rfl (fe_t rfl))) ?_
      refine tb_float (i := 3) rfl (by kernel_rfl) rfl (wants_none rfl) (yq_of (y_ldb 2 Try.isAgg113 (fe_t rfl) rfl rfl)) ?_
      refine tb_float (i := 4) rfl (by kernel_rfl) rfl (wants_none rfl) (yq_of (y_fieldAddr (td := 3) Try.underlying121 rfl rfl Try.sizeOf3 (o' := 1) rfl (fe_t rfl))) ?_
      refine tb_float (i := 5) rfl (by kernel_rfl) rfl (wants_none rfl) (yq_of (y_ldb 1 Try.isAgg3 (fe_t rfl) rfl rfl)) ?_
      refine tb_float (i := 6) rfl (by kernel_rfl) rfl (wants_none rfl) (yq_of (y_move (fe_t rfl))) ?_
      refine tb_float (i := 7) rfl (by kernel_rfl) rfl (wants_none rfl) (yq_of (y_nilCheck (fe_t rfl))) ?_
      refine tb_float (i := 8) rfl (by kernel_rfl) rfl (wants_none rfl) (yq_of (y_fieldAddr (td := 114) Try.underlying116 rfl rfl Try.sizeOf114 (o' := 0) rfl (fe_t rfl))) ?_
      refine tb_float (i := 9) rfl (by kernel_rfl) rfl (wants_none rfl) (yq_of (y_ldb 2 Try.isAgg114 (fe_t rfl) rfl rfl)) ?_
      refine tb_float (i := 10) rfl (by kernel_rfl) rfl (wants_none rfl) (yq_of (y_len Try.underlying114 (fe_t rfl))) ?_
      refine tb_float (i := 11) rfl (by kernel_rfl) rfl (wants_none rfl) (yq_of (y_as (b := ((n : Nat) : Int)) (y_sub (fe_t rfl) fe_c (by omega)) (by omega))) ?_
      refine tb_one2 (i := 12) rfl (by kernel_rfl) (by kernel_rfl) (wants_none rfl) (oj_mapPut 4 Try.underlying113 Try.underlying3 (fe_t rfl) (fe_t rfl) (fe_t rfl) rfl (.inl rfl) (⟨fun w h => h.pick [0, 1, 2, 3] _ rfl (by decide), ?_⟩))
      refine tb_done (by kernel_rfl) ?_
      refine tx_then ?_
      refine tr_region ?_
      refine tl_step rfl (oj_val (y_move (fe_t rfl)) ?_)
      refine tl_step rfl (oj_val (y_move (fe_t rfl)) ?_)
      refine tl_step rfl (oj_val (y_nilCheck (fe_t rfl)) ?_)
      refine tl_step rfl (oj_val (y_fieldAddr (td := 114) Try.underlying116 rfl rfl Try.sizeOf114 (o' := 0) rfl (fe_t rfl)) ?_)
      refine tl_step rfl (oj_val (y_ldb 2 Try.isAgg114 (fe_t rfl) rfl rfl) ?_)
      refine tl_step rfl (oj_val (y_len Try.underlying114 (fe_t rfl)) ?_)
      refine tl_step rfl (oj_val (y_as (b := ((n : Nat) : Int)) (y_sub (fe_t rfl) fe_c (by omega)) (by omega)) ?_)
      refine tl_step rfl (oj_call2 Try.call96 fe_f (fel_cons (fe_t rfl) (fel_cons (fe_t rfl) fel_nil)) (fun w' hS => fixE hl1 hi2 hm2 (pickT (l := [_, _, _, _, _]) hS [2, 3, 4, 0, 1] rfl (by decide)) (i0 := n) (by have h9 := AH.push hg.hp (o.id, o.hi, o.lo); rwa [hn] at h9) (by omega)) (fun q9 hq9 => ?_))
      refine tl_nil ?_
      refine tx_in ?_
      refine tx_then ?_
      refine tr_seq ?_
      refine tr_region ?_
      refine tl_step rfl (oj_val (y_assign fe_c) ?_)
      refine tl_step rfl (oj_val (y_assign fe_c) ?_)
      refine tl_nil ?_
      refine tx_then ?_
      refine tr_ret ?_
      refine tx_ret (res2 Try.results62 (rok_t rfl) (rok_t rfl)) (fun w' hS => ?_)
      have h1 := pickT (l := [_, _, _, _, _]) hS [0, 1, 2] rfl (by decide)
      obtain ⟨p1, p2, p3⟩ := good_1 (f := f) (o := o) hkd (hg.no hmk)
      exact ⟨⟨Aa1, n + 1, ca1, q9.1, q9.2⟩, ⟨by rw [p3]; exact hg.push (x := (o.id, o.hi, o.lo)) (hg.no hmk) hq9, by dsimp only; omega⟩, by (rw [p1, ← p2]) <;> rfl, h1⟩
  · try (exfalso; omega)
    all_goals
      refine tr_seq ?_
      refine tr_region ?_
      refine tl_step rfl (oj_val (y_eq (fe_t rfl) fe_c) ?_)
      refine tl_step rfl (oj_val (y_assign (fe_t rfl)) ?_)
      refine tl_nil ?_
      refine tx_then ?_
      refine tr_condp (fe_t rfl) (fun hq3 => ?_) (fun hq4 => ?_)
      · try (exfalso; omega)
        all_goals
          have hkd : o.kind = 2 := hq3
          refine tr_seq ?_
          refine tr_seq ?_
          refine tr_region ?_
          refine tl_step rfl (oj_val (y_move (fe_t rfl)) ?_)
          refine tl_step rfl (oj_val (y_nilCheck (fe_t rfl)) ?_)
          refine tl_step rfl (oj_val (y_fieldAddr (td := 114) Try.underlying116 rfl rfl Try.sizeOf114 (o' := 0) rfl (fe_t rfl)) ?_)
          refine tl_step rfl (oj_val (y_ldb 1 Try.isAgg114 (fe_t rfl) rfl rfl) ?_)
          refine tl_step rfl (oj_val (y_len Try.underlying114 (fe_t rfl)) ?_)
          refine tl_step rfl (oj_val (y_eq (fe_t rfl) fe_c) ?_)
          refine tl_nil ?_
          refine tx_then ?_
          refine tr_condp (fe_t rfl) (fun hq5 => ?_) (fun hq6 => ?_)
          · try (exfalso; omega)
            all_goals
              refine tr_seq ?_
              refine tr_region ?_
              refine tl_step rfl (oj_val (y_assign fe_c) ?_)
              refine tl_step rfl (oj_val (y_assign fe_c) ?_)
              refine tl_nil ?_
              refine tx_then ?_
              refine tr_ret ?_
              refine tx_then_ret ?_
              refine tx_in_ret ?_
              refine tx_then_ret ?_
              refine tx_ret (res2 Try.results62 (rok_t rfl) (rok_t rfl)) (fun w' hS => ?_)
              have h1 := pickT (l := [_, _, _, _]) hS [1, 2, 3] rfl (by decide)
              obtain ⟨p1, p2, p3⟩ := bad (f := f) (o := o) (err_2e hkd (hg.emp.2 (by omega))) (by decide)
              exact ⟨⟨A, n, c, l, m⟩, ⟨by rw [p3]; exact hg, Nat.le_succ _⟩, by rw [p1, ← p2], h1⟩
          · try (exfalso; omega)
            all_goals
              obtain ⟨n', rfl⟩ : ∃ n', n = n' + 1 := ⟨n - 1, by omega⟩
              refine tr_skip ?_
              refine tx_then ?_
              refine tr_seq ?_
              refine tr_region ?_
              refine tl_step rfl (oj_val (y_move (fe_t rfl)) ?_)
              refine tl_step rfl (oj_call2 Try.call63 fe_f (fel_cons (fe_t rfl) (fel_cons (fe_c (v := (.int .i64 (((0 : Nat) : Int))))) fel_nil)) (fun w' hS => takeE hn hg.inj hg.map (pickT (l := [_, _, _, _]) hS [1, 2, 3, 0] rfl (by decide)) (k := 0) (by omega) hg.hp (by omega)) (fun q13 hq13 => ?_))
              refine tl_step rfl (oj_val (y_field1 (f := _) (td := 3) Try.underlying125 rfl rfl Try.isAgg3 (fe_t rfl) rfl) ?_)
              refine tl_step rfl (oj_val (y_assign (fe_t rfl)) ?_)
              refine tl_step rfl (oj_val (y_assign fe_c) ?_)
              refine tl_nil ?_
              refine tx_then ?_
              refine tr_ret ?_
              refine tx_in_ret ?_
              refine tx_then_ret ?_
              refine tx_ret (res2 Try.results62 (rok_t rfl) (rok_t rfl)) (fun w' hS => ?_)
              have h1 := pickT (l := [_, _, _, _]) hS [0, 1, 2] rfl (by decide)
              obtain ⟨p1, p2, p3⟩ := good_2 (f := f) (o := o) hkd (fun h9 => by have := hg.emp.1 h9; omega)
              exact ⟨⟨A, n', c, q13.1, q13.2⟩, ⟨by rw [p3, hg.top (by omega)]; exact hg.cut (by omega) hq13, by dsimp only; omega⟩, by (rw [p1, ← p2, hg.top (by omega)]) <;> rfl, h1⟩
      · try (exfalso; omega)
        all_goals
          refine tr_seq ?_
          refine tr_seq ?_
          refine tr_region ?_
          refine tl_step rfl (oj_val (y_eq (fe_t rfl) fe_c) ?_)
          refine tl_step rfl (oj_val (y_assign (fe_t rfl)) ?_)
          refine tl_nil ?_
          refine tx_then ?_
          refine tr_condp (fe_t rfl) (fun hq7 => ?_) (fun hq8 => ?_)
          · try (exfalso; omega)
            all_goals
              refine tr_skip ?_
              refine tx_then ?_
              refine tr_condp (fe_t rfl) (fun hq9 => ?_) (fun hq10 => ?_)
              · try (exfalso; omega)
                all_goals
                  refine tr_seq ?_
                  refine tr_seq ?_
                  refine tr_region ?_
                  refine tl_step rfl (oj_val (y_move (fe_t rfl)) ?_)
                  refine tl_step rfl (oj_val (y_not (fe_t rfl)) ?_)
                  refine tl_nil ?_
                  refine tx_then ?_
                  refine tr_condt (fe_t rfl) ?_
                  refine tr_seq ?_
                  refine tr_region ?_
                  refine tl_step rfl (oj_val (y_assign fe_c) ?_)
                  refine tl_step rfl (oj_val (y_assign fe_c) ?_)
                  refine tl_nil ?_
                  refine tx_then ?_
                  refine tr_ret ?_
                  refine tx_then_ret ?_
                  refine tx_in_ret ?_
                  refine tx_then_ret ?_
                  refine tx_ret (res2 Try.results62 (rok_t rfl) (rok_t rfl)) (fun w' hS => ?_)
                  have h1 := pickT (l := [_, _, _, _]) hS [1, 2, 3] rfl (by decide)
                  obtain ⟨p1, p2, p3⟩ := bad (f := f) (o := o) (err_3n (by omega) (hg.no hmk)) (by decide)
                  exact ⟨⟨A, n, c, l, m⟩, ⟨by rw [p3]; exact hg, Nat.le_succ _⟩, by rw [p1, ← p2], h1⟩
              · try (exfalso; omega)
                all_goals
                  refine tr_seq ?_
                  refine tr_region ?_
                  refine tl_step rfl (oj_val (y_assign fe_c) ?_)
                  refine tl_step rfl (oj_val (y_assign fe_c) ?_)
                  refine tl_nil ?_
                  refine tx_then ?_
                  refine tr_ret ?_
                  refine tx_in_ret ?_
                  refine tx_then_ret ?_
                  refine tx_ret (res2 Try.results62 (rok_t rfl) (rok_t rfl)) (fun w' hS => ?_)
                  have h1 := pickT (l := [_, _, _, _]) hS [1, 2, 3] rfl (by decide)
                  obtain ⟨p1, p2, p3⟩ := bad (f := f) (o := o) (err_k (by omega)) (by decide)
                  exact ⟨⟨A, n, c, l, m⟩, ⟨by rw [p3]; exact hg, Nat.le_succ _⟩, by rw [p1, ← p2], h1⟩
          · try (exfalso; omega)
            all_goals
              refine tr_region ?_
              refine tl_step rfl (oj_val (y_eq (fe_t rfl) fe_c) ?_)
              refine tl_step rfl (oj_val (y_assign (fe_t rfl)) ?_)
              refine tl_nil ?_
              refine tx_then ?_
              refine tr_condp (fe_t rfl) (fun hq11 => ?_) (fun hq12 => ?_)
              · try (exfalso; omega)
                all_goals
                  refine tr_seq ?_
                  refine tr_seq ?_
                  refine tr_region ?_
                  refine tl_step rfl (oj_val (y_move (fe_t rfl)) ?_)
                  refine tl_step rfl (oj_val (y_not (fe_t rfl)) ?_)
                  refine tl_nil ?_
                  refine tx_then ?_
                  refine tr_condt (fe_t rfl) ?_
                  refine tr_seq ?_
                  refine tr_region ?_
                  refine tl_step rfl (oj_val (y_assign fe_c) ?_)
                  refine tl_step rfl (oj_val (y_assign fe_c) ?_)
                  refine tl_nil ?_
                  refine tx_then ?_
                  refine tr_ret ?_
                  refine tx_then_ret ?_
                  refine tx_in_ret ?_
                  refine tx_then_ret ?_
                  refine tx_ret (res2 Try.results62 (rok_t rfl) (rok_t rfl)) (fun w' hS => ?_)
                  have h1 := pickT (l := [_, _, _, _]) hS [1, 2, 3] rfl (by decide)
                  obtain ⟨p1, p2, p3⟩ := bad (f := f) (o := o) (err_3n (by omega) (hg.no hmk)) (by decide)
                  exact ⟨⟨A, n, c, l, m⟩, ⟨by rw [p3]; exact hg, Nat.le_succ _⟩, by rw [p1, ← p2], h1⟩
              · try (exfalso; omega)
                all_goals
                  refine tr_seq ?_
                  refine tr_region ?_
                  refine tl_step rfl (oj_val (y_assign fe_c) ?_)
                  refine tl_step rfl (oj_val (y_assign fe_c) ?_)
                  refine tl_nil ?_
                  refine tx_then ?_
                  refine tr_ret ?_
                  refine tx_in_ret ?_
                  refine tx_then_ret ?_
                  refine tx_ret (res2 Try.results62 (rok_t rfl) (rok_t rfl)) (fun w' hS => ?_)
                  have h1 := pickT (l := [_, _, _, _]) hS [1, 2, 3] rfl (by decide)
                  obtain ⟨p1, p2, p3⟩ := bad (f := f) (o := o) (err_k (by omega)) (by decide)
                  exact ⟨⟨A, n, c, l, m⟩, ⟨by rw [p3]; exact hg, Nat.le_succ _⟩, by rw [p1, ← p2], h1⟩

set_option maxRecDepth 100000 in
set_option maxHeartbeats 8000000 in
theorem doH {w0 w : World} {T : List Res} {hb mb n c : Nat} {A : Option Addr} {l : List I3} {m : Mp} {f : Tb} {o : Op4} (hg : Gd n l m f) {k : Nat} (hmk : mget m o.id = some (.int .i64 ((k : Int)))) (hkn : k < n) (hid : (gl l k).1 = o.id) (hS : St w0 w (blk hb [.slice A n c, .map (some mb)] :: vec 125 3 (.slice A n c) n (l.flatMap cI3) :: mpR mb m [] :: T)) (hnb : n + 1 ≤ 4398046511104) :
    Calls Try.prog 62 #[.pointer (some ⟨hb, 0, none⟩), .agg #[(.int .i64 o.kind), (.int .i64 o.id), .int .u64 o.hi, .int .u64 o.lo]] w fun e w' => ∃ r : Hd, (Gd r.n r.l r.m (nxt f o) ∧ r.n ≤ n + 1) ∧ e = .returned (.tuple #[(.int .i64 (pop f o)), (.int .i64 (err f o))]) ∧ St w0 w' (blk hb [.slice r.A r.n r.c, .map (some mb)] :: vec 125 3 (.slice r.A r.n r.c) r.n (r.l.flatMap cI3) :: mpR mb r.m [] :: T) := by
  have hn := hg.len
  refine calls_tr Try.func62 Try.ntmps62 rfl rfl hS ?_
  refine tr_seq ?_
  refine tr_region ?_
  refine tl_step rfl (oj_box (fe_t rfl) (fun bo => ?_))
  refine tl_step rfl (oj_val (y_assign fe_c) ?_)
  refine tl_step rfl (oj_val (y_assign fe_c) ?_)
  refine tl_nil ?_
  refine tx_then ?_
  refine tr_seq ?_
  refine tb_draw 12 (sel _ [0, 1, 2, 3]) (fun w h => h.sel _ rfl (by decide)) rfl ?_
  refine tb_float (i := 0) rfl (by kernel_rfl) rfl (wants_none rfl) (yq_of (y_move (fe_t rfl))) ?_
  refine tb_float (i := 1) rfl (by kernel_rfl) rfl (wants_none rfl) (yq_of (y_nilCheck (fe_t rfl))) ?_
  refine tb_float (i := 2) rfl (by kernel_rfl) rfl (wants_none rfl) (yq_of (y_fieldAddr (td := 113) Try.underlying116 rfl rfl Try.sizeOf113 (o' := 1) rfl (fe_t rfl))) ?_
  refine tb_float (i := 3) rfl (by kernel_rfl) rfl (wants_none rfl) (yq_of (y_ldb 1 Try.isAgg113 (fe_t rfl) rfl rfl)) ?_
  refine tb_float (i := 4) rfl (by kernel_rfl) rfl (wants_none rfl) (yq_of (y_fieldAddr (td := 3) Try.underlying121 rfl rfl Try.sizeOf3 (o' := 1) rfl (fe_t rfl))) ?_
  refine tb_float (i := 5) rfl (by kernel_rfl) rfl (wants_none rfl) (yq_of (y_ldb 0 Try.isAgg3 (fe_t rfl) rfl rfl)) ?_
  refine tb_float (i := 6) rfl (by kernel_rfl) rfl (wants_none rfl) (yq_of (y_lookup2s 3 Try.underlying113 Try.underlying3 Try.zeroValue3 (fe_t rfl) (fe_t rfl) rfl hmk)) ?_
  refine tb_float (i := 7) rfl (by kernel_rfl) rfl (wants_none rfl) (yq_of (y_move (fe_t rfl))) ?_
  refine tb_float (i := 8) rfl (by kernel_rfl) rfl (wants_none rfl) (yq_of (y_extract (fe_t rfl) rfl)) ?_
  refine tb_float (i := 9) rfl (by kernel_rfl) rfl (wants_none rfl) (yq_of (y_extract (fe_t rfl) rfl)) ?_
  refine tb_float (i := 10) rfl (by kernel_rfl) rfl (wants_none rfl) (yq_of (y_assign (fe_t rfl))) ?_
  refine tb_float (i := 11) rfl (by kernel_rfl) rfl (wants_none rfl) (yq_of (y_assign (fe_t rfl))) ?_
  refine tb_done (by kernel_rfl) ?_
  refine tx_then ?_
  refine tr_seq ?_
  refine tr_seq ?_
  refine tr_region ?_
  refine tl_step rfl (oj_val (y_fieldAddr (td := 3) Try.underlying121 rfl rfl Try.sizeOf3 (o' := 0) rfl (fe_t rfl)) ?_)
  refine tl_step rfl (oj_val (y_ldb 0 Try.isAgg3 (fe_t rfl) rfl rfl) ?_)
  refine tl_nil ?_
  refine tx_then ?_
  refine tr_block ?_
  refine tr_seq ?_
  refine tr_region ?_
  refine tl_step rfl (oj_val (y_eq (fe_t rfl) fe_c) ?_)
  refine tl_step rfl (oj_val (y_assign (fe_t rfl)) ?_)
  refine tl_nil ?_
  refine tx_then ?_
  refine tr_condp (fe_t rfl) (fun hq1 => ?_) (fun hq2 => ?_)
  · try (exfalso; omega)
    all_goals
      have hkd : o.kind = 1 := hq1
      refine tr_seq ?_
      refine tr_seq ?_
      refine tr_region ?_
      refine tl_step rfl (oj_val (y_move (fe_t rfl)) ?_)
      refine tl_nil ?_
      refine tx_then ?_
      refine tr_condt (fe_t rfl) ?_
      refine tr_seq ?_
      refine tr_region ?_
      refine tl_step rfl (oj_val (y_assign fe_c) ?_)
      refine tl_step rfl (oj_val (y_assign fe_c) ?_)
      refine tl_nil ?_
      refine tx_then ?_
      refine tr_ret ?_
      refine tx_then_ret ?_
      refine tx_in_ret ?_
      refine tx_then_ret ?_
      refine tx_ret (res2 Try.results62 (rok_t rfl) (rok_t rfl)) (fun w' hS => ?_)
      have h1 := pickT (l := [_, _, _, _]) hS [1, 2, 3] rfl (by decide)
      obtain ⟨p1, p2, p3⟩ := bad (f := f) (o := o) (err_1d hkd (by rw [hg.yes hkn hid]; exact fun h9 => by cases h9)) (by decide)
      exact ⟨⟨A, n, c, l, m⟩, ⟨by rw [p3]; exact hg, Nat.le_succ _⟩, by rw [p1, ← p2], h1⟩
  · try (exfalso; omega)
    all_goals
      refine tr_seq ?_
      refine tr_region ?_
      refine tl_step rfl (oj_val (y_eq (fe_t rfl) fe_c) ?_)
      refine tl_step rfl (oj_val (y_assign (fe_t rfl)) ?_)
      refine tl_nil ?_
      refine tx_then ?_
      refine tr_condp (fe_t rfl) (fun hq3 => ?_) (fun hq4 => ?_)
      · try (exfalso; omega)
        all_goals
          have hkd : o.kind = 2 := hq3
          refine tr_seq ?_
          refine tr_seq ?_
          refine tr_region ?_
          refine tl_step rfl (oj_val (y_move (fe_t rfl)) ?_)
          refine tl_step rfl (oj_val (y_nilCheck (fe_t rfl)) ?_)
          refine tl_step rfl (oj_val (y_fieldAddr (td := 114) Try.underlying116 rfl rfl Try.sizeOf114 (o' := 0) rfl (fe_t rfl)) ?_)
          refine tl_step rfl (oj_val (y_ldb 1 Try.isAgg114 (fe_t rfl) rfl rfl) ?_)
          refine tl_step rfl (oj_val (y_len Try.underlying114 (fe_t rfl)) ?_)
          refine tl_step rfl (oj_val (y_eq (fe_t rfl) fe_c) ?_)
          refine tl_nil ?_
          refine tx_then ?_
          refine tr_condp (fe_t rfl) (fun hq5 => ?_) (fun hq6 => ?_)
          · try (exfalso; omega)
            all_goals
              refine tr_seq ?_
              refine tr_region ?_
              refine tl_step rfl (oj_val (y_assign fe_c) ?_)
              refine tl_step rfl (oj_val (y_assign fe_c) ?_)
              refine tl_nil ?_
              refine tx_then ?_
              refine tr_ret ?_
              refine tx_then_ret ?_
              refine tx_in_ret ?_
              refine tx_then_ret ?_
              refine tx_ret (res2 Try.results62 (rok_t rfl) (rok_t rfl)) (fun w' hS => ?_)
              have h1 := pickT (l := [_, _, _, _]) hS [1, 2, 3] rfl (by decide)
              obtain ⟨p1, p2, p3⟩ := bad (f := f) (o := o) (err_2e hkd (hg.emp.2 (by omega))) (by decide)
              exact ⟨⟨A, n, c, l, m⟩, ⟨by rw [p3]; exact hg, Nat.le_succ _⟩, by rw [p1, ← p2], h1⟩
          · try (exfalso; omega)
            all_goals
              obtain ⟨n', rfl⟩ : ∃ n', n = n' + 1 := ⟨n - 1, by omega⟩
              refine tr_skip ?_
              refine tx_then ?_
              refine tr_seq ?_
              refine tr_region ?_
              refine tl_step rfl (oj_val (y_move (fe_t rfl)) ?_)
              refine tl_step rfl (oj_call2 Try.call63 fe_f (fel_cons (fe_t rfl) (fel_cons (fe_c (v := (.int .i64 (((0 : Nat) : Int))))) fel_nil)) (fun w' hS => takeE hn hg.inj hg.map (pickT (l := [_, _, _, _]) hS [1, 2, 3, 0] rfl (by decide)) (k := 0) (by omega) hg.hp (by omega)) (fun q13 hq13 => ?_))
              refine tl_step rfl (oj_val (y_field1 (f := _) (td := 3) Try.underlying125 rfl rfl Try.isAgg3 (fe_t rfl) rfl) ?_)
              refine tl_step rfl (oj_val (y_assign (fe_t rfl)) ?_)
              refine tl_step rfl (oj_val (y_assign fe_c) ?_)
              refine tl_nil ?_
              refine tx_then ?_
              refine tr_ret ?_
              refine tx_in_ret ?_
              refine tx_then_ret ?_
              refine tx_ret (res2 Try.results62 (rok_t rfl) (rok_t rfl)) (fun w' hS => ?_)
              have h1 := pickT (l := [_, _, _, _]) hS [0, 1, 2] rfl (by decide)
              obtain ⟨p1, p2, p3⟩ := good_2 (f := f) (o := o) hkd (fun h9 => by have := hg.emp.1 h9; omega)
              exact ⟨⟨A, n', c, q13.1, q13.2⟩, ⟨by rw [p3, hg.top (by omega)]; exact hg.cut (by omega) hq13, by dsimp only; omega⟩, by (rw [p1, ← p2, hg.top (by omega)]) <;> rfl, h1⟩
      · try (exfalso; omega)
        all_goals
          refine tr_seq ?_
          refine tr_seq ?_
          refine tr_region ?_
          refine tl_step rfl (oj_val (y_eq (fe_t rfl) fe_c) ?_)
          refine tl_step rfl (oj_val (y_assign (fe_t rfl)) ?_)
          refine tl_nil ?_
          refine tx_then ?_
          refine tr_condp (fe_t rfl) (fun hq7 => ?_) (fun hq8 => ?_)
          · try (exfalso; omega)
            all_goals
              refine tr_skip ?_
              refine tx_then ?_
              refine tr_condp (fe_t rfl) (fun hq9 => ?_) (fun hq10 => ?_)
              · try (exfalso; omega)
                all_goals
                  refine tr_seq ?_
                  refine tr_seq ?_
                  refine tr_region ?_
                  refine tl_step rfl (oj_val (y_move (fe_t rfl)) ?_)
                  refine tl_step rfl (oj_val (y_not (fe_t rfl)) ?_)
                  refine tl_nil ?_
                  refine tx_then ?_
                  refine tr_condf (fe_t rfl) ?_
                  refine tr_skip ?_
                  refine tx_then ?_
                  refine tr_seq ?_
                  refine tr_region ?_
                  refine tl_step rfl (oj_val (y_fieldAddr (td := 3) Try.underlying121 rfl rfl Try.sizeOf3 (o' := 0) rfl (fe_t rfl)) ?_)
                  refine tl_step rfl (oj_val (y_ldb 0 Try.isAgg3 (fe_t rfl) rfl rfl) ?_)
                  refine tl_step rfl (oj_val (y_eq (fe_t rfl) fe_c) ?_)
                  refine tl_nil ?_
                  refine tx_then ?_
                  refine tr_condp (fe_t rfl) (fun hq11 => ?_) (fun hq12 => ?_)
                  · try (exfalso; omega)
                    all_goals
                      obtain ⟨n', rfl⟩ : ∃ n', n = n' + 1 := ⟨n - 1, by omega⟩
                      refine tr_region ?_
                      refine tl_step rfl (oj_val (y_move (fe_t rfl)) ?_)
                      refine tl_step rfl (oj_val (y_move (fe_t rfl)) ?_)
                      refine tl_step rfl (oj_call2 Try.call63 fe_f (fel_cons (fe_t rfl) (fel_cons (fe_t rfl) fel_nil)) (fun w' hS => takeE hn hg.inj hg.map (pickT (l := [_, _, _, _]) hS [1, 2, 3, 0] rfl (by decide)) (k := k) (by omega) hg.hp (by omega)) (fun q19 hq19 => ?_))
                      refine tl_nil ?_
                      refine tx_in ?_
                      refine tx_then ?_
                      refine tr_seq ?_
                      refine tr_region ?_
                      refine tl_step rfl (oj_val (y_assign fe_c) ?_)
                      refine tl_step rfl (oj_val (y_assign fe_c) ?_)
                      refine tl_nil ?_
                      refine tx_then ?_
                      refine tr_ret ?_
                      refine tx_ret (res2 Try.results62 (rok_t rfl) (rok_t rfl)) (fun w' hS => ?_)
                      have h1 := pickT (l := [_, _, _, _]) hS [0, 1, 2] rfl (by decide)
                      obtain ⟨p1, p2, p3⟩ := good_3 (f := f) (o := o) (by omega) (by rw [hg.yes hkn hid]; exact fun h9 => by cases h9)
                      exact ⟨⟨A, n', c, q19.1, q19.2⟩, ⟨by rw [p3, ← hid]; exact hg.cut (by omega) hq19, by dsimp only; omega⟩, by (rw [p1, ← p2]) <;> rfl, h1⟩
                  · try (exfalso; omega)
                    all_goals
                      refine tr_seq ?_
                      refine tb_draw1 9 [_, _, _, _] [_, _, _, _] (fun w h => h.pick [0, 1, 2, 3] _ rfl (by decide)) (fun w h => (h.weak (i := 2) rfl).pick [2, 0, 1, 3] _ rfl (by decide)) rfl ?_
                      refine tb_float (i := 0) rfl (by kernel_rfl) rfl (wants_none rfl) (yq_of (y_move (fe_t rfl))) ?_
                      refine tb_float (i := 1) rfl (by kernel_rfl) rfl (wants_none rfl) (yq_of (y_nilCheck (fe_t rfl))) ?_
                      refine tb_float (i := 2) rfl (by kernel_rfl) rfl (wants_none rfl) (yq_of (y_fieldAddr (td := 114) Try.underlying116 rfl rfl Try.sizeOf114 (o' := 0) rfl (fe_t rfl))) ?_
                      refine tb_float (i := 3) rfl (by kernel_rfl) rfl (wants_none rfl) (yq_of (y_ldb 2 Try.isAgg114 (fe_t rfl) rfl rfl)) ?_
                      refine tb_float (i := 4) rfl (by kernel_rfl) rfl (wants_none rfl) (yq_of (y_move (fe_t rfl))) ?_
                      refine tb_float (i := 5) rfl (by kernel_rfl) rfl (wants_none rfl) (yq_of (y_fieldAddr (td := 119) Try.underlying121 rfl rfl Try.sizeOf119 (o' := 2) rfl (fe_t rfl))) ?_
                      refine tb_float (i := 6) rfl (by kernel_rfl) rfl (wants_none rfl) (yq_of (y_ldbA 1 Try.isAgg119 Try.sizeOf119 (fe_t rfl) rfl rfl rfl)) ?_
                      refine tb_float (i := 7) rfl (by kernel_rfl) rfl (wants_none rfl) (yq_of (y_indexR Try.underlying114 Try.sizeOf125 (fe_t rfl) (fe_t rfl) (rch_w 0 rfl (by omega)) (by omega) rfl)) ?_
                      refine tb_float (i := 8) rfl (by kernel_rfl) rfl (wants_none rfl) (yq_of (y_fieldAddrR (td := 119) Try.underlying125 rfl rfl Try.sizeOf119 rfl (fe_t rfl) (rch_w 0 rfl (by omega)))) ?_
                      refine tb_one2 (i := 9) rfl (by kernel_rfl) (by kernel_rfl) (wants_none rfl) (oj_storeE (i := 2) (vs := [.int .u64 o.hi, .int .u64 o.lo]) Try.sizeOf119 (fe_t rfl) (fe_t rfl) rfl rfl rfl rfl (by show k * 3 + 1 + 2 ≤ n * 3; omega) (by decide) (key_set (by omega)) (⟨fun w h => (h.weak (i := 2) rfl).pick [2, 0, 1, 3] _ rfl (by decide), ?_⟩))
                      refine tb_done (by kernel_rfl) ?_
                      refine tx_then ?_
                      obtain ⟨hi2, hm2, _⟩ := put_facts (x := ((gl l k).1, o.hi, o.lo)) hn hkn hg.inj hg.map rfl
                      have hl1 : (l.set k ((gl l k).1, o.hi, o.lo)).length = n := by rw [List.length_set]; exact hn
                      refine tr_region ?_
                      refine tl_step rfl (oj_val (y_move (fe_t rfl)) ?_)
                      refine tl_step rfl (oj_val (y_move (fe_t rfl)) ?_)
                      refine tl_step rfl (oj_call2 Try.call96 fe_f (fel_cons (fe_t rfl) (fel_cons (fe_t rfl) fel_nil)) (fun w' hS => fixE hl1 hi2 hm2 (pickT (l := [_, _, _, _]) hS [1, 2, 3, 0] rfl (by decide)) (i0 := k) (AH.upd hg.hp (by omega) _) (by omega)) (fun q21 hq21 => ?_))
                      refine tl_nil ?_
                      refine tx_in ?_
                      refine tx_then ?_
                      refine tr_seq ?_
                      refine tr_region ?_
                      refine tl_step rfl (oj_val (y_assign fe_c) ?_)
                      refine tl_step rfl (oj_val (y_assign fe_c) ?_)
                      refine tl_nil ?_
                      refine tx_then ?_
                      refine tr_ret ?_
                      refine tx_ret (res2 Try.results62 (rok_t rfl) (rok_t rfl)) (fun w' hS => ?_)
                      have h1 := pickT (l := [_, _, _, _]) hS [0, 1, 2] rfl (by decide)
                      obtain ⟨p1, p2, p3⟩ := good_4 (f := f) (o := o) (by omega) (by rw [hg.yes hkn hid]; exact fun h9 => by cases h9)
                      exact ⟨⟨A, n, c, q21.1, q21.2⟩, ⟨by rw [p3, ← hid]; exact hg.put (x := ((gl l k).1, o.hi, o.lo)) hkn rfl hq21, by dsimp only; omega⟩, by (rw [p1, ← p2]) <;> rfl, h1⟩
              · try (exfalso; omega)
                all_goals
                  refine tr_seq ?_
                  refine tr_region ?_
                  refine tl_step rfl (oj_val (y_assign fe_c) ?_)
                  refine tl_step rfl (oj_val (y_assign fe_c) ?_)
                  refine tl_nil ?_
                  refine tx_then ?_
                  refine tr_ret ?_
                  refine tx_in_ret ?_
                  refine tx_then_ret ?_
                  refine tx_ret (res2 Try.results62 (rok_t rfl) (rok_t rfl)) (fun w' hS => ?_)
                  have h1 := pickT (l := [_, _, _, _]) hS [1, 2, 3] rfl (by decide)
                  obtain ⟨p1, p2, p3⟩ := bad (f := f) (o := o) (err_k (by omega)) (by decide)
                  exact ⟨⟨A, n, c, l, m⟩, ⟨by rw [p3]; exact hg, Nat.le_succ _⟩, by rw [p1, ← p2], h1⟩
          · try (exfalso; omega)
            all_goals
              refine tr_region ?_
              refine tl_step rfl (oj_val (y_eq (fe_t rfl) fe_c) ?_)
              refine tl_step rfl (oj_val (y_assign (fe_t rfl)) ?_)
              refine tl_nil ?_
              refine tx_then ?_
              refine tr_condp (fe_t rfl) (fun hq13 => ?_) (fun hq14 => ?_)
              · try (exfalso; omega)
                all_goals
                  refine tr_seq ?_
                  refine tr_seq ?_
                  refine tr_region ?_
                  refine tl_step rfl (oj_val (y_move (fe_t rfl)) ?_)
                  refine tl_step rfl (oj_val (y_not (fe_t rfl)) ?_)
                  refine tl_nil ?_
                  refine tx_then ?_
                  refine tr_condf (fe_t rfl) ?_
                  refine tr_skip ?_
                  refine tx_then ?_
                  refine tr_seq ?_
                  refine tr_region ?_
                  refine tl_step rfl (oj_val (y_fieldAddr (td := 3) Try.underlying121 rfl rfl Try.sizeOf3 (o' := 0) rfl (fe_t rfl)) ?_)
                  refine tl_step rfl (oj_val (y_ldb 0 Try.isAgg3 (fe_t rfl) rfl rfl) ?_)
                  refine tl_step rfl (oj_val (y_eq (fe_t rfl) fe_c) ?_)
                  refine tl_nil ?_
                  refine tx_then ?_
                  refine tr_condp (fe_t rfl) (fun hq15 => ?_) (fun hq16 => ?_)
                  · try (exfalso; omega)
                    all_goals
                      obtain ⟨n', rfl⟩ : ∃ n', n = n' + 1 := ⟨n - 1, by omega⟩
                      refine tr_region ?_
                      refine tl_step rfl (oj_val (y_move (fe_t rfl)) ?_)
                      refine tl_step rfl (oj_val (y_move (fe_t rfl)) ?_)
                      refine tl_step rfl (oj_call2 Try.call63 fe_f (fel_cons (fe_t rfl) (fel_cons (fe_t rfl) fel_nil)) (fun w' hS => takeE hn hg.inj hg.map (pickT (l := [_, _, _, _]) hS [1, 2, 3, 0] rfl (by decide)) (k := k) (by omega) hg.hp (by omega)) (fun q19 hq19 => ?_))
                      refine tl_nil ?_
                      refine tx_in ?_
                      refine tx_then ?_
                      refine tr_seq ?_
                      refine tr_region ?_
                      refine tl_step rfl (oj_val (y_assign fe_c) ?_)
                      refine tl_step rfl (oj_val (y_assign fe_c) ?_)
                      refine tl_nil ?_
                      refine tx_then ?_
                      refine tr_ret ?_
                      refine tx_ret (res2 Try.results62 (rok_t rfl) (rok_t rfl)) (fun w' hS => ?_)
                      have h1 := pickT (l := [_, _, _, _]) hS [0, 1, 2] rfl (by decide)
                      obtain ⟨p1, p2, p3⟩ := good_3 (f := f) (o := o) (by omega) (by rw [hg.yes hkn hid]; exact fun h9 => by cases h9)
                      exact ⟨⟨A, n', c, q19.1, q19.2⟩, ⟨by rw [p3, ← hid]; exact hg.cut (by omega) hq19, by dsimp only; omega⟩, by (rw [p1, ← p2]) <;> rfl, h1⟩
                  · try (exfalso; omega)
                    all_goals
                      refine tr_seq ?_
                      refine tb_draw1 9 [_, _, _, _] [_, _, _, _] (fun w h => h.pick [0, 1, 2, 3] _ rfl (by decide)) (fun w h => (h.weak (i := 2) rfl).pick [2, 0, 1, 3] _ rfl (by decide)) rfl ?_
                      refine tb_float (i := 0) rfl (by kernel_rfl) rfl (wants_none rfl) (yq_of (y_move (fe_t rfl))) ?_
                      refine tb_float (i := 1) rfl (by kernel_rfl) rfl (wants_none rfl) (yq_of (y_nilCheck (fe_t rfl))) ?_
                      refine tb_float (i := 2) rfl (by kernel_rfl) rfl (wants_none rfl) (yq_of (y_fieldAddr (td := 114) Try.underlying116 rfl rfl Try.sizeOf114 (o' := 0) rfl (fe_t rfl))) ?_
                      refine tb_float (i := 3) rfl (by kernel_rfl) rfl (wants_none rfl) (yq_of (y_ldb 2 Try.isAgg114 (fe_t rfl) rfl rfl)) ?_
                      refine tb_float (i := 4) rfl (by kernel_rfl) rfl (wants_none rfl) (yq_of (y_move (fe_t rfl))) ?_
                      refine tb_float (i := 5) rfl (by kernel_rfl) rfl (wants_none rfl) (yq_of (y_fieldAddr (td := 119) Try.underlying121 rfl rfl Try.sizeOf119 (o' := 2) rfl (fe_t rfl))) ?_
                      refine tb_float (i := 6) rfl (by kernel_rfl) rfl (wants_none rfl) (yq_of (y_ldbA 1 Try.isAgg119 Try.sizeOf119 (fe_t rfl) rfl rfl rfl)) ?_
                      refine tb_float (i := 7) rfl (by kernel_rfl) rfl (wants_none rfl) (yq_of (y_indexR Try.underlying114 Try.sizeOf125 (fe_t rfl) (fe_t rfl) (rch_w 0 rfl (by omega)) (by omega) rfl)) ?_
                      refine tb_float (i := 8) rfl (by kernel_rfl) rfl (wants_none rfl) (yq_of (y_fieldAddrR (td := 119) Try.underlying125 rfl rfl Try.sizeOf119 rfl (fe_t rfl) (rch_w 0 rfl (by omega)))) ?_
                      refine tb_one2 (i := 9) rfl (by kernel_rfl) (by kernel_rfl) (wants_none rfl) (oj_storeE (i := 2) (vs := [.int .u64 o.hi, .int .u64 o.lo]) Try.sizeOf119 (fe_t rfl) (fe_t rfl) rfl rfl rfl rfl (by show k * 3 + 1 + 2 ≤ n * 3; omega) (by decide) (key_set (by omega)) (⟨fun w h => (h.weak (i := 2) rfl).pick [2, 0, 1, 3] _ rfl (by decide), ?_⟩))
                      refine tb_done (by kernel_rfl) ?_
                      refine tx_then ?_
                      obtain ⟨hi2, hm2, _⟩ := put_facts (x := ((gl l k).1, o.hi, o.lo)) hn hkn hg.inj hg.map rfl
                      have hl1 : (l.set k ((gl l k).1, o.hi, o.lo)).length = n := by rw [List.length_set]; exact hn
                      refine tr_region ?_
                      refine tl_step rfl (oj_val (y_move (fe_t rfl)) ?_)
                      refine tl_step rfl (oj_val (y_move (fe_t rfl)) ?_)
                      refine tl_step rfl (oj_call2 Try.call96 fe_f (fel_cons (fe_t rfl) (fel_cons (fe_t rfl) fel_nil)) (fun w' hS => fixE hl1 hi2 hm2 (pickT (l := [_, _, _, _]) hS [1, 2, 3, 0] rfl (by decide)) (i0 := k) (AH.upd hg.hp (by omega) _) (by omega)) (fun q21 hq21 => ?_))
                      refine tl_nil ?_
                      refine tx_in ?_
                      refine tx_then ?_
                      refine tr_seq ?_
                      refine tr_region ?_
                      refine tl_step rfl (oj_val (y_assign fe_c) ?_)
                      refine tl_step rfl (oj_val (y_assign fe_c) ?_)
                      refine tl_nil ?_
                      refine tx_then ?_
                      refine tr_ret ?_
                      refine tx_ret (res2 Try.results62 (rok_t rfl) (rok_t rfl)) (fun w' hS => ?_)
                      have h1 := pickT (l := [_, _, _, _]) hS [0, 1, 2] rfl (by decide)
                      obtain ⟨p1, p2, p3⟩ := good_4 (f := f) (o := o) (by omega) (by rw [hg.yes hkn hid]; exact fun h9 => by cases h9)
                      exact ⟨⟨A, n, c, q21.1, q21.2⟩, ⟨by rw [p3, ← hid]; exact hg.put (x := ((gl l k).1, o.hi, o.lo)) hkn rfl hq21, by dsimp only; omega⟩, by (rw [p1, ← p2]) <;> rfl, h1⟩
              · try (exfalso; omega)
                all_goals
                  refine tr_seq ?_
                  refine tr_region ?_
                  refine tl_step rfl (oj_val (y_assign fe_c) ?_)
                  refine tl_step rfl (oj_val (y_assign fe_c) ?_)
                  refine tl_nil ?_
                  refine tx_then ?_
                  refine tr_ret ?_
                  refine tx_in_ret ?_
                  refine tx_then_ret ?_
                  refine tx_ret (res2 Try.results62 (rok_t rfl) (rok_t rfl)) (fun w' hS => ?_)
                  have h1 := pickT (l := [_, _, _, _]) hS [1, 2, 3] rfl (by decide)
                  obtain ⟨p1, p2, p3⟩ := bad (f := f) (o := o) (err_k (by omega)) (by decide)
                  exact ⟨⟨A, n, c, l, m⟩, ⟨by rw [p3]; exact hg, Nat.le_succ _⟩, by rw [p1, ← p2], h1⟩

theorem doE {w0 w : World} {T : List Res} {hb mb n c : Nat} {A : Option Addr} {l : List I3} {m : Mp} {f : Tb} (o : Op4) (hg : Gd n l m f) (hS : St w0 w (blk hb [.slice A n c, .map (some mb)] :: vec 125 3 (.slice A n c) n (l.flatMap cI3) :: mpR mb m [] :: T)) (hnb : n + 1 ≤ 4398046511104) :
    Calls Try.prog 62 #[.pointer (some ⟨hb, 0, none⟩), .agg #[(.int .i64 o.kind), (.int .i64 o.id), .int .u64 o.hi, .int .u64 o.lo]] w fun e w' => ∃ r : Hd, (Gd r.n r.l r.m (nxt f o) ∧ r.n ≤ n + 1) ∧ e = .returned (.tuple #[(.int .i64 (pop f o)), (.int .i64 (err f o))]) ∧ St w0 w' (blk hb [.slice r.A r.n r.c, .map (some mb)] :: vec 125 3 (.slice r.A r.n r.c) r.n (r.l.flatMap cI3) :: mpR mb r.m [] :: T) := by
  rcases hg.at o.id with h | ⟨k, h1, h2, h3⟩
  · exact doN hg h hS hnb
  · exact doH hg h2 h1 h3 hS hnb

end Go.Proofs.Ytpknjfeiiaopgaa.Heap
