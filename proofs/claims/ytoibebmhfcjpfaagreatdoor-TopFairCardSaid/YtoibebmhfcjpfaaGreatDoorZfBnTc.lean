/- Walks: what is told. -/
import Derived.Test.YtoibebmhfcjpfaaGreatDoorZfBnN
namespace Go.Proofs.YtoibebmhfcjpfaaGreatDoor.Bn
open Go.RowKit Go.Lib Go.Proofs.YtoibebmhfcjpfaaGreatDoor.E Go.Proofs.YtoibebmhfcjpfaaGreatDoor.Pace Go.Proofs.YtoibebmhfcjpfaaGreatDoor.Bucket

set_option maxRecDepth 100000 in
set_option maxHeartbeats 2000000 in
theorem tl_bad {w : World} (hw : Gw w) {t : List UInt8} (hl : t.length ≤ 1000000000) {k : Nat} (hp : parse t = (k, none)) :
    Calls Tryz.prog 9 #[str t] w fun e w' => ∃ q : Vs, (q.n = (tell t).1.length ∧ q.xs = (tell t).1.map str) ∧ e = .returned (.tuple #[.slice q.A q.n q.c, (.int .i64 ((tell t).2))]) ∧ St w w' [vec 9 1 (.slice q.A q.n q.c) q.n q.xs] := by
  refine calls_tr Tryz.func9 Tryz.ntmps9 rfl rfl (St.refl _) ?_
  refine tr_seq ?_
  refine tr_region ?_
  refine tl_step rfl (oj_val (y_assign fe_c) ?_)
  refine tl_step rfl (oj_val (y_assign fe_c) ?_)
  refine tl_nil ?_
  refine tx_then ?_
  refine tr_seq ?_
  refine tr_region ?_
  refine tl_step rfl (oj_val (y_move (fe_t rfl)) ?_)
  refine tl_step rfl (oj_call Tryz.call15 fe_f (fel_cons (fe_t rfl) fel_nil) (fun w' hS => parseE (hw.st hS) t (by omega)) (fun p1 hp1 => ?_))
  refine tl_step rfl (oj_val (y_move (fe_t rfl)) ?_)
  refine tl_step rfl (oj_val (y_extract (fe_t rfl) rfl) ?_)
  refine tl_step rfl (oj_val (y_extract (fe_t rfl) rfl) ?_)
  refine tl_step rfl (oj_val (y_extract (fe_t rfl) rfl) ?_)
  refine tl_step rfl (oj_alloc Tryz.zeroValue52 (fun b1 => ?_))
  refine tl_step rfl (oj_storeW 0 Tryz.sizeOf52 (fe_t rfl) (fe_t rfl) rfl rfl rfl rfl rfl (?_))
  refine tl_step rfl (oj_val (y_assign (fe_t rfl)) ?_)
  refine tl_step rfl (oj_val (y_assign (fe_t rfl)) ?_)
  refine tl_nil ?_
  refine tx_then ?_
  refine tr_seq ?_
  refine tr_seq ?_
  refine tr_region ?_
  refine tl_step rfl (oj_val (y_move (fe_t rfl)) ?_)
  refine tl_step rfl (oj_val (y_neq (fe_t rfl) fe_c) ?_)
  refine tl_nil ?_
  refine tx_then ?_
  refine tr_condp (fe_t rfl) (fun hq1 => ?_) (fun hq2 => ?_)
  · refine tr_seq ?_
    refine tr_add (r := vec 9 1 (.slice none 0 0) 0 []) vec_nil rfl ?_
    refine tr_region ?_
    refine tl_step rfl (oj_val (y_move (fe_t rfl)) ?_)
    refine tl_step rfl (oj_val (y_assign fe_c) ?_)
    refine tl_step rfl (oj_val (y_assign (fe_t rfl)) ?_)
    refine tl_nil ?_
    refine tx_then ?_
    refine tr_ret ?_
    refine tx_then_ret ?_
    refine tx_ret (res2 Tryz.results9 (rok_t rfl) (rok_t rfl)) (fun w' hS => ?_)
    exact ⟨⟨none, 0, 0, []⟩, ⟨by rw [tell_bad hp]; rfl, by rw [tell_bad hp]; rfl⟩, by rw [tell_bad hp, (PIs.bad hp1 hp)]; rfl, hS.pick [0] _ rfl (by decide)⟩
  · exact absurd (by rw [(PIs.bad hp1 hp)]; decide) hq2

set_option maxRecDepth 100000 in
set_option maxHeartbeats 2000000 in
theorem tl_no {w : World} (hw : Gw w) {t : List UInt8} (hl : t.length ≤ 1000000000) {s : Sc} (hp : parse t = (0, some s)) (hk : okb s.num s.den s.burst = false) :
    Calls Tryz.prog 9 #[str t] w fun e w' => ∃ q : Vs, (q.n = (tell t).1.length ∧ q.xs = (tell t).1.map str) ∧ e = .returned (.tuple #[.slice q.A q.n q.c, (.int .i64 ((tell t).2))]) ∧ St w w' [vec 9 1 (.slice q.A q.n q.c) q.n q.xs] := by
  refine calls_tr Tryz.func9 Tryz.ntmps9 rfl rfl (St.refl _) ?_
  refine tr_seq ?_
  refine tr_region ?_
  refine tl_step rfl (oj_val (y_assign fe_c) ?_)
  refine tl_step rfl (oj_val (y_assign fe_c) ?_)
  refine tl_nil ?_
  refine tx_then ?_
  refine tr_seq ?_
  refine tr_region ?_
  refine tl_step rfl (oj_val (y_move (fe_t rfl)) ?_)
  refine tl_step rfl (oj_call Tryz.call15 fe_f (fel_cons (fe_t rfl) fel_nil) (fun w' hS => parseE (hw.st hS) t (by omega)) (fun p1 hp1 => ?_))
  refine tl_step rfl (oj_val (y_move (fe_t rfl)) ?_)
  refine tl_step rfl (oj_val (y_extract (fe_t rfl) rfl) ?_)
  refine tl_step rfl (oj_val (y_extract (fe_t rfl) rfl) ?_)
  refine tl_step rfl (oj_val (y_extract (fe_t rfl) rfl) ?_)
  refine tl_step rfl (oj_alloc Tryz.zeroValue52 (fun b1 => ?_))
  refine tl_step rfl (oj_storeW 0 Tryz.sizeOf52 (fe_t rfl) (fe_t rfl) rfl rfl rfl rfl rfl (?_))
  refine tl_step rfl (oj_val (y_assign (fe_t rfl)) ?_)
  refine tl_step rfl (oj_val (y_assign (fe_t rfl)) ?_)
  refine tl_nil ?_
  refine tx_then ?_
  refine tr_seq ?_
  refine tr_seq ?_
  refine tr_region ?_
  refine tl_step rfl (oj_val (y_move (fe_t rfl)) ?_)
  refine tl_step rfl (oj_val (y_neq (fe_t rfl) fe_c) ?_)
  refine tl_nil ?_
  refine tx_then ?_
  refine tr_condp (fe_t rfl) (fun hq1 => ?_) (fun hq2 => ?_)
  · exact absurd hq1 (by rw [(PIs.ok hp1 hp).2]; decide)
  · refine tr_skip ?_
    refine tx_then ?_
    refine tr_seq ?_
    refine tr_region ?_
    refine tl_step rfl (oj_val (y_fieldAddr (td := 3) Tryz.underlying52 rfl rfl Tryz.sizeOf3 (o' := 0) rfl (fe_t rfl)) ?_)
    refine tl_step rfl (oj_val (y_ldb 0 Tryz.isAgg3 (fe_t rfl) rfl rfl) ?_)
    refine tl_step rfl (oj_val (y_fieldAddr (td := 3) Tryz.underlying52 rfl rfl Tryz.sizeOf3 (o' := 1) rfl (fe_t rfl)) ?_)
    refine tl_step rfl (oj_val (y_ldb 0 Tryz.isAgg3 (fe_t rfl) rfl rfl) ?_)
    refine tl_step rfl (oj_val (y_fieldAddr (td := 3) Tryz.underlying52 rfl rfl Tryz.sizeOf3 (o' := 2) rfl (fe_t rfl)) ?_)
    refine tl_step rfl (oj_val (y_ldb 0 Tryz.isAgg3 (fe_t rfl) rfl rfl) ?_)
    refine tl_step rfl (oj_val (y_fieldAddr (td := 50) Tryz.underlying52 rfl rfl Tryz.sizeOf50 (o' := 3) rfl (fe_t rfl)) ?_)
    refine tl_step rfl (oj_val (y_ldb 0 Tryz.isAgg50 (fe_t rfl) rfl rfl) ?_)
    refine tl_step rfl (oj_callv Tryz.call16 fe_f (fel_cons (fe_t rfl) (fel_cons (fe_t rfl) (fel_cons (fe_t rfl) (fel_cons (fe_t rfl) fel_nil)))) (fun w' hS => play_bad p1.2.1.num p1.2.1.den p1.2.1.burst _ _ _ w' (by rw [(PIs.ok hp1 hp).1]; exact hk)) ?_)
    refine tl_step rfl (oj_val (y_move (fe_t rfl)) ?_)
    refine tl_step rfl (oj_val (y_extract (fe_t rfl) rfl) ?_)
    refine tl_step rfl (oj_val (y_extract (fe_t rfl) rfl) ?_)
    refine tl_step rfl (oj_val (y_extract (fe_t rfl) rfl) ?_)
    refine tl_step rfl (oj_alloc Tryz.zeroValue61 (fun b2 => ?_))
    refine tl_step rfl (oj_val (y_assign (fe_t rfl)) ?_)
    refine tl_step rfl (oj_storeW 0 Tryz.sizeOf61 (fe_t rfl) (fe_t rfl) rfl rfl rfl rfl rfl (?_))
    refine tl_step rfl (oj_val (y_assign (fe_t rfl)) ?_)
    refine tl_nil ?_
    refine tx_then ?_
    refine tr_seq ?_
    refine tr_seq ?_
    refine tr_region ?_
    refine tl_step rfl (oj_val (y_move (fe_t rfl)) ?_)
    refine tl_step rfl (oj_val (y_neq (fe_t rfl) fe_c) ?_)
    refine tl_nil ?_
    refine tx_then ?_
    refine tr_condp (fe_t rfl) (fun hq3 => ?_) (fun hq4 => ?_)
    · refine tr_seq ?_
      refine tr_add (r := vec 9 1 (.slice none 0 0) 0 []) vec_nil rfl ?_
      refine tr_region ?_
      refine tl_step rfl (oj_val (y_move (fe_t rfl)) ?_)
      refine tl_step rfl (oj_val (y_assign fe_c) ?_)
      refine tl_step rfl (oj_val (y_assign (fe_t rfl)) ?_)
      refine tl_nil ?_
      refine tx_then ?_
      refine tr_ret ?_
      refine tx_then_ret ?_
      refine tx_ret (res2 Tryz.results9 (rok_t rfl) (rok_t rfl)) (fun w' hS => ?_)
      exact ⟨⟨none, 0, 0, []⟩, ⟨by rw [tell_no hp hk]; rfl, by rw [tell_no hp hk]; rfl⟩, by rw [tell_no hp hk]; rfl, hS.pick [0] _ rfl (by decide)⟩
    · exact absurd (by decide) hq4

set_option maxRecDepth 100000 in
set_option maxHeartbeats 8000000 in
theorem tl_ok {w : World} (hw : Gw w) {t : List UInt8} (hl : t.length ≤ 1000000000) {s : Sc} (hp : parse t = (0, some s)) (hk : okb s.num s.den s.burst = true) (hm : s.ops.length ≤ 1048576) :
    Calls Tryz.prog 9 #[str t] w fun e w' => ∃ q : Vs, (q.n = (tell t).1.length ∧ q.xs = (tell t).1.map str) ∧ e = .returned (.tuple #[.slice q.A q.n q.c, (.int .i64 ((tell t).2))]) ∧ St w w' [vec 9 1 (.slice q.A q.n q.c) q.n q.xs] := by
  refine calls_tr Tryz.func9 Tryz.ntmps9 rfl rfl (St.refl _) ?_
  refine tr_seq ?_
  refine tr_region ?_
  refine tl_step rfl (oj_val (y_assign fe_c) ?_)
  refine tl_step rfl (oj_val (y_assign fe_c) ?_)
  refine tl_nil ?_
  refine tx_then ?_
  refine tr_seq ?_
  refine tr_region ?_
  refine tl_step rfl (oj_val (y_move (fe_t rfl)) ?_)
  refine tl_step rfl (oj_call Tryz.call15 fe_f (fel_cons (fe_t rfl) fel_nil) (fun w' hS => parseE (hw.st hS) t (by omega)) (fun p1 hp1 => ?_))
  refine tl_step rfl (oj_val (y_move (fe_t rfl)) ?_)
  refine tl_step rfl (oj_val (y_extract (fe_t rfl) rfl) ?_)
  refine tl_step rfl (oj_val (y_extract (fe_t rfl) rfl) ?_)
  refine tl_step rfl (oj_val (y_extract (fe_t rfl) rfl) ?_)
  refine tl_step rfl (oj_alloc Tryz.zeroValue52 (fun b1 => ?_))
  refine tl_step rfl (oj_storeW 0 Tryz.sizeOf52 (fe_t rfl) (fe_t rfl) rfl rfl rfl rfl rfl (?_))
  refine tl_step rfl (oj_val (y_assign (fe_t rfl)) ?_)
  refine tl_step rfl (oj_val (y_assign (fe_t rfl)) ?_)
  refine tl_nil ?_
  refine tx_then ?_
  refine tr_seq ?_
  refine tr_seq ?_
  obtain ⟨hsE, her⟩ := PIs.ok hp1 hp
  obtain ⟨hz, hzt, _⟩ := hp1
  rw [hsE] at hz hzt
  have hzl : s.ops.length = p1.2.2.1.n := hz.1.symm
  refine tr_region ?_
  refine tl_step rfl (oj_val (y_move (fe_t rfl)) ?_)
  refine tl_step rfl (oj_val (y_neq (fe_t rfl) fe_c) ?_)
  refine tl_nil ?_
  refine tx_then ?_
  refine tr_condp (fe_t rfl) (fun hq1 => ?_) (fun hq2 => ?_)
  · exact absurd hq1 (by rw [her]; decide)
  · refine tr_skip ?_
    refine tx_then ?_
    refine tr_seq ?_
    rw [hsE]
    refine tr_region ?_
    refine tl_step rfl (oj_val (y_fieldAddr (td := 3) Tryz.underlying52 rfl rfl Tryz.sizeOf3 (o' := 0) rfl (fe_t rfl)) ?_)
    refine tl_step rfl (oj_val (y_ldb 0 Tryz.isAgg3 (fe_t rfl) rfl rfl) ?_)
    refine tl_step rfl (oj_val (y_fieldAddr (td := 3) Tryz.underlying52 rfl rfl Tryz.sizeOf3 (o' := 1) rfl (fe_t rfl)) ?_)
    refine tl_step rfl (oj_val (y_ldb 0 Tryz.isAgg3 (fe_t rfl) rfl rfl) ?_)
    refine tl_step rfl (oj_val (y_fieldAddr (td := 3) Tryz.underlying52 rfl rfl Tryz.sizeOf3 (o' := 2) rfl (fe_t rfl)) ?_)
    refine tl_step rfl (oj_val (y_ldb 0 Tryz.isAgg3 (fe_t rfl) rfl rfl) ?_)
    refine tl_step rfl (oj_val (y_fieldAddr (td := 50) Tryz.underlying52 rfl rfl Tryz.sizeOf50 (o' := 3) rfl (fe_t rfl)) ?_)
    refine tl_step rfl (oj_val (y_ldb 0 Tryz.isAgg50 (fe_t rfl) rfl rfl) ?_)
    refine tl_step rfl (oj_call Tryz.call16 fe_f (fel_cons (fe_t rfl) (fel_cons (fe_t rfl) (fel_cons (fe_t rfl) (fel_cons (fe_t rfl) fel_nil)))) (fun w' hS => playE s _ _ _ w' (ops_rd hS 1 rfl hz) hzl (by omega) hk) (fun q0 hq => ?_))
    refine tl_step rfl (oj_val (y_move (fe_t rfl)) ?_)
    refine tl_step rfl (oj_val (y_extract (fe_t rfl) rfl) ?_)
    refine tl_step rfl (oj_val (y_extract (fe_t rfl) rfl) ?_)
    refine tl_step rfl (oj_val (y_extract (fe_t rfl) rfl) ?_)
    refine tl_step rfl (oj_alloc Tryz.zeroValue61 (fun b2 => ?_))
    refine tl_step rfl (oj_val (y_assign (fe_t rfl)) ?_)
    refine tl_step rfl (oj_storeW 0 Tryz.sizeOf61 (fe_t rfl) (fe_t rfl) rfl rfl rfl rfl rfl (?_))
    refine tl_step rfl (oj_val (y_assign (fe_t rfl)) ?_)
    refine tl_nil ?_
    refine tx_then ?_
    refine tr_seq ?_
    refine tr_seq ?_
    refine tr_region ?_
    refine tl_step rfl (oj_val (y_move (fe_t rfl)) ?_)
    refine tl_step rfl (oj_val (y_neq (fe_t rfl) fe_c) ?_)
    refine tl_nil ?_
    refine tx_then ?_
    refine tr_condp (fe_t rfl) (fun hq3 => ?_) (fun hq4 => ?_)
    · exact absurd hq3 (by decide)
    · refine tr_skip ?_
      refine tx_then ?_
      refine tr_seq ?_
      have hq_2 := hq.2.1
      have hq_4 := hq.2.2.2.1
      have hq_5 := hq.2.2.2.2.1
      have hq_6 := hq.2.2.2.2.2
      have hgd := hq.good hk
      have hbs := lefts_ok hgd (by omega)
      refine tr_region ?_
      refine tl_step rfl (oj_val (y_assign fe_c) ?_)
      refine tl_nil ?_
      refine tx_then ?_
      refine tr_seq ?_
      refine tr_seq ?_
      refine tr_region ?_
      refine tl_step rfl (oj_val (y_move (fe_t rfl)) ?_)
      refine tl_step rfl (oj_val (y_len Tryz.underlying55 (fe_t rfl)) ?_)
      refine tl_step rfl (oj_val (y_move fe_c) ?_)
      refine tl_nil ?_
      refine tx_then ?_
      refine tr_block ?_
      refine tr_add (r := vec 9 1 (.slice none 0 0) 0 []) vec_nil rfl ?_
      refine tr_loop2 [9, 10, 11, 12, 14, 45, 46, 47, 48, 49, 50, 51, 52, 53, 54, 55, 56, 57, 58, 59, 60, 61, 62, 63, 64, 65, 66, 67, 68, 69, 70, 71, 72, 73, 74, 75, 76, 77, 78, 79, 80, 81] (fun (k : Nat) (z : Vs) => [(45, .int .i64 (k : Int)), (9, .slice z.A z.n z.c)]) 0 (fun (k : Nat) (z : Vs) => [(0, vec 9 1 (.slice z.A z.n z.c) z.n z.xs)]) (fun (k : Nat) (z : Vs) => k ≤ s.ops.length ∧ z.n = k ∧ z.xs = ((tellL (opsI s.ops) (q0.2.1.map PA.a)).take k).map str) (fun (k : Nat) (z : Vs) => s.ops.length - k) (0) (⟨none, 0, 0, []⟩ : Vs) (cov_cons (by first | rfl | exact v_int (by omega) | exact v_bool (by simp [*])) (cov_cons (by first | rfl | exact v_int (by omega) | exact v_bool (by simp [*])) (cov_nil))) (fun w h => h) ?_ ?_
      · try dsimp only
        exact ⟨by omega, rfl, rfl⟩
      intro k z hp
      obtain ⟨hk1, hzn, hzx⟩ := hp
      refine tr_seq ?_
      refine tr_region ?_
      refine tl_step rfl (oj_val (y_lss (fe_t rfl) (fe_t rfl)) ?_)
      refine tl_nil ?_
      refine tx_then ?_
      refine tr_seq ?_
      refine tr_condp (fe_t rfl) (fun hq5 => ?_) (fun hq6 => ?_)
      · refine tr_skip ?_
        refine tx_then ?_
        refine tr_seq ?_
        refine tr_block ?_
        refine tr_seq ?_
        obtain ⟨hae, hax, hal⟩ := hq.ans hk (show k < q0.2.1.length by omega)
        refine tr_region ?_
        refine tl_step rfl (oj_val (y_move (fe_t rfl)) ?_)
        refine tl_step rfl (oj_val (y_index Tryz.underlying55 Tryz.sizeOf65 (fe_t rfl) (fe_t rfl) (rdl_vec 3 rfl) (by rw [hq_5, cP_len, hq_4]) (by decide) (by omega) rfl) ?_)
        refine tl_step rfl (oj_val (y_ldA Tryz.isAgg65 Tryz.sizeOf65 (fe_t rfl) (rdl_vec 3 rfl) rfl (by decide) (by rw [hq_5]; exact flatGA (d := PA.nil) hcP (by omega))) ?_)
        refine tl_step rfl (oj_alloc Tryz.zeroValue65 (fun b3 => ?_))
        refine tl_step rfl (oj_val (y_assign (fe_t rfl)) ?_)
        refine tl_step rfl (oj_storeW 0 Tryz.sizeOf65 (fe_t rfl) (fe_t rfl) rfl rfl rfl rfl rfl (?_))
        refine tl_nil ?_
        refine tx_then ?_
        refine tr_seq ?_
        refine tr_region ?_
        refine tl_step rfl (oj_val (y_assign fe_c) ?_)
        refine tl_nil ?_
        refine tx_then ?_
        refine tr_seq ?_
        refine tr_seq ?_
        refine tr_region ?_
        refine tl_step rfl (oj_val (y_fieldAddr (td := 24) Tryz.underlying65 rfl rfl Tryz.sizeOf24 (o' := 0) rfl (fe_t rfl)) ?_)
        refine tl_step rfl (oj_val (y_ldb 0 Tryz.isAgg24 (fe_t rfl) rfl rfl) ?_)
        refine tl_step rfl (oj_val (y_neq (fe_t rfl) fe_c) ?_)
        refine tl_nil ?_
        refine tx_then ?_
        refine tr_condp (fe_t rfl) (fun hq7 => ?_) (fun hq8 => ?_)
        · refine tr_region ?_
          refine tl_step rfl (oj_val (y_fieldAddr (td := 24) Tryz.underlying65 rfl rfl Tryz.sizeOf24 (o' := 0) rfl (fe_t rfl)) ?_)
          refine tl_step rfl (oj_val (y_ldb 0 Tryz.isAgg24 (fe_t rfl) rfl rfl) ?_)
          refine tl_step rfl (oj_callv Tryz.call17 fe_f (fel_cons (fe_t rfl) fel_nil) (fun w' hS => itoaE (hw.st hS) (q0.2.1.getD k PA.nil).er (by omega) (by omega)) ?_)
          refine tl_step rfl (oj_val (y_cat fe_c (fe_t rfl) (by have e1 := itoa_le (n := (q0.2.1.getD k PA.nil).er) (by omega) (by omega); simp only [List.length_append, List.length_cons, List.length_nil]; omega)) ?_)
          refine tl_step rfl (oj_val (y_assign (fe_t rfl)) ?_)
          refine tl_nil ?_
          refine tx_then ?_
          refine tr_region ?_
          refine tl_step rfl (oj_val (y_move (fe_t rfl)) ?_)
          refine tl_step rfl (oj_val (y_move (fe_t rfl)) ?_)
          refine tl_step rfl (oj_slice1 Tryz.underlying39 Tryz.sizeOf9 Tryz.zeroValue9 (fe_t rfl) (by decide) rfl (fun b4 => ?_))
          refine tl_step rfl (oj_append (i := 2) (s := 1) (z := (.string (ByteArray.mk #[]))) (bytes := 16) Tryz.underlying39 (by kernel_rfl) (fe_t rfl) (fe_t rfl) rfl (rdl_blk 0 rfl) rfl (by decide) (by first | exact oneI | exact oneF (fun _ => rfl) | exact fun u hu => List.all_eq_true.1 (show List.all _ (fun x => x.oneCell') = true from rfl) u hu | (intro u hu; revert u hu; simp [Value.oneCell'])) (by decide) ⟨by omega, by decide⟩ (fun Aa1 ca1 hca1 => ?_))
          refine tl_step rfl (oj_val (y_assign (fe_t rfl)) ?_)
          refine tl_nil ?_
          refine tx_in ?_
          refine tx_then ?_
          refine tr_region ?_
          refine tl_step rfl (oj_val (y_inc (fe_t rfl) fe_c (by omega)) ?_)
          refine tl_step rfl (oj_val (y_move (fe_t rfl)) ?_)
          refine tl_nil ?_
          apply tx_back2 (k + 1) ((⟨_, _, _, _⟩ : Vs))
          · exact (cov_cons (by first | rfl | exact v_int (by omega) | exact v_bool (by simp [*])) (cov_cons (by first | rfl | exact v_int (by omega) | exact v_bool (by simp [*])) (cov_nil)))
          · repeat (first | exact over_nil | refine over_put rfl ?_ | refine over_drop rfl ?_)
          · exact fun w h => h.pick [2, 3, 4, 5, 6, 7, 8] _ rfl (by decide)
          · refine ⟨⟨by omega, by dsimp only; omega, ?_⟩, by omega⟩
            dsimp only
            rw [line_next hq (show k < s.ops.length by omega), List.map_append, hzx, ans_err (by assumption)]
            rfl
        · refine tr_seq ?_
          refine tr_region ?_
          refine tl_step rfl (oj_val (y_fieldAddr (td := 50) Tryz.underlying52 rfl rfl Tryz.sizeOf50 (o' := 3) rfl (fe_t rfl)) ?_)
          refine tl_step rfl (oj_val (y_ldb 6 Tryz.isAgg50 (fe_t rfl) rfl rfl) ?_)
          refine tl_step rfl (oj_val (y_move (fe_t rfl)) ?_)
          refine tl_step rfl (oj_val (y_index Tryz.underlying50 Tryz.sizeOf68 (fe_t rfl) (fe_t rfl) (rdl_vec 7 rfl) (by rw [hz.2, c2_len]; omega) (by decide) (by omega) rfl) ?_)
          refine tl_step rfl (oj_val (y_fieldAddrE (td := 3) Tryz.underlying68 rfl rfl Tryz.sizeOf3 rfl (fe_t rfl) (rdl_vec 7 rfl) (by rw [hz.2, c2_len]; omega)) ?_)
          refine tl_step rfl (oj_val (y_ld Tryz.isAgg3 (fe_t rfl) (rdl_vec 7 rfl) (getK hz.2 (by omega))) ?_)
          refine tl_step rfl (oj_val (y_eq (fe_t rfl) fe_c) ?_)
          refine tl_nil ?_
          refine tx_then ?_
          refine tr_condp (fe_t rfl) (fun hq9 => ?_) (fun hq10 => ?_)
          · refine tr_seq ?_
            refine tr_region ?_
            refine tl_step rfl (oj_val (y_assign fe_c) ?_)
            refine tl_nil ?_
            refine tx_then ?_
            refine tr_seq ?_
            refine tr_region ?_
            refine tl_step rfl (oj_val (y_fieldAddr (td := 22) Tryz.underlying65 rfl rfl Tryz.sizeOf22 (o' := 1) rfl (fe_t rfl)) ?_)
            refine tl_step rfl (oj_val (y_ldb 0 Tryz.isAgg22 (fe_t rfl) rfl rfl) ?_)
            refine tl_step rfl (oj_val (y_len Tryz.underlying22 (fe_t rfl)) ?_)
            refine tl_step rfl (oj_val (y_move fe_c) ?_)
            refine tl_nil ?_
            refine tx_then ?_
            refine tr_block ?_
            refine tr_loop2 [12, 14, 67, 68, 69, 70, 71, 72, 73, 74, 75, 76] (fun (j : Nat) (u : List UInt8) => [(67, .int .i64 (j : Int)), (12, str u)]) 0 (fun (j : Nat) (u : List UInt8) => []) (fun (j : Nat) (u : List UInt8) => j ≤ (q0.2.1.getD k PA.nil).xs.length ∧ u = joinN sSent ((q0.2.1.getD k PA.nil).xs.take j)) (fun (j : Nat) (u : List UInt8) => (q0.2.1.getD k PA.nil).xs.length - j) (0) (_) (cov_cons (by first | rfl | exact v_int (by omega) | exact v_bool (by simp [*])) (cov_cons (by first | rfl | exact v_int (by omega) | exact v_bool (by simp [*])) (cov_nil))) (fun w h => h) ?_ ?_
            · try dsimp only
              exact ⟨by omega, rfl⟩
            intro j u hp
            obtain ⟨hj, hu⟩ := hp
            refine tr_seq ?_
            refine tr_region ?_
            refine tl_step rfl (oj_val (y_lss (fe_t rfl) (fe_t rfl)) ?_)
            refine tl_nil ?_
            refine tx_then ?_
            refine tr_seq ?_
            refine tr_condp (fe_t rfl) (fun hq11 => ?_) (fun hq12 => ?_)
            · refine tr_skip ?_
              refine tx_then ?_
              refine tr_seq ?_
              refine tr_block ?_
              refine tr_seq ?_
              have hbx := hax _ (List.getElem_mem (show j < (q0.2.1.getD k PA.nil).xs.length by omega))
              refine tr_region ?_
              refine tl_step rfl (oj_val (y_index Tryz.underlying22 Tryz.sizeOf3 (fe_t rfl) (fe_t rfl) (rdl_sub (l := q0.2.1) 5 rfl (by omega)) (by rw [cI, List.length_map, Nat.mul_one]) (by decide) (by omega) (Nat.mul_one _)) ?_)
              refine tl_step rfl (oj_val (y_ld (v := (.int .i64 ((q0.2.1.getD k PA.nil).xs[j]'(by omega)))) Tryz.isAgg3 (fe_t rfl) (rdl_sub (l := q0.2.1) 5 rfl (by omega)) (getI (by omega))) ?_)
              refine tl_step rfl (oj_val (y_assign (fe_t rfl)) ?_)
              refine tl_nil ?_
              refine tx_then ?_
              refine tr_region ?_
              refine tl_step rfl (oj_val (y_move (fe_t rfl)) ?_)
              refine tl_step rfl (oj_val (y_move (fe_t rfl)) ?_)
              refine tl_step rfl (oj_callv Tryz.call17 fe_f (fel_cons (fe_t rfl) fel_nil) (fun w' hS => itoaE (hw.st hS) ((q0.2.1.getD k PA.nil).xs[j]'(by omega)) (by omega) (by omega)) ?_)
              refine tl_step rfl (oj_val (y_cat fe_c (fe_t rfl) (by have e1 := itoa_le (n := (q0.2.1.getD k PA.nil).xs[j]'(by omega)) (by omega) (by omega); have e2 := joinN_len ((q0.2.1.getD k PA.nil).xs.take j) sSent (fun x hx => by have := hax x (List.mem_of_mem_take hx); unfold i64; omega); rw [List.length_take] at e2; rw [← hu] at e2; have e3 : sSent.length = 4 := rfl; have e4 := Nat.min_le_right j (q0.2.1.getD k PA.nil).xs.length; simp only [List.length_append, List.length_cons, List.length_nil]; omega)) ?_)
              refine tl_step rfl (oj_val (y_cat (fe_t rfl) (fe_t rfl) (by have e1 := itoa_le (n := (q0.2.1.getD k PA.nil).xs[j]'(by omega)) (by omega) (by omega); have e2 := joinN_len ((q0.2.1.getD k PA.nil).xs.take j) sSent (fun x hx => by have := hax x (List.mem_of_mem_take hx); unfold i64; omega); rw [List.length_take] at e2; rw [← hu] at e2; have e3 : sSent.length = 4 := rfl; have e4 := Nat.min_le_right j (q0.2.1.getD k PA.nil).xs.length; simp only [List.length_append, List.length_cons, List.length_nil]; omega)) ?_)
              refine tl_step rfl (oj_val (y_assign (fe_t rfl)) ?_)
              refine tl_nil ?_
              refine tx_in ?_
              refine tx_then ?_
              refine tr_region ?_
              refine tl_step rfl (oj_val (y_inc (fe_t rfl) fe_c (by omega)) ?_)
              refine tl_step rfl (oj_val (y_move (fe_t rfl)) ?_)
              refine tl_nil ?_
              apply tx_back2 (j + 1) (_)
              · exact (cov_cons (by first | rfl | exact v_int (by omega) | exact v_bool (by simp [*])) (cov_cons (by first | rfl | exact v_int (by omega) | exact v_bool (by simp [*])) (cov_nil)))
              · repeat (first | exact over_nil | refine over_put rfl ?_ | refine over_drop rfl ?_)
              · exact fun w h => h.pick [0, 1, 2, 3, 4, 5, 6, 7] _ rfl (by decide)
              · exact ⟨⟨by omega, by rw [joinN_take (by omega), hu]⟩, by omega⟩
            · refine tr_exit ?_
              refine tx_then_exit ?_
              refine tx_then_exit ?_
              refine tx_in_exit ?_
              refine tx_then ?_
              refine tr_region ?_
              refine tl_step rfl (oj_val (y_move (fe_t rfl)) ?_)
              refine tl_step rfl (oj_val (y_move (fe_t rfl)) ?_)
              refine tl_step rfl (oj_slice1 Tryz.underlying39 Tryz.sizeOf9 Tryz.zeroValue9 (fe_t rfl) (by decide) rfl (fun b5 => ?_))
              refine tl_step rfl (oj_append (i := 2) (s := 1) (z := (.string (ByteArray.mk #[]))) (bytes := 16) Tryz.underlying39 (by kernel_rfl) (fe_t rfl) (fe_t rfl) rfl (rdl_blk 0 rfl) rfl (by decide) (by first | exact oneI | exact oneF (fun _ => rfl) | exact fun u hu => List.all_eq_true.1 (show List.all _ (fun x => x.oneCell') = true from rfl) u hu | (intro u hu; revert u hu; simp [Value.oneCell'])) (by decide) ⟨by omega, by decide⟩ (fun Aa2 ca2 hca2 => ?_))
              refine tl_step rfl (oj_val (y_assign (fe_t rfl)) ?_)
              refine tl_nil ?_
              refine tx_in ?_
              refine tx_then ?_
              refine tr_region ?_
              refine tl_step rfl (oj_val (y_inc (fe_t rfl) fe_c (by omega)) ?_)
              refine tl_step rfl (oj_val (y_move (fe_t rfl)) ?_)
              refine tl_nil ?_
              obtain rfl : j = (q0.2.1.getD k PA.nil).xs.length := by omega
              rw [List.take_length] at hu
              apply tx_back2 (k + 1) ((⟨_, _, _, _⟩ : Vs))
              · exact (cov_cons (by first | rfl | exact v_int (by omega) | exact v_bool (by simp [*])) (cov_cons (by first | rfl | exact v_int (by omega) | exact v_bool (by simp [*])) (cov_nil)))
              · repeat (first | exact over_nil | refine over_put rfl ?_ | refine over_drop rfl ?_)
              · exact fun w h => h.pick [2, 3, 4, 5, 6, 7, 8] _ rfl (by decide)
              · refine ⟨⟨by omega, by dsimp only; omega, ?_⟩, by omega⟩
                dsimp only
                rw [line_next hq (show k < s.ops.length by omega), List.map_append, hzx, ans_sent (Classical.not_not.1 (by assumption)) (by assumption)]
                rw [hu]; rfl
          · refine tr_skip ?_
            refine tx_then ?_
            refine tr_region ?_
            refine tl_step rfl (oj_val (y_move (fe_t rfl)) ?_)
            refine tl_step rfl (oj_val (y_move (fe_t rfl)) ?_)
            refine tl_step rfl (oj_slice1 Tryz.underlying39 Tryz.sizeOf9 Tryz.zeroValue9 (fe_t rfl) (by decide) rfl (fun b6 => ?_))
            refine tl_step rfl (oj_append (i := 2) (s := 1) (z := (.string (ByteArray.mk #[]))) (bytes := 16) Tryz.underlying39 (by kernel_rfl) (fe_t rfl) (fe_t rfl) rfl (rdl_blk 0 rfl) rfl (by decide) (by first | exact oneI | exact oneF (fun _ => rfl) | exact fun u hu => List.all_eq_true.1 (show List.all _ (fun x => x.oneCell') = true from rfl) u hu | (intro u hu; revert u hu; simp [Value.oneCell'])) (by decide) ⟨by omega, by decide⟩ (fun Aa3 ca3 hca3 => ?_))
            refine tl_step rfl (oj_val (y_assign (fe_t rfl)) ?_)
            refine tl_nil ?_
            refine tx_in ?_
            refine tx_then ?_
            refine tr_region ?_
            refine tl_step rfl (oj_val (y_inc (fe_t rfl) fe_c (by omega)) ?_)
            refine tl_step rfl (oj_val (y_move (fe_t rfl)) ?_)
            refine tl_nil ?_
            apply tx_back2 (k + 1) ((⟨_, _, _, _⟩ : Vs))
            · exact (cov_cons (by first | rfl | exact v_int (by omega) | exact v_bool (by simp [*])) (cov_cons (by first | rfl | exact v_int (by omega) | exact v_bool (by simp [*])) (cov_nil)))
            · repeat (first | exact over_nil | refine over_put rfl ?_ | refine over_drop rfl ?_)
            · exact fun w h => h.pick [2, 3, 4, 5, 6, 7, 8] _ rfl (by decide)
            · refine ⟨⟨by omega, by dsimp only; omega, ?_⟩, by omega⟩
              dsimp only
              rw [line_next hq (show k < s.ops.length by omega), List.map_append, hzx, ans_ok (Classical.not_not.1 (by assumption)) (by assumption)]
              rfl
      · refine tr_exit ?_
        refine tx_then_exit ?_
        refine tx_then_exit ?_
        refine tx_in_exit ?_
        refine tx_then ?_
        refine tr_seq ?_
        refine tr_region ?_
        refine tl_step rfl (oj_val (y_assign fe_c) ?_)
        refine tl_nil ?_
        refine tx_then ?_
        refine tr_seq ?_
        refine tr_seq ?_
        refine tr_region ?_
        refine tl_step rfl (oj_val (y_fieldAddr (td := 57) Tryz.underlying61 rfl rfl Tryz.sizeOf57 (o' := 0) rfl (fe_t rfl)) ?_)
        refine tl_step rfl (oj_val (y_fieldAddr (td := 22) Tryz.underlying57 rfl rfl Tryz.sizeOf22 (o' := 0) rfl (fe_t rfl)) ?_)
        refine tl_step rfl (oj_val (y_ldb 1 Tryz.isAgg22 (fe_t rfl) rfl rfl) ?_)
        refine tl_step rfl (oj_val (y_len Tryz.underlying22 (fe_t rfl)) ?_)
        refine tl_step rfl (oj_val (y_fieldAddr (td := 57) Tryz.underlying61 rfl rfl Tryz.sizeOf57 (o' := 0) rfl (fe_t rfl)) ?_)
        refine tl_step rfl (oj_val (y_fieldAddr (td := 3) Tryz.underlying57 rfl rfl Tryz.sizeOf3 (o' := 3) rfl (fe_t rfl)) ?_)
        refine tl_step rfl (oj_val (y_ldb 1 Tryz.isAgg3 (fe_t rfl) rfl rfl) ?_)
        refine tl_step rfl (oj_val (y_fieldAddr (td := 3) Tryz.underlying61 rfl rfl Tryz.sizeOf3 (o' := 9) rfl (fe_t rfl)) ?_)
        refine tl_step rfl (oj_val (y_ldb 1 Tryz.isAgg3 (fe_t rfl) rfl rfl) ?_)
        refine tl_step rfl (oj_val (y_fieldAddr (td := 59) Tryz.underlying61 rfl rfl Tryz.sizeOf59 (o' := 4) rfl (fe_t rfl)) ?_)
        refine tl_step rfl (oj_val (y_fieldAddr (td := 3) Tryz.underlying59 rfl rfl Tryz.sizeOf3 (o' := 7) rfl (fe_t rfl)) ?_)
        refine tl_step rfl (oj_val (y_ldb 1 Tryz.isAgg3 (fe_t rfl) rfl rfl) ?_)
        refine tl_step rfl (oj_val (y_fieldAddr (td := 59) Tryz.underlying61 rfl rfl Tryz.sizeOf59 (o' := 4) rfl (fe_t rfl)) ?_)
        refine tl_step rfl (oj_val (y_fieldAddr (td := 3) Tryz.underlying59 rfl rfl Tryz.sizeOf3 (o' := 8) rfl (fe_t rfl)) ?_)
        refine tl_step rfl (oj_val (y_ldb 1 Tryz.isAgg3 (fe_t rfl) rfl rfl) ?_)
        refine tl_step rfl (oj_lit5 Tryz.underlying22 Tryz.sizeOf3 Tryz.zeroValue3 rfl (fe_t rfl) (fe_t rfl) (fe_t rfl) (fe_t rfl) (fe_t rfl) rfl rfl rfl rfl rfl (fun g_v1 => ?_))
        refine tl_step rfl (oj_val (y_len Tryz.underlying22 (fe_t rfl)) ?_)
        refine tl_step rfl (oj_val (y_move fe_c) ?_)
        refine tl_nil ?_
        refine tx_then ?_
        refine tr_block ?_
        refine tr_loop2 [15, 17, 99, 100, 101, 102, 103, 104, 105, 106, 107, 108] (fun (i : Nat) (u : List UInt8) => [(99, .int .i64 (i : Int)), (15, str u)]) 0 (fun (i : Nat) (u : List UInt8) => []) (fun (i : Nat) (u : List UInt8) => i ≤ 5 ∧ u = joinN sLeft ((lefts q0.1).take i)) (fun (i : Nat) (u : List UInt8) => 5 - i) (0) (_) (cov_cons (by first | rfl | exact v_int (by omega) | exact v_bool (by simp [*])) (cov_cons (by first | rfl | exact v_int (by omega) | exact v_bool (by simp [*])) (cov_nil))) (fun w h => h) ?_ ?_
        · try dsimp only
          exact ⟨by omega, rfl⟩
        intro i u hp
        obtain ⟨hi, hu⟩ := hp
        have hll : (lefts q0.1).length = 5 := rfl
        refine tr_seq ?_
        refine tr_region ?_
        refine tl_step rfl (oj_val (y_lss (fe_t rfl) (fe_t rfl)) ?_)
        refine tl_nil ?_
        refine tx_then ?_
        refine tr_seq ?_
        refine tr_condp (fe_t rfl) (fun hq13 => ?_) (fun hq14 => ?_)
        · refine tr_skip ?_
          refine tx_then ?_
          refine tr_seq ?_
          refine tr_block ?_
          refine tr_seq ?_
          have hbi := hbs _ (List.getElem_mem (show i < (lefts q0.1).length by omega))
          refine tr_region ?_
          refine tl_step rfl (oj_val (y_index Tryz.underlying22 Tryz.sizeOf3 (fe_t rfl) (fe_t rfl) (rdl_vec 0 rfl) (rfl) (by decide) (by omega) (Nat.mul_one _)) ?_)
          refine tl_step rfl (oj_val (y_ld Tryz.isAgg3 (fe_t rfl) (rdl_vec 0 rfl) (getE (n := 0) hq_2 (show i < 5 by omega))) ?_)
          refine tl_step rfl (oj_val (y_assign (fe_t rfl)) ?_)
          refine tl_nil ?_
          refine tx_then ?_
          refine tr_region ?_
          refine tl_step rfl (oj_val (y_move (fe_t rfl)) ?_)
          refine tl_step rfl (oj_val (y_move (fe_t rfl)) ?_)
          refine tl_step rfl (oj_callv Tryz.call17 fe_f (fel_cons (fe_t rfl) fel_nil) (fun w' hS => itoaE (hw.st hS) ((lefts q0.1)[i]'(by omega)) hbi.1 hbi.2) ?_)
          refine tl_step rfl (oj_val (y_cat fe_c (fe_t rfl) (by have e1 := itoa_le (n := (lefts q0.1)[i]'(by omega)) hbi.1 hbi.2; have e2 := joinN_len ((lefts q0.1).take i) sLeft (fun x hx => hbs x (List.mem_of_mem_take hx)); rw [List.length_take] at e2; rw [← hu] at e2; have e3 : sLeft.length = 4 := rfl; have e4 := Nat.min_le_right i (lefts q0.1).length; simp only [List.length_append, List.length_cons, List.length_nil]; omega)) ?_)
          refine tl_step rfl (oj_val (y_cat (fe_t rfl) (fe_t rfl) (by have e1 := itoa_le (n := (lefts q0.1)[i]'(by omega)) hbi.1 hbi.2; have e2 := joinN_len ((lefts q0.1).take i) sLeft (fun x hx => hbs x (List.mem_of_mem_take hx)); rw [List.length_take] at e2; rw [← hu] at e2; have e3 : sLeft.length = 4 := rfl; have e4 := Nat.min_le_right i (lefts q0.1).length; simp only [List.length_append, List.length_cons, List.length_nil]; omega)) ?_)
          refine tl_step rfl (oj_val (y_assign (fe_t rfl)) ?_)
          refine tl_nil ?_
          refine tx_in ?_
          refine tx_then ?_
          refine tr_region ?_
          refine tl_step rfl (oj_val (y_inc (fe_t rfl) fe_c (by omega)) ?_)
          refine tl_step rfl (oj_val (y_move (fe_t rfl)) ?_)
          refine tl_nil ?_
          apply tx_back2 (i + 1) (_)
          · exact (cov_cons (by first | rfl | exact v_int (by omega) | exact v_bool (by simp [*])) (cov_cons (by first | rfl | exact v_int (by omega) | exact v_bool (by simp [*])) (cov_nil)))
          · repeat (first | exact over_nil | refine over_put rfl ?_ | refine over_drop rfl ?_)
          · exact fun w h => h.pick [0, 1, 2, 3, 4, 5, 6, 7] _ rfl (by decide)
          · exact ⟨⟨by omega, by rw [joinN_take (show i < (lefts q0.1).length by omega), hu]⟩, by omega⟩
        · refine tr_exit ?_
          refine tx_then_exit ?_
          refine tx_then_exit ?_
          refine tx_in_exit ?_
          refine tx_then ?_
          refine tr_seq ?_
          refine tr_region ?_
          refine tl_step rfl (oj_val (y_move (fe_t rfl)) ?_)
          refine tl_step rfl (oj_val (y_move (fe_t rfl)) ?_)
          refine tl_step rfl (oj_slice1 Tryz.underlying39 Tryz.sizeOf9 Tryz.zeroValue9 (fe_t rfl) (by decide) rfl (fun b7 => ?_))
          refine tl_step rfl (oj_append (i := 2) (s := 1) (z := (.string (ByteArray.mk #[]))) (bytes := 16) Tryz.underlying39 (by kernel_rfl) (fe_t rfl) (fe_t rfl) rfl (rdl_blk 0 rfl) rfl (by decide) (by first | exact oneI | exact oneF (fun _ => rfl) | exact fun u hu => List.all_eq_true.1 (show List.all _ (fun x => x.oneCell') = true from rfl) u hu | (intro u hu; revert u hu; simp [Value.oneCell'])) (by decide) ⟨by omega, by decide⟩ (fun Aa4 ca4 hca4 => ?_))
          refine tl_step rfl (oj_val (y_assign (fe_t rfl)) ?_)
          refine tl_step rfl (oj_val (y_assign fe_c) ?_)
          refine tl_nil ?_
          refine tx_then ?_
          refine tr_ret ?_
          refine tx_ret (res2 Tryz.results9 (rok_t rfl) (rok_t rfl)) (fun w' hS => ?_)
          obtain rfl : i = 5 := by omega
          have hkn : k = s.ops.length := by omega
          have hT := tell_ok hp hk hq
          have htl : (tellL (opsI s.ops) (q0.2.1.map PA.a)).take k = (tellL (opsI s.ops) (q0.2.1.map PA.a)) := List.take_of_length_le (by rw [lines_len hq]; omega)
          rw [htl] at hzx
          have hu2 : u = leftL q0.1 := hu
          refine ⟨⟨_, _, _, _⟩, ⟨?_, ?_⟩, by rw [hT], hS.pick [2] _ rfl (by decide)⟩
          · rw [hT]; dsimp only; rw [List.length_append, lines_len hq, hzn, hkn]; rfl
          · rw [hT]; dsimp only; rw [List.map_append, hzx, hu2]; rfl

theorem tellE {w : World} (hw : Gw w) (t : List UInt8) (ht : TOk t) : Calls Tryz.prog 9 #[str t] w (fun e w' => ∃ q : Vs, (q.n = (tell t).1.length ∧ q.xs = (tell t).1.map str) ∧ e = .returned (.tuple #[.slice q.A q.n q.c, (.int .i64 ((tell t).2))]) ∧ St w w' [vec 9 1 (.slice q.A q.n q.c) q.n q.xs]) := by
  rcases hp : parse t with ⟨k, _ | s⟩
  · exact tl_bad hw ht.len hp
  · have h0 : k = 0 := parse_zero hp
    subst h0
    cases hk : okb s.num s.den s.burst with
    | true => exact tl_ok hw ht.len hp hk (ht.ops _ _ hp)
    | false => exact tl_no hw ht.len hp hk

end Go.Proofs.YtoibebmhfcjpfaaGreatDoor.Bn

namespace Go.Proofs.YtoibebmhfcjpfaaGreatDoor.Bn
open Go.RowKit Go.Lib Go.Proofs.YtoibebmhfcjpfaaGreatDoor.E Go.Proofs.YtoibebmhfcjpfaaGreatDoor.Pace Go.Proofs.YtoibebmhfcjpfaaGreatDoor.Bucket

set_option maxRecDepth 100000 in
set_option maxHeartbeats 2000000 in
theorem eqs_at {A B : Option Addr} {n c d : Nat} {ls : List (List UInt8)} (w : World) (hA : Rd w A (ls.map str)) (hB : Rd w B (ls.map str)) (hn : n = ls.length) (hm : n ≤ 1000000000) :
    Calls Tryz.prog 10 #[.slice A n c, .slice B n d] w fun e w' => e = .returned (.bool true) ∧ St w w' [] := by
  refine calls_tr Tryz.func10 Tryz.ntmps10 rfl rfl (St.refl _) ?_
  refine tr_seq ?_
  refine tr_region ?_
  refine tl_step rfl (oj_val (y_assign fe_c) ?_)
  refine tl_nil ?_
  refine tx_then ?_
  refine tr_seq ?_
  refine tr_seq ?_
  refine tr_region ?_
  refine tl_step rfl (oj_val (y_move (fe_t rfl)) ?_)
  refine tl_step rfl (oj_val (y_len Tryz.underlying39 (fe_t rfl)) ?_)
  refine tl_step rfl (oj_val (y_move (fe_t rfl)) ?_)
  refine tl_step rfl (oj_val (y_len Tryz.underlying39 (fe_t rfl)) ?_)
  refine tl_step rfl (oj_val (y_neq (fe_t rfl) (fe_t rfl)) ?_)
  refine tl_nil ?_
  refine tx_then ?_
  refine tr_condp (fe_t rfl) (fun hq1 => ?_) (fun hq2 => ?_)
  · try (exfalso; omega)
    all_goals
      refine tr_seq ?_
      refine tr_region ?_
      refine tl_step rfl (oj_val (y_assign fe_c) ?_)
      refine tl_nil ?_
      refine tx_then ?_
      refine tr_ret ?_
      refine tx_then_ret ?_
      refine tx_ret (res1 Tryz.results10 (rok_t rfl)) (fun w' hS => ?_)
      exact ⟨rfl, hS.pick [] _ rfl (by decide)⟩
  · try (exfalso; omega)
    all_goals
      refine tr_skip ?_
      refine tx_then ?_
      refine tr_seq ?_
      refine tr_seq ?_
      refine tr_region ?_
      refine tl_step rfl (oj_val (y_move (fe_t rfl)) ?_)
      refine tl_step rfl (oj_val (y_len Tryz.underlying39 (fe_t rfl)) ?_)
      refine tl_step rfl (oj_val (y_move fe_c) ?_)
      refine tl_nil ?_
      refine tx_then ?_
      refine tr_block ?_
      refine tr_loop1 [4, 5, 13, 14, 15, 16, 17, 18, 19, 20, 21, 22, 23, 24, 25] (fun (i : Nat) => [(13, .int .i64 (i : Int))]) 0 (fun (i : Nat) => []) (fun (i : Nat) => i ≤ n) (fun (i : Nat) => n - i) (0) (cov_cons (by first | rfl | exact v_int (by omega) | exact v_bool (by simp [*])) (cov_nil)) (fun w h => h) ?_ ?_
      · try dsimp only
        omega
      intro i hp
      have hi := hp
      refine tr_seq ?_
      refine tr_region ?_
      refine tl_step rfl (oj_val (y_lss (fe_t rfl) (fe_t rfl)) ?_)
      refine tl_nil ?_
      refine tx_then ?_
      refine tr_seq ?_
      refine tr_condp (fe_t rfl) (fun hq3 => ?_) (fun hq4 => ?_)
      · try (exfalso; omega)
        all_goals
          refine tr_skip ?_
          refine tx_then ?_
          refine tr_seq ?_
          refine tr_block ?_
          refine tr_seq ?_
          refine tr_region ?_
          refine tl_step rfl (oj_val (y_move (fe_t rfl)) ?_)
          refine tl_step rfl (oj_val (y_assign (fe_t rfl)) ?_)
          refine tl_nil ?_
          refine tx_then ?_
          refine tr_seq ?_
          refine tb_draw 9 (sel _ []) (fun w h => h.sel _ rfl (by decide)) rfl ?_
          refine tb_float (i := 0) rfl (by kernel_rfl) rfl (wants_none rfl) (yq_of (y_move (fe_t rfl))) ?_
          refine tb_float (i := 1) rfl (by kernel_rfl) rfl (wants_none rfl) (yq_of (y_move (fe_t rfl))) ?_
          refine tb_float (i := 2) rfl (by kernel_rfl) rfl (wants_none rfl) (yq_of (y_index Tryz.underlying39 Tryz.sizeOf9 (fe_t rfl) (fe_t rfl) (rdl_out hA) (by rw [List.length_map]; omega) (by decide) (by omega) (Nat.mul_one _))) ?_
          refine tb_float (i := 3) rfl (by kernel_rfl) rfl (wants_none rfl) (yq_of (y_ld Tryz.isAgg9 (fe_t rfl) (rdl_out hA) (getS (ws := ls) (by omega)))) ?_
          refine tb_float (i := 4) rfl (by kernel_rfl) rfl (wants_none rfl) (yq_of (y_move (fe_t rfl))) ?_
          refine tb_float (i := 5) rfl (by kernel_rfl) rfl (wants_none rfl) (yq_of (y_move (fe_t rfl))) ?_
          refine tb_float (i := 6) rfl (by kernel_rfl) rfl (wants_none rfl) (yq_of (y_index Tryz.underlying39 Tryz.sizeOf9 (fe_t rfl) (fe_t rfl) (rdl_out hB) (by rw [List.length_map]; omega) (by decide) (by omega) (Nat.mul_one _))) ?_
          refine tb_float (i := 7) rfl (by kernel_rfl) rfl (wants_none rfl) (yq_of (y_ld Tryz.isAgg9 (fe_t rfl) (rdl_out hB) (getS (ws := ls) (by omega)))) ?_
          refine tb_float (i := 8) rfl (by kernel_rfl) rfl (wants_none rfl) (yq_of (y_nes (fe_t rfl) (fe_t rfl))) ?_
          refine tb_done (by kernel_rfl) ?_
          refine tx_then ?_
          refine tr_condp (fe_t rfl) (fun hq5 => ?_) (fun hq6 => ?_)
          · exact absurd rfl hq5
          · try (exfalso; omega)
            all_goals
              refine tr_skip ?_
              refine tx_in ?_
              refine tx_then ?_
              refine tr_region ?_
              refine tl_step rfl (oj_val (y_inc (fe_t rfl) fe_c (by omega)) ?_)
              refine tl_step rfl (oj_val (y_move (fe_t rfl)) ?_)
              refine tl_nil ?_
              apply tx_back1 (i + 1)
              · exact (cov_cons (by first | rfl | exact v_int (by omega) | exact v_bool (by simp [*])) (cov_nil))
              · repeat (first | exact over_nil | refine over_put rfl ?_ | refine over_drop rfl ?_)
              · exact fun w h => h.pick [] _ rfl (by decide)
              · exact ⟨by omega, by omega⟩
      · try (exfalso; omega)
        all_goals
          refine tr_exit ?_
          refine tx_then_exit ?_
          refine tx_then_exit ?_
          refine tx_in_exit ?_
          refine tx_then ?_
          refine tr_seq ?_
          refine tr_region ?_
          refine tl_step rfl (oj_val (y_assign fe_c) ?_)
          refine tl_nil ?_
          refine tx_then ?_
          refine tr_ret ?_
          refine tx_ret (res1 Tryz.results10 (rok_t rfl)) (fun w' hS => ?_)
          exact ⟨rfl, hS.pick [] _ rfl (by decide)⟩

theorem eqsE {A B : Option Addr} {n m c d : Nat} {xs ys : List Value} {ls : List (List UInt8)} (w : World) (hA : Rd w A xs) (hB : Rd w B ys) (hx : xs = ls.map str) (hy : ys = ls.map str) (hn : n = ls.length) (hm : m = ls.length) (hb : n ≤ 1000000000) :
    Calls Tryz.prog 10 #[.slice A n c, .slice B m d] w fun e w' => e = .returned (.bool true) ∧ St w w' [] := by
  subst hx hy hm
  obtain rfl := hn
  exact eqs_at w hA hB rfl hb
theorem rd_at {w0 w : World} {L : List Res} {e n c : Nat} {A : Option Addr} {xs : List Value} (hS : St w0 w L) (i : Nat) (hi : lget L i = some (vec e 1 (.slice A n c) n xs)) : Rd w A xs := (OwnV.rd (hS.holds i _ hi)).2.2
end Go.Proofs.YtoibebmhfcjpfaaGreatDoor.Bn
