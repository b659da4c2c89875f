/- Walks: a script read. -/
import Derived.Test.YtfcpmcdlgkfolaaDoorBnC
namespace Go.Proofs.YtfcpmcdlgkfolaaDoor.Bn
open Go.RowKit Go.Lib Go.Proofs.YtfcpmcdlgkfolaaDoor.E

/-- The reader of the k-th line. -/
def rdF (k : Nat) : Nat := if k = 0 then 39 else 40
theorem call_rd (k : Nat) : ∀ args w, (callFunc (rdF k) args).run Tryd.prog w = .ok (.enter (rdF k) args) w := by
  unfold rdF
  split
  · exact Tryd.call39
  · exact Tryd.call40
theorem rdE {k : Nat} {w0 w : World} {T : List Res} {b : Nat} {s : Sc} {z : Vs} (hw : Gw w0) (hS : St w0 w (blk b (cSc s (.slice z.A z.n z.c)) :: vec 52 2 (.slice z.A z.n z.c) z.n z.xs :: T)) (hz : OpsIs z s.ops) (l : List UInt8) (hl : l.length < 4294967281) (hn : s.ops.length ≤ 1000000000) :
    Calls Tryd.prog (rdF k) #[str l, .pointer (some ⟨b, 0, none⟩)] w (fun e w' => ∃ q : Bool × Sc × Vs, (OpsIs q.2.2 q.2.1.ops ∧ read k s l = if q.1 = true then some q.2.1 else none) ∧ e = .returned (.bool q.1) ∧ St w0 w' (blk b (cSc q.2.1 (.slice q.2.2.A q.2.2.n q.2.2.c)) :: vec 52 2 (.slice q.2.2.A q.2.2.n q.2.2.c) q.2.2.n q.2.2.xs :: T)) := by
  by_cases h : k = 0
  · subst h
    exact headE hw hS hz l hl
  · have : rdF k = 40 := if_neg h
    rw [this]
    exact lineE hw hS hz l hl h hn

set_option maxRecDepth 100000 in
set_option maxHeartbeats 2000000 in
theorem parseE {w : World} (hw : Gw w) (t : List UInt8) (hl : t.length ≤ 1000000000) :
    Calls Tryd.prog 11 #[str t] w fun e w' => ∃ q : Nat × Sc × Vs × Nat, (OpsIs q.2.2.1 q.2.1.ops ∧ q.2.1.ops.length ≤ t.length ∧ ((q.2.2.2 = 0 ∧ q.1 = 0 ∧ parse t = (0, some q.2.1)) ∨ (q.2.2.2 = 1 ∧ q.2.1 = sc0 ∧ q.2.2.1.A = none ∧ parse t = (q.1, none)))) ∧ e = .returned (.tuple #[.agg (cSc q.2.1 (.slice q.2.2.1.A q.2.2.1.n q.2.2.1.c)).toArray, (.int .i64 ((q.1 : Int))), (.int .i64 ((q.2.2.2 : Int)))]) ∧ St w w' [vec 52 2 (.slice q.2.2.1.A q.2.2.1.n q.2.2.1.c) q.2.2.1.n q.2.2.1.xs] := by
  refine calls_tr Tryd.func11 Tryd.ntmps11 rfl rfl (St.refl _) ?_
  refine tr_seq ?_
  refine tr_region ?_
  refine tl_step rfl (oj_alloc Tryd.zeroValue24 (fun b2 => ?_))
  refine tl_step rfl (oj_val (y_assign fe_c) ?_)
  refine tl_step rfl (oj_val (y_assign fe_c) ?_)
  refine tl_nil ?_
  refine tx_then ?_
  refine tr_seq ?_
  refine tr_region ?_
  refine tl_step rfl (oj_alloc Tryd.zeroValue24 (fun bs => ?_))
  refine tl_nil ?_
  refine tx_then ?_
  refine tr_seq ?_
  refine tr_region ?_
  refine tl_step rfl (oj_val (y_assign fe_c) ?_)
  refine tl_nil ?_
  refine tx_then ?_
  refine tr_seq ?_
  refine tr_seq ?_
  refine tr_region ?_
  refine tl_step rfl (oj_val (y_assign fe_f) ?_)
  refine tl_nil ?_
  refine tx_then ?_
  refine tr_block ?_
  refine tr_add (r := vec 52 2 (.slice none 0 0) 0 []) vec_nil rfl ?_
  refine tr_loop4 [0, 3, 4, 6, 7, 8, 9, 10, 11, 12, 13, 14, 15, 16, 17, 18, 19, 20, 21, 22, 23, 24, 25, 26, 27, 28, 29, 30, 31, 32, 33, 34, 35] (fun (k : Nat) (u : List UInt8) (s : Sc) (z : Vs) => [(6, .int .i64 (k : Int)), (0, str u), (7, .func (.func (rdF k)) #[] #[])]) 0 (fun (k : Nat) (u : List UInt8) (s : Sc) (z : Vs) => [(1, blk bs (cSc s (.slice z.A z.n z.c))), (0, vec 52 2 (.slice z.A z.n z.c) z.n z.xs)]) (fun (k : Nat) (u : List UInt8) (s : Sc) (z : Vs) => OpsIs z s.ops ∧ s.ops.length ≤ k ∧ k + u.length ≤ t.length ∧ prs k s u = parse t) (fun (k : Nat) (u : List UInt8) (s : Sc) (z : Vs) => u.length) (0) (t) (sc0) (⟨none, 0, 0, []⟩ : Vs) (cov_cons (by first | rfl | exact v_int (by omega) | exact v_bool (by simp [*])) (cov_cons (by first | rfl | exact v_int (by omega) | exact v_bool (by simp [*])) (cov_cons (by first | rfl | exact v_int (by omega) | exact v_bool (by simp [*])) (cov_nil)))) (fun w h => h) ?_ ?_
  · try dsimp only
    exact ⟨⟨rfl, rfl⟩, Nat.zero_le _, by omega, rfl⟩
  intro k u s z hp
  obtain ⟨hz, hsk, hku, hpr⟩ := hp
  refine tr_seq ?_
  refine tr_seq ?_
  refine tr_region ?_
  refine tl_step rfl (oj_val (y_move (fe_t rfl)) ?_)
  refine tl_step rfl (oj_val (y_eq (fe_t rfl) fe_c) ?_)
  refine tl_step rfl (oj_val (y_move (fe_t rfl)) ?_)
  refine tl_splitp (d := 13) rfl (fun hq1 => ?_) (fun hq2 => ?_)
  · have hk9 : k = 0 ∨ ¬ u = [] := .inl (by omega)
    refine tl_skip rfl rfl rfl rfl ?_
    refine tl_skip rfl rfl rfl rfl ?_
    refine tl_step rfl (oj_val (y_pickt (fe_t rfl) fe_c) ?_)
    refine tl_nil ?_
    refine tx_then ?_
    refine tr_condt (fe_t rfl) ?_
    refine tr_skip ?_
    refine tx_then ?_
    refine tr_seq ?_
    refine tr_block ?_
    refine tr_seq ?_
    refine tr_region ?_
    refine tl_step rfl (oj_val (y_move (fe_t rfl)) ?_)
    refine tl_step rfl (oj_call Tryd.call41 fe_f (fel_cons (fe_t rfl) (fel_cons fe_c fel_nil)) (fun w' hS => cutE (hw.st hS) u 10 (by omega)) (fun c1 hc1 => ?_))
    refine tl_step rfl (oj_val (y_move (fe_t rfl)) ?_)
    refine tl_step rfl (oj_val (y_extract (fe_t rfl) rfl) ?_)
    refine tl_step rfl (oj_val (y_extract (fe_t rfl) rfl) ?_)
    refine tl_step rfl (oj_val (y_extract (fe_t rfl) rfl) ?_)
    refine tl_step rfl (oj_val (y_assign (fe_t rfl)) ?_)
    refine tl_step rfl (oj_val (y_assign (fe_t rfl)) ?_)
    refine tl_step rfl (oj_val (y_assign (fe_t rfl)) ?_)
    refine tl_nil ?_
    refine tx_then ?_
    refine tr_seq ?_
    refine tr_seq ?_
    refine tr_region ?_
    refine tl_step rfl (oj_val (y_move (fe_t rfl)) ?_)
    refine tl_step rfl (oj_val (y_not (fe_t rfl)) ?_)
    refine tl_step rfl (oj_val (y_move (fe_t rfl)) ?_)
    refine tl_split (d := 25) rfl (fun hq3 => ?_) (fun hq4 => ?_)
    · have hc9 : c1.2.2 = false := by simpa using hq3
      refine tl_skip rfl rfl rfl rfl ?_
      refine tl_skip rfl rfl rfl rfl ?_
      refine tl_skip rfl rfl rfl rfl ?_
      refine tl_skip rfl rfl rfl rfl ?_
      refine tl_step rfl (oj_val (y_pickt (fe_t rfl) fe_c) ?_)
      refine tl_nil ?_
      refine tx_then ?_
      refine tr_condt (fe_t rfl) ?_
      refine tr_seq ?_
      refine tr_add (r := vec 52 2 (.slice none 0 0) 0 []) vec_nil rfl ?_
      refine tr_region ?_
      refine tl_step rfl (oj_val (y_build (is := []) (vs := []) (cs := [.int .i64 0, .int .i64 0, .int .i64 0, .slice none 0 0]) rfl fel_nil (by kernel_rfl)) ?_)
      refine tl_step rfl (oj_val (y_move (fe_t rfl)) ?_)
      refine tl_step rfl (oj_storeW 3 Tryd.sizeOf24 (fe_t rfl) (fe_t rfl) rfl rfl rfl rfl rfl (?_))
      refine tl_step rfl (oj_val (y_assign (fe_t rfl)) ?_)
      refine tl_step rfl (oj_val (y_assign fe_c) ?_)
      refine tl_nil ?_
      refine tx_then ?_
      refine tr_ret ?_
      refine tx_then_ret ?_
      refine tx_in_ret ?_
      refine tx_then_ret ?_
      refine tx_then_ret ?_
      refine tx_in_ret ?_
      refine tx_then_ret ?_
      refine tx_ret (res3 Tryd.results11 (rok_b 3 Tryd.isAgg24 Tryd.sizeOf24 rfl rfl rfl) (rok_t rfl) (rok_t rfl)) (fun w' hS => ?_)
      exact ⟨(k, sc0, ⟨none, 0, 0, []⟩, 1), ⟨⟨rfl, rfl⟩, Nat.zero_le _, .inr ⟨rfl, rfl, rfl, hpr.symm.trans (by exact prs_miss hc1 hc9 hk9)⟩⟩, rfl, hS.pick [0] _ rfl (by decide)⟩
    · have hc9 : c1.2.2 = true := by simpa using hq4
      refine tl_want rfl rfl rfl (oj_val (y_move (fe_t rfl)) ?_)
      refine tl_want rfl rfl rfl (oj_val (y_move (fe_t rfl)) ?_)
      refine tl_want rfl rfl rfl (oj_call2 (call_rd k) (fe_t rfl) (fel_cons (fe_t rfl) (fel_cons (fe_t rfl) fel_nil)) (fun w' hS => rdE (k := k) (T := [_]) hw (hS.pick [1, 0, 2] _ rfl (by decide)) hz c1.1 (cut_len1 hc1 (by omega)) (by omega)) (fun r1 hr1 => ?_))
      refine tl_want rfl rfl rfl (oj_val (y_not (fe_t rfl)) ?_)
      refine tl_step rfl (oj_val (y_pickf (fe_t rfl) (fe_t rfl)) ?_)
      refine tl_nil ?_
      refine tx_then ?_
      refine tr_cond (fe_t rfl) (fun hq5 => ?_) (fun hq6 => ?_)
      · have hp9 : r1.1 = false := by simpa using hq5
        refine tr_seq ?_
        refine tr_add (r := vec 52 2 (.slice none 0 0) 0 []) vec_nil rfl ?_
        refine tr_region ?_
        refine tl_step rfl (oj_val (y_build (is := []) (vs := []) (cs := [.int .i64 0, .int .i64 0, .int .i64 0, .slice none 0 0]) rfl fel_nil (by kernel_rfl)) ?_)
        refine tl_step rfl (oj_val (y_move (fe_t rfl)) ?_)
        refine tl_step rfl (oj_storeW 3 Tryd.sizeOf24 (fe_t rfl) (fe_t rfl) rfl rfl rfl rfl rfl (?_))
        refine tl_step rfl (oj_val (y_assign (fe_t rfl)) ?_)
        refine tl_step rfl (oj_val (y_assign fe_c) ?_)
        refine tl_nil ?_
        refine tx_then ?_
        refine tr_ret ?_
        refine tx_then_ret ?_
        refine tx_in_ret ?_
        refine tx_then_ret ?_
        refine tx_then_ret ?_
        refine tx_in_ret ?_
        refine tx_then_ret ?_
        refine tx_ret (res3 Tryd.results11 (rok_b 3 Tryd.isAgg24 Tryd.sizeOf24 rfl rfl rfl) (rok_t rfl) (rok_t rfl)) (fun w' hS => ?_)
        exact ⟨(k, sc0, ⟨none, 0, 0, []⟩, 1), ⟨⟨rfl, rfl⟩, Nat.zero_le _, .inr ⟨rfl, rfl, rfl, hpr.symm.trans (by exact prs_bad hc1 hc9 hr1.2 hp9)⟩⟩, rfl, hS.pick [0] _ rfl (by decide)⟩
      · have hp9 : r1.1 = true := by simpa using hq6
        refine tr_skip ?_
        refine tx_then ?_
        refine tr_seq ?_
        refine tr_region ?_
        refine tl_step rfl (oj_val (y_move (fe_t rfl)) ?_)
        refine tl_step rfl (oj_val (y_assign (fe_t rfl)) ?_)
        refine tl_nil ?_
        refine tx_then ?_
        refine tr_region ?_
        refine tl_step rfl (oj_val (y_move (fe_t rfl)) ?_)
        refine tl_step rfl (oj_val (y_inc (fe_t rfl) fe_c (by omega)) ?_)
        refine tl_step rfl (oj_val (y_assign (fe_t rfl)) ?_)
        refine tl_nil ?_
        refine tx_in ?_
        refine tx_then ?_
        refine tr_region ?_
        refine tl_step rfl (oj_val (y_assign fe_f) ?_)
        refine tl_nil ?_
        apply tx_back4 (k + 1) (_) (r1.2.1) (_)
        · exact (cov_cons (by first | rfl | exact v_int (by omega) | exact v_bool (by simp [*])) (cov_cons (by first | rfl | exact v_int (by omega) | exact v_bool (by simp [*])) (cov_cons (by first | rfl | exact v_int (by omega) | exact v_bool (by simp [*])) (cov_nil))))
        · repeat (first | exact over_nil | refine over_put rfl ?_ | refine over_drop rfl ?_)
        · exact fun w h => h.pick [1, 0, 2] _ rfl (by decide)
        · exact prs_next hc1 hc9 hr1 hp9 hpr hsk hku
  · refine tl_want rfl rfl rfl (oj_val (y_move (fe_t rfl)) ?_)
    refine tl_want rfl rfl rfl (oj_val (y_nes (fe_t rfl) fe_c) ?_)
    refine tl_step rfl (oj_val (y_pickf (fe_t rfl) (fe_t rfl)) ?_)
    refine tl_nil ?_
    refine tx_then ?_
    refine tr_condp (fe_t rfl) (fun hq7 => ?_) (fun hq8 => ?_)
    · have hk9 : k = 0 ∨ ¬ u = [] := .inr hq7
      refine tr_skip ?_
      refine tx_then ?_
      refine tr_seq ?_
      refine tr_block ?_
      refine tr_seq ?_
      refine tr_region ?_
      refine tl_step rfl (oj_val (y_move (fe_t rfl)) ?_)
      refine tl_step rfl (oj_call Tryd.call41 fe_f (fel_cons (fe_t rfl) (fel_cons fe_c fel_nil)) (fun w' hS => cutE (hw.st hS) u 10 (by omega)) (fun c1 hc1 => ?_))
      refine tl_step rfl (oj_val (y_move (fe_t rfl)) ?_)
      refine tl_step rfl (oj_val (y_extract (fe_t rfl) rfl) ?_)
      refine tl_step rfl (oj_val (y_extract (fe_t rfl) rfl) ?_)
      refine tl_step rfl (oj_val (y_extract (fe_t rfl) rfl) ?_)
      refine tl_step rfl (oj_val (y_assign (fe_t rfl)) ?_)
      refine tl_step rfl (oj_val (y_assign (fe_t rfl)) ?_)
      refine tl_step rfl (oj_val (y_assign (fe_t rfl)) ?_)
      refine tl_nil ?_
      refine tx_then ?_
      refine tr_seq ?_
      refine tr_seq ?_
      refine tr_region ?_
      refine tl_step rfl (oj_val (y_move (fe_t rfl)) ?_)
      refine tl_step rfl (oj_val (y_not (fe_t rfl)) ?_)
      refine tl_step rfl (oj_val (y_move (fe_t rfl)) ?_)
      refine tl_split (d := 25) rfl (fun hq9 => ?_) (fun hq10 => ?_)
      · have hc9 : c1.2.2 = false := by simpa using hq9
        refine tl_skip rfl rfl rfl rfl ?_
        refine tl_skip rfl rfl rfl rfl ?_
        refine tl_skip rfl rfl rfl rfl ?_
        refine tl_skip rfl rfl rfl rfl ?_
        refine tl_step rfl (oj_val (y_pickt (fe_t rfl) fe_c) ?_)
        refine tl_nil ?_
        refine tx_then ?_
        refine tr_condt (fe_t rfl) ?_
        refine tr_seq ?_
        refine tr_add (r := vec 52 2 (.slice none 0 0) 0 []) vec_nil rfl ?_
        refine tr_region ?_
        refine tl_step rfl (oj_val (y_build (is := []) (vs := []) (cs := [.int .i64 0, .int .i64 0, .int .i64 0, .slice none 0 0]) rfl fel_nil (by kernel_rfl)) ?_)
        refine tl_step rfl (oj_val (y_move (fe_t rfl)) ?_)
        refine tl_step rfl (oj_storeW 3 Tryd.sizeOf24 (fe_t rfl) (fe_t rfl) rfl rfl rfl rfl rfl (?_))
        refine tl_step rfl (oj_val (y_assign (fe_t rfl)) ?_)
        refine tl_step rfl (oj_val (y_assign fe_c) ?_)
        refine tl_nil ?_
        refine tx_then ?_
        refine tr_ret ?_
        refine tx_then_ret ?_
        refine tx_in_ret ?_
        refine tx_then_ret ?_
        refine tx_then_ret ?_
        refine tx_in_ret ?_
        refine tx_then_ret ?_
        refine tx_ret (res3 Tryd.results11 (rok_b 3 Tryd.isAgg24 Tryd.sizeOf24 rfl rfl rfl) (rok_t rfl) (rok_t rfl)) (fun w' hS => ?_)
        exact ⟨(k, sc0, ⟨none, 0, 0, []⟩, 1), ⟨⟨rfl, rfl⟩, Nat.zero_le _, .inr ⟨rfl, rfl, rfl, hpr.symm.trans (by exact prs_miss hc1 hc9 hk9)⟩⟩, rfl, hS.pick [0] _ rfl (by decide)⟩
      · have hc9 : c1.2.2 = true := by simpa using hq10
        refine tl_want rfl rfl rfl (oj_val (y_move (fe_t rfl)) ?_)
        refine tl_want rfl rfl rfl (oj_val (y_move (fe_t rfl)) ?_)
        refine tl_want rfl rfl rfl (oj_call2 (call_rd k) (fe_t rfl) (fel_cons (fe_t rfl) (fel_cons (fe_t rfl) fel_nil)) (fun w' hS => rdE (k := k) (T := [_]) hw (hS.pick [1, 0, 2] _ rfl (by decide)) hz c1.1 (cut_len1 hc1 (by omega)) (by omega)) (fun r1 hr1 => ?_))
        refine tl_want rfl rfl rfl (oj_val (y_not (fe_t rfl)) ?_)
        refine tl_step rfl (oj_val (y_pickf (fe_t rfl) (fe_t rfl)) ?_)
        refine tl_nil ?_
        refine tx_then ?_
        refine tr_cond (fe_t rfl) (fun hq11 => ?_) (fun hq12 => ?_)
        · have hp9 : r1.1 = false := by simpa using hq11
          refine tr_seq ?_
          refine tr_add (r := vec 52 2 (.slice none 0 0) 0 []) vec_nil rfl ?_
          refine tr_region ?_
          refine tl_step rfl (oj_val (y_build (is := []) (vs := []) (cs := [.int .i64 0, .int .i64 0, .int .i64 0, .slice none 0 0]) rfl fel_nil (by kernel_rfl)) ?_)
          refine tl_step rfl (oj_val (y_move (fe_t rfl)) ?_)
          refine tl_step rfl (oj_storeW 3 Tryd.sizeOf24 (fe_t rfl) (fe_t rfl) rfl rfl rfl rfl rfl (?_))
          refine tl_step rfl (oj_val (y_assign (fe_t rfl)) ?_)
          refine tl_step rfl (oj_val (y_assign fe_c) ?_)
          refine tl_nil ?_
          refine tx_then ?_
          refine tr_ret ?_
          refine tx_then_ret ?_
          refine tx_in_ret ?_
          refine tx_then_ret ?_
          refine tx_then_ret ?_
          refine tx_in_ret ?_
          refine tx_then_ret ?_
          refine tx_ret (res3 Tryd.results11 (rok_b 3 Tryd.isAgg24 Tryd.sizeOf24 rfl rfl rfl) (rok_t rfl) (rok_t rfl)) (fun w' hS => ?_)
          exact ⟨(k, sc0, ⟨none, 0, 0, []⟩, 1), ⟨⟨rfl, rfl⟩, Nat.zero_le _, .inr ⟨rfl, rfl, rfl, hpr.symm.trans (by exact prs_bad hc1 hc9 hr1.2 hp9)⟩⟩, rfl, hS.pick [0] _ rfl (by decide)⟩
        · have hp9 : r1.1 = true := by simpa using hq12
          refine tr_skip ?_
          refine tx_then ?_
          refine tr_seq ?_
          refine tr_region ?_
          refine tl_step rfl (oj_val (y_move (fe_t rfl)) ?_)
          refine tl_step rfl (oj_val (y_assign (fe_t rfl)) ?_)
          refine tl_nil ?_
          refine tx_then ?_
          refine tr_region ?_
          refine tl_step rfl (oj_val (y_move (fe_t rfl)) ?_)
          refine tl_step rfl (oj_val (y_inc (fe_t rfl) fe_c (by omega)) ?_)
          refine tl_step rfl (oj_val (y_assign (fe_t rfl)) ?_)
          refine tl_nil ?_
          refine tx_in ?_
          refine tx_then ?_
          refine tr_region ?_
          refine tl_step rfl (oj_val (y_assign fe_f) ?_)
          refine tl_nil ?_
          apply tx_back4 (k + 1) (_) (r1.2.1) (_)
          · exact (cov_cons (by first | rfl | exact v_int (by omega) | exact v_bool (by simp [*])) (cov_cons (by first | rfl | exact v_int (by omega) | exact v_bool (by simp [*])) (cov_cons (by first | rfl | exact v_int (by omega) | exact v_bool (by simp [*])) (cov_nil))))
          · repeat (first | exact over_nil | refine over_put rfl ?_ | refine over_drop rfl ?_)
          · exact fun w h => h.pick [1, 0, 2] _ rfl (by decide)
          · exact prs_next hc1 hc9 hr1 hp9 hpr hsk hku
    · have hu9 : u = [] := Classical.not_not.1 hq8
      refine tr_exit ?_
      refine tx_then_exit ?_
      refine tx_then_exit ?_
      refine tx_in_exit ?_
      refine tx_then ?_
      refine tr_seq ?_
      refine tr_region ?_
      refine tl_step rfl (oj_val (y_ldbA 1 Tryd.isAgg24 Tryd.sizeOf24 (fe_t rfl) rfl rfl rfl) ?_)
      refine tl_step rfl (oj_storeW 2 Tryd.sizeOf24 (fe_t rfl) (fe_t rfl) rfl rfl rfl rfl rfl (?_))
      refine tl_step rfl (oj_val (y_assign fe_c) ?_)
      refine tl_step rfl (oj_val (y_assign fe_c) ?_)
      refine tl_nil ?_
      refine tx_then ?_
      refine tr_ret ?_
      refine tx_ret (res3 Tryd.results11 (rok_b 2 Tryd.isAgg24 Tryd.sizeOf24 rfl rfl rfl) (rok_t rfl) (rok_t rfl)) (fun w' hS => ?_)
      exact ⟨(0, s, z, 0), ⟨hz, show s.ops.length ≤ t.length by omega, .inl ⟨rfl, rfl, hpr.symm.trans (prs_end (by omega) hu9)⟩⟩, rfl, hS.pick [0] _ rfl (by decide)⟩

end Go.Proofs.YtfcpmcdlgkfolaaDoor.Bn
