/- Walks: drr.Round. -/
import Derived.Test.YtoibebmhfcjpfaaGreatDoorZfEA
import Derived.Test.YtoibebmhfcjpfaaGreatDoorZfDrrN
import Derived.Test.YtoibebmhfcjpfaaGreatDoorZfDrrA
import Derived.Test.YtoibebmhfcjpfaaGreatDoorZfDrrO
namespace Go.Proofs.YtoibebmhfcjpfaaGreatDoor.Drr
open Go.RowKit Go.Proofs.YtoibebmhfcjpfaaGreatDoor.E

theorem no_any (er : Int) (w : World) : Calls Tryz.prog 20 #[(.int .i64 er)] w fun e w' => e = .returned (.tuple #[.slice none 0 0, .slice none 0 0, .slice none 0 0, (.int .i64 er)]) ∧ E.St w w' [] := by
  refine calls_tr Tryz.func20 Tryz.ntmps20 rfl rfl (St.refl _) ?_
  refine tr_seq ?_
  refine tr_region ?_
  refine tl_step rfl (oj_val (y_assign fe_c) ?_)
  refine tl_step rfl (oj_val (y_assign fe_c) ?_)
  refine tl_step rfl (oj_val (y_assign fe_c) ?_)
  refine tl_step rfl (oj_val (y_assign fe_c) ?_)
  refine tl_nil ?_
  refine tx_then ?_
  refine tr_seq ?_
  refine tr_region ?_
  refine tl_step rfl (oj_val (y_move (fe_t rfl)) ?_)
  refine tl_step rfl (oj_val (y_assign fe_c) ?_)
  refine tl_step rfl (oj_val (y_assign fe_c) ?_)
  refine tl_step rfl (oj_val (y_assign fe_c) ?_)
  refine tl_step rfl (oj_val (y_assign (fe_t rfl)) ?_)
  refine tl_nil ?_
  refine tx_then ?_
  refine tr_ret ?_
  refine tx_ret (res4 Tryz.results20 (rok_t rfl) (rok_t rfl) (rok_t rfl) (rok_t rfl)) (fun w' hS => ?_)
  exact ⟨rfl, hS.pick [] _ rfl (by decide)⟩

/-- What is handed back besides lists. -/
structure RQ where
  A1 : Option Addr
  k1 : Nat
  A2 : Option Addr
  k2 : Nat
  A3 : Option Addr
  k3 : Nat
  hs : List Value
def RoundQ (w : World) (er : Int) (sl : List (Int × Int)) (ls : List (List Int)) (yl : List Int) (e : Ending) (w' : World) : Prop :=
  ∃ q : RQ, (sl.length ≤ q.k1 ∧ ls.length ≤ q.k2 ∧ yl.length ≤ q.k3) ∧ e = .returned (.tuple #[.slice q.A1 sl.length q.k1, .slice q.A2 ls.length q.k2, .slice q.A3 yl.length q.k3, (.int .i64 er)]) ∧
    E.St w w' [vec 35 2 (.slice q.A1 sl.length q.k1) sl.length (sl.flatMap c2), vec 22 1 (.slice q.A2 ls.length q.k2) ls.length q.hs, E.rows 3 1 q.hs (ls.map cI), vec 3 1 (.slice q.A3 yl.length q.k3) yl.length (cI yl)]
def RoundP (w : World) (r : Int × List (Int × Int) × List (List Int) × List Int) : Ending → World → Prop := RoundQ w r.1 r.2.1 r.2.2.1 r.2.2.2
theorem round_nil {w w' : World} {r : Int × List (Int × Int) × List (List Int) × List Int} {er : Int} (hE : r = (er, [], [], [])) (hS : E.St w w' []) : RoundP w r (.returned (.tuple #[.slice none 0 0, .slice none 0 0, .slice none 0 0, (.int .i64 er)])) w' := by
  subst hE
  refine ⟨⟨none, 0, none, 0, none, 0, []⟩, by simp, rfl, ?_⟩
  have h1 := hS.add (r := vec 3 1 (.slice none 0 0) 0 []) (Below.refl _ _) (vec_nil _) (by simp [vec, Value.ownBlock])
  have h2 := h1.add (r := E.rows 3 1 [] []) (Below.refl _ _) (rows_nil _) (by simp [E.rows])
  have h3 := h2.add (r := vec 22 1 (.slice none 0 0) 0 []) (Below.refl _ _) (vec_nil _) (by simp [vec, Value.ownBlock])
  exact h3.add (r := vec 35 2 (.slice none 0 0) 0 []) (Below.refl _ _) (vec_nil _) (by simp [vec, Value.ownBlock])

set_option maxRecDepth 100000 in
set_option maxHeartbeats 4000000 in
theorem round_any (A B C : Option Addr) (n m l c d cc : Nat) (ts : List Int) (hs0 : List Value) (fs : List (List Int)) (ys : List Int) (w : World) (hr : Rd w A (ts.map (.int .i64))) (hn : ts.length = n) (hR : RdR w B hs0 fs) (hm : fs.length = m) (hy : Rd w C (ys.map (.int .i64))) (hl : ys.length = l) (hn2 : n ≤ 140737488355328) (hm2 : m ≤ 140737488355328) (hl2 : l ≤ 140737488355328) (hrow : ∀ r ∈ fs, r.length ≤ 140737488355328) :
    Calls Tryz.prog 13 #[.slice A n c, .slice B m d, .slice C l cc] w (RoundP w (roundM ts fs ys)) := by
  refine calls_tr Tryz.func13 Tryz.ntmps13 rfl rfl (St.refl _) ?_
  refine tr_seq ?_
  refine tr_region ?_
  refine tl_step rfl (oj_val (y_assign fe_c) ?_)
  refine tl_step rfl (oj_val (y_assign fe_c) ?_)
  refine tl_step rfl (oj_val (y_assign fe_c) ?_)
  refine tl_step rfl (oj_val (y_assign fe_c) ?_)
  refine tl_nil ?_
  refine tx_then ?_
  refine tr_seq ?_
  refine tr_region ?_
  refine tl_step rfl (oj_val (y_assign fe_f) ?_)
  refine tl_nil ?_
  refine tx_then ?_
  refine tr_seq ?_
  refine tr_seq ?_
  refine tr_region ?_
  refine tl_step rfl (oj_val (y_move (fe_t rfl)) ?_)
  refine tl_step rfl (oj_val (y_move (fe_t rfl)) ?_)
  refine tl_step rfl (oj_callv Tryz.call12 fe_f (fel_cons (fe_t rfl) (fel_cons (fe_t rfl) fel_nil)) (fun w' hS => of_eq (wrong_any A B n m c d ts hs0 fs w' (Rd.below hr hS.below) hn (hR.below hS.below) hm hn2 hm2 hrow)) ?_)
  refine tl_step rfl (oj_val (y_assign (fe_t rfl)) ?_)
  refine tl_nil ?_
  refine tx_then ?_
  refine tr_seq ?_
  refine tr_region ?_
  refine tl_step rfl (oj_val (y_move (fe_t rfl)) ?_)
  refine tl_step rfl (oj_val (y_neq (fe_t rfl) fe_c) ?_)
  refine tl_nil ?_
  refine tx_then ?_
  refine tr_condp (fe_t rfl) (fun h1 => ?_) (fun h2 => ?_)
  · refine tr_seq ?_
    refine tr_region ?_
    refine tl_step rfl (oj_val (y_move (fe_t rfl)) ?_)
    refine tl_step rfl (oj_val (y_move (fe_t rfl)) ?_)
    refine tl_step rfl (oj_callv Tryz.call20 (fe_t rfl) (fel_cons (fe_t rfl) fel_nil) (fun w' hS => no_any _ w') ?_)
    refine tl_step rfl (oj_val (y_extract (fe_t rfl) rfl) ?_)
    refine tl_step rfl (oj_val (y_extract (fe_t rfl) rfl) ?_)
    refine tl_step rfl (oj_val (y_extract (fe_t rfl) rfl) ?_)
    refine tl_step rfl (oj_val (y_extract (fe_t rfl) rfl) ?_)
    refine tl_step rfl (oj_val (y_assign (fe_t rfl)) ?_)
    refine tl_step rfl (oj_val (y_assign (fe_t rfl)) ?_)
    refine tl_step rfl (oj_val (y_assign (fe_t rfl)) ?_)
    refine tl_step rfl (oj_val (y_assign (fe_t rfl)) ?_)
    refine tl_nil ?_
    refine tx_then ?_
    refine tr_ret ?_
    refine tx_then_ret ?_
    refine tx_ret (res4 Tryz.results13 (rok_t rfl) (rok_t rfl) (rok_t rfl) (rok_t rfl)) (fun w' hS => ?_)
    exact round_nil (by first | exact round_wrong ‹_› | exact round_len hw0 (by omega) | exact round_may hw0 (by omega) (by omega) (by omega)) (hS.pick [] _ rfl (by decide))
  · have hw0 : wrongE ts fs = 0 := by omega
    obtain ⟨g1, g2, g3⟩ := wrong_zero hw0
    refine tr_skip ?_
    refine tx_then ?_
    refine tr_seq ?_
    refine tr_seq ?_
    refine tr_region ?_
    refine tl_step rfl (oj_val (y_move (fe_t rfl)) ?_)
    refine tl_step rfl (oj_val (y_len Tryz.underlying22 (fe_t rfl)) ?_)
    refine tl_step rfl (oj_val (y_move (fe_t rfl)) ?_)
    refine tl_step rfl (oj_val (y_len Tryz.underlying22 (fe_t rfl)) ?_)
    refine tl_step rfl (oj_val (y_neq (fe_t rfl) (fe_t rfl)) ?_)
    refine tl_nil ?_
    refine tx_then ?_
    refine tr_condp (fe_t rfl) (fun h3 => ?_) (fun h4 => ?_)
    · refine tr_seq ?_
      refine tr_region ?_
      refine tl_step rfl (oj_val (y_move (fe_t rfl)) ?_)
      refine tl_step rfl (oj_callv Tryz.call20 (fe_t rfl) (fel_cons fe_c fel_nil) (fun w' hS => no_any _ w') ?_)
      refine tl_step rfl (oj_val (y_extract (fe_t rfl) rfl) ?_)
      refine tl_step rfl (oj_val (y_extract (fe_t rfl) rfl) ?_)
      refine tl_step rfl (oj_val (y_extract (fe_t rfl) rfl) ?_)
      refine tl_step rfl (oj_val (y_extract (fe_t rfl) rfl) ?_)
      refine tl_step rfl (oj_val (y_assign (fe_t rfl)) ?_)
      refine tl_step rfl (oj_val (y_assign (fe_t rfl)) ?_)
      refine tl_step rfl (oj_val (y_assign (fe_t rfl)) ?_)
      refine tl_step rfl (oj_val (y_assign (fe_t rfl)) ?_)
      refine tl_nil ?_
      refine tx_then ?_
      refine tr_ret ?_
      refine tx_then_ret ?_
      refine tx_ret (res4 Tryz.results13 (rok_t rfl) (rok_t rfl) (rok_t rfl) (rok_t rfl)) (fun w' hS => ?_)
      exact round_nil (by first | exact round_wrong ‹_› | exact round_len hw0 (by omega) | exact round_may hw0 (by omega) (by omega) (by omega)) (hS.pick [] _ rfl (by decide))
    · refine tr_skip ?_
      refine tx_then ?_
      refine tr_seq ?_
      refine tr_seq ?_
      refine tr_region ?_
      refine tl_step rfl (oj_val (y_move (fe_t rfl)) ?_)
      refine tl_step rfl (oj_val (y_len Tryz.underlying22 (fe_t rfl)) ?_)
      refine tl_step rfl (oj_val (y_move fe_c) ?_)
      refine tl_nil ?_
      refine tx_then ?_
      refine tr_block ?_
      refine tr_loop1 [6, 7, 8, 9, 13, 48, 49, 50, 51, 52, 53, 54, 55, 56, 57, 58, 59, 60, 61, 62, 63, 64] (fun (k : Nat) => [(48, .int .i64 (k : Int))]) 0 (fun (k : Nat) => []) (fun (k : Nat) => k ≤ l ∧ ∀ j (h : j < ys.length), j < k → 0 ≤ ys[j] ∧ ys[j] < 1500) (fun (k : Nat) => l - k) (0) (cov_cons (by first | rfl | exact v_int (by omega) | exact v_bool (by simp [*])) (cov_nil)) (fun w h => h) ?_ ?_
      · try dsimp only
        exact ⟨by omega, fun j h h2 => by omega⟩
      intro k hp
      obtain ⟨hk, hall⟩ := hp
      refine tr_seq ?_
      refine tr_region ?_
      refine tl_step rfl (oj_val (y_lss (fe_t rfl) (fe_t rfl)) ?_)
      refine tl_nil ?_
      refine tx_then ?_
      refine tr_seq ?_
      refine tr_condp (fe_t rfl) (fun h5 => ?_) (fun h6 => ?_)
      · refine tr_skip ?_
        refine tx_then ?_
        refine tr_seq ?_
        refine tr_block ?_
        refine tr_seq ?_
        have hkl : k < ys.length := by omega
        refine tr_region ?_
        refine tl_step rfl (oj_val (y_index Tryz.underlying22 Tryz.sizeOf3 (fe_t rfl) (fe_t rfl) (rdl_out hy) (by first | (simp; done) | (simp; omega)) (by decide) (by omega) (Nat.mul_one _)) ?_)
        refine tl_step rfl (oj_val (y_ld Tryz.isAgg3 (fe_t rfl) (rdl_out hy) (getI (by omega))) ?_)
        refine tl_step rfl (oj_val (y_assign (fe_t rfl)) ?_)
        refine tl_nil ?_
        refine tx_then ?_
        refine tr_seq ?_
        refine tr_region ?_
        refine tl_step rfl (oj_val (y_move (fe_t rfl)) ?_)
        refine tl_step rfl (oj_val (y_lss (fe_t rfl) fe_c) ?_)
        refine tl_step rfl (oj_val (y_move (fe_t rfl)) ?_)
        refine tl_splitp (d := 54) rfl (fun h7 => ?_) (fun h8 => ?_)
        · refine tl_skip rfl rfl rfl rfl ?_
          refine tl_skip rfl rfl rfl rfl ?_
          refine tl_step rfl (oj_val (y_pickt (fe_t rfl) fe_c) ?_)
          refine tl_nil ?_
          refine tx_then ?_
          refine tr_condt (fe_t rfl) ?_
          refine tr_seq ?_
          refine tr_region ?_
          refine tl_step rfl (oj_val (y_move (fe_t rfl)) ?_)
          refine tl_step rfl (oj_callv Tryz.call20 (fe_t rfl) (fel_cons fe_c fel_nil) (fun w' hS => no_any _ w') ?_)
          refine tl_step rfl (oj_val (y_extract (fe_t rfl) rfl) ?_)
          refine tl_step rfl (oj_val (y_extract (fe_t rfl) rfl) ?_)
          refine tl_step rfl (oj_val (y_extract (fe_t rfl) rfl) ?_)
          refine tl_step rfl (oj_val (y_extract (fe_t rfl) rfl) ?_)
          refine tl_step rfl (oj_val (y_assign (fe_t rfl)) ?_)
          refine tl_step rfl (oj_val (y_assign (fe_t rfl)) ?_)
          refine tl_step rfl (oj_val (y_assign (fe_t rfl)) ?_)
          refine tl_step rfl (oj_val (y_assign (fe_t rfl)) ?_)
          refine tl_nil ?_
          refine tx_then ?_
          refine tr_ret ?_
          refine tx_in_ret ?_
          refine tx_then_ret ?_
          refine tx_then_ret ?_
          refine tx_in_ret ?_
          refine tx_then_ret ?_
          refine tx_ret (res4 Tryz.results13 (rok_t rfl) (rok_t rfl) (rok_t rfl) (rok_t rfl)) (fun w' hS => ?_)
          exact round_nil (by first | exact round_wrong ‹_› | exact round_len hw0 (by omega) | exact round_may hw0 (by omega) (by omega) (by omega)) (hS.pick [] _ rfl (by decide))
        · refine tl_want rfl rfl rfl (oj_val (y_move (fe_t rfl)) ?_)
          refine tl_want rfl rfl rfl (oj_val (y_geq (fe_t rfl) fe_c) ?_)
          refine tl_step rfl (oj_val (y_pickf (fe_t rfl) (fe_t rfl)) ?_)
          refine tl_nil ?_
          refine tx_then ?_
          refine tr_condp (fe_t rfl) (fun h9 => ?_) (fun h10 => ?_)
          · refine tr_seq ?_
            refine tr_region ?_
            refine tl_step rfl (oj_val (y_move (fe_t rfl)) ?_)
            refine tl_step rfl (oj_callv Tryz.call20 (fe_t rfl) (fel_cons fe_c fel_nil) (fun w' hS => no_any _ w') ?_)
            refine tl_step rfl (oj_val (y_extract (fe_t rfl) rfl) ?_)
            refine tl_step rfl (oj_val (y_extract (fe_t rfl) rfl) ?_)
            refine tl_step rfl (oj_val (y_extract (fe_t rfl) rfl) ?_)
            refine tl_step rfl (oj_val (y_extract (fe_t rfl) rfl) ?_)
            refine tl_step rfl (oj_val (y_assign (fe_t rfl)) ?_)
            refine tl_step rfl (oj_val (y_assign (fe_t rfl)) ?_)
            refine tl_step rfl (oj_val (y_assign (fe_t rfl)) ?_)
            refine tl_step rfl (oj_val (y_assign (fe_t rfl)) ?_)
            refine tl_nil ?_
            refine tx_then ?_
            refine tr_ret ?_
            refine tx_in_ret ?_
            refine tx_then_ret ?_
            refine tx_then_ret ?_
            refine tx_in_ret ?_
            refine tx_then_ret ?_
            refine tx_ret (res4 Tryz.results13 (rok_t rfl) (rok_t rfl) (rok_t rfl) (rok_t rfl)) (fun w' hS => ?_)
            exact round_nil (by first | exact round_wrong ‹_› | exact round_len hw0 (by omega) | exact round_may hw0 (by omega) (by omega) (by omega)) (hS.pick [] _ rfl (by decide))
          · refine tr_skip ?_
            refine tx_in ?_
            refine tx_then ?_
            refine tr_region ?_
            refine tl_step rfl (oj_val (y_inc (fe_t rfl) fe_c (by omega)) ?_)
            refine tl_step rfl (oj_val (y_move (fe_t rfl)) ?_)
            refine tl_nil ?_
            apply tx_back1 (k + 1)
            · exact (cov_cons (by first | rfl | exact v_int (by omega) | exact v_bool (by simp [*])) (cov_nil))
            · repeat (first | exact over_nil | refine over_put rfl ?_ | refine over_drop rfl ?_)
            · exact fun w h => h.pick [] _ rfl (by decide)
            · refine ⟨⟨by omega, fun j h h2 => ?_⟩, by omega⟩
              by_cases hjk : j < k
              · exact hall j h hjk
              · obtain rfl : j = k := by omega
                omega
      · refine tr_exit ?_
        refine tx_then_exit ?_
        refine tx_then_exit ?_
        refine tx_in_exit ?_
        refine tx_then ?_
        refine tr_seq ?_
        refine tr_region ?_
        refine tl_step rfl (oj_val (y_assign fe_c) ?_)
        refine tl_nil ?_
        refine tx_then ?_
        refine tr_seq ?_
        refine tr_region ?_
        refine tl_step rfl (oj_val (y_assign fe_c) ?_)
        refine tl_nil ?_
        refine tx_then ?_
        refine tr_seq ?_
        refine tr_region ?_
        refine tl_step rfl (oj_val (y_assign fe_c) ?_)
        refine tl_nil ?_
        refine tx_then ?_
        refine tr_seq ?_
        refine tr_seq ?_
        refine tr_region ?_
        refine tl_step rfl (oj_val (y_move (fe_t rfl)) ?_)
        refine tl_step rfl (oj_val (y_len Tryz.underlying26 (fe_t rfl)) ?_)
        refine tl_step rfl (oj_val (y_move fe_c) ?_)
        refine tl_nil ?_
        refine tx_then ?_
        refine tr_block ?_
        have hya : ∀ j (h : j < ys.length), 0 ≤ ys[j] ∧ ys[j] < 1500 := fun j h => hall j h (by omega)
        have hsl := snds_len (ts := ts) (ys := ys) (fs := fs) (fun r hr => by
          obtain ⟨i, hi, rfl⟩ := List.mem_iff_getElem.1 hr
          exact (rowok_iff.1 (g3 i (by omega) hi)).2.1)
        refine tr_add (r := vec 3 1 (.slice none 0 0) 0 []) vec_nil rfl ?_
        refine tr_add (r := E.rows 3 1 [] []) rows_nil rfl ?_
        refine tr_add (r := vec 22 1 (.slice none 0 0) 0 []) vec_nil rfl ?_
        refine tr_add (r := vec 35 2 (.slice none 0 0) 0 []) vec_nil rfl ?_
        refine tr_loop5 [14, 15, 16, 17, 18, 19, 20, 22, 67, 68, 69, 70, 71, 72, 73, 74, 75, 76, 77, 78, 79, 80, 81, 82, 83, 84, 85, 86, 87, 88, 89, 90, 91, 92, 93, 94, 95, 96, 97, 98, 99, 100, 101, 102, 103, 104, 105, 106, 107, 108, 109, 110, 111, 112] (fun (k : Nat) (s1 : Vs) (s2 : Vs) (s3 : Vs) (xss : List (List Value)) => [(67, .int .i64 (k : Int)), (14, .slice s1.A s1.n s1.c), (15, .slice s2.A s2.n s2.c), (16, .slice s3.A s3.n s3.c)]) 0 (fun (k : Nat) (s1 : Vs) (s2 : Vs) (s3 : Vs) (xss : List (List Value)) => [(0, vec 35 2 (.slice s1.A s1.n s1.c) s1.n s1.xs), (1, vec 22 1 (.slice s2.A s2.n s2.c) s2.n s2.xs), (2, E.rows 3 1 s2.xs xss), (3, vec 3 1 (.slice s3.A s3.n s3.c) s3.n s3.xs)]) (fun (k : Nat) (s1 : Vs) (s2 : Vs) (s3 : Vs) (xss : List (List Value)) => k ≤ m ∧ (s1.n = (snds ts ys fs k).length ∧ s1.xs = (snds ts ys fs k).flatMap c2) ∧ s2.n = k ∧ xss = (lfts ts ys fs k).map cI ∧ (s3.n = k ∧ s3.xs = cI (yets ts ys fs k))) (fun (k : Nat) (s1 : Vs) (s2 : Vs) (s3 : Vs) (xss : List (List Value)) => m - k) (0) (⟨none, 0, 0, []⟩ : Vs) (⟨none, 0, 0, []⟩ : Vs) (⟨none, 0, 0, []⟩ : Vs) ([]) (cov_cons (by first | rfl | exact v_int (by omega) | exact v_bool (by simp [*])) (cov_cons (by first | rfl | exact v_int (by omega) | exact v_bool (by simp [*])) (cov_cons (by first | rfl | exact v_int (by omega) | exact v_bool (by simp [*])) (cov_cons (by first | rfl | exact v_int (by omega) | exact v_bool (by simp [*])) (cov_nil))))) (fun w h => h) ?_ ?_
        · try dsimp only
          simp [snds, lfts, yets, cI]
        intro k s1 s2 s3 xss hp
        obtain ⟨hk, ⟨hs1n, hs1x⟩, hs2n, hxss, hs3n, hs3x⟩ := hp
        refine tr_seq ?_
        refine tr_region ?_
        refine tl_step rfl (oj_val (y_lss (fe_t rfl) (fe_t rfl)) ?_)
        refine tl_nil ?_
        refine tx_then ?_
        refine tr_seq ?_
        refine tr_condp (fe_t rfl) (fun h11 => ?_) (fun h12 => ?_)
        · refine tr_skip ?_
          refine tx_then ?_
          refine tr_seq ?_
          refine tr_block ?_
          refine tr_seq ?_
          have hkn : k < fs.length := by omega
          obtain ⟨Bk, ck, hk1, hk2, hk3⟩ := hR.row k hkn
          obtain ⟨⟨t0, t1⟩, hz1, hno⟩ := rowok_iff.1 (g3 k (by omega) hkn)
          have hyk := hya k (by omega)
          have hmk : mk ts ys k = ys[k]'(by omega) + ts[k]'(by omega) := by simp [mk, List.getD_eq_getElem?_getD, show k < ys.length by omega, show k < ts.length by omega]
          have hfk : fs.getD k [] = fs[k] := by simp [List.getD_eq_getElem?_getD, hkn]
          have hgl := gr_le (ys[k]'(by omega) + ts[k]'(by omega)) fs[k]
          have hlt : (fs[k].take (gr (ys[k]'(by omega) + ts[k]'(by omega)) fs[k]).1).length = (gr (ys[k]'(by omega) + ts[k]'(by omega)) fs[k]).1 := by rw [List.length_take]; omega
          have hdrop : Rd w (cutA Bk (gr (ys[k]'(by omega) + ts[k]'(by omega)) fs[k]).1 ck 1) ((fs[k].drop (gr (ys[k]'(by omega) + ts[k]'(by omega)) fs[k]).1).map (.int .i64)) := rd_dropI hk3 rfl (by omega) hk2
          have hcut : Rd w Bk ((fs[k].take (gr (ys[k]'(by omega) + ts[k]'(by omega)) fs[k]).1).map (.int .i64)) := RdI.take hk3 _
          refine tr_region ?_
          refine tl_step rfl (oj_val (y_move (fe_t rfl)) ?_)
          refine tl_step rfl (oj_val (y_index Tryz.underlying26 Tryz.sizeOf22 (fe_t rfl) (fe_t rfl) (rdl_out hR.hd) (by have := hR.len; omega) (by decide) (by omega) (Nat.mul_one _)) ?_)
          refine tl_step rfl (oj_val (y_ld Tryz.isAgg22 (fe_t rfl) (rdl_out hR.hd) (getH (by have := hR.len; omega) hk1)) ?_)
          refine tl_step rfl (oj_val (y_assign (fe_t rfl)) ?_)
          refine tl_step rfl (oj_val (y_assign (fe_t rfl)) ?_)
          refine tl_nil ?_
          refine tx_then ?_
          refine tr_seq ?_
          refine tr_draw (sel _ [0, 1, 2, 3]) (fun w h => h.sel _ rfl (by decide)) rfl ?_
          refine ta_float (i := 0) rfl (by kernel_rfl) (wants_none rfl) (yq_of (y_move (fe_t rfl))) ?_
          refine ta_float (i := 1) rfl (by kernel_rfl) (wants_none rfl) (yq_of (y_move (fe_t rfl))) ?_
          refine ta_float (i := 2) rfl (by kernel_rfl) (wants_none rfl) (yq_of (y_index Tryz.underlying22 Tryz.sizeOf3 (fe_t rfl) (fe_t rfl) (rdl_out hy) (by first | (simp; done) | (simp; omega)) (by decide) (by omega) (Nat.mul_one _))) ?_
          refine ta_float (i := 3) rfl (by kernel_rfl) (wants_none rfl) (yq_of (y_ld Tryz.isAgg3 (fe_t rfl) (rdl_out hy) (getI (by omega)))) ?_
          refine ta_float (i := 4) rfl (by kernel_rfl) (wants_none rfl) (yq_of (y_move (fe_t rfl))) ?_
          refine ta_float (i := 5) rfl (by kernel_rfl) (wants_none rfl) (yq_of (y_move (fe_t rfl))) ?_
          refine ta_float (i := 6) rfl (by kernel_rfl) (wants_none rfl) (yq_of (y_index Tryz.underlying22 Tryz.sizeOf3 (fe_t rfl) (fe_t rfl) (rdl_out hr) (by first | (simp; done) | (simp; omega)) (by decide) (by omega) (Nat.mul_one _))) ?_
          refine ta_float (i := 7) rfl (by kernel_rfl) (wants_none rfl) (yq_of (y_ld Tryz.isAgg3 (fe_t rfl) (rdl_out hr) (getI (by omega)))) ?_
          refine ta_float (i := 8) rfl (by kernel_rfl) (wants_none rfl) (yq_of (y_add (fe_t rfl) (fe_t rfl) (by omega))) ?_
          refine ta_float (i := 9) rfl (by kernel_rfl) (wants_none rfl) (yq_of (y_move (fe_t rfl))) ?_
          refine ta_float (i := 10) rfl (by kernel_rfl) (wants_none rfl) (yq_call Tryz.call21 fe_f (fel_cons (fe_t rfl) (fel_cons (fe_t rfl) fel_nil)) (fun w' hS => of_eq (turn_any (ys[k]'(by omega) + ts[k]'(by omega)) Bk fs[k].length ck fs[k] w' (Rd.below hk3 hS.below) rfl hk2 hz1 hno (by omega) (by omega)))) ?_
          refine ta_float (i := 11) rfl (by kernel_rfl) (wants_none rfl) (yq_of (y_move (fe_t rfl))) ?_
          refine ta_float (i := 12) rfl (by kernel_rfl) (wants_none rfl) (yq_of (y_extract (fe_t rfl) rfl)) ?_
          refine ta_float (i := 13) rfl (by kernel_rfl) (wants_none rfl) (yq_of (y_extract (fe_t rfl) rfl)) ?_
          refine ta_float (i := 14) rfl (by kernel_rfl) (wants_none rfl) (yq_of (y_assign (fe_t rfl))) ?_
          refine ta_float (i := 15) rfl (by kernel_rfl) (wants_none rfl) (yq_of (y_assign (fe_t rfl))) ?_
          refine ta_done (by kernel_rfl) ?_
          refine tx_then ?_
          refine tr_seq ?_
          refine tr_seq ?_
          refine tr_region ?_
          refine tl_step rfl (oj_val (y_move (fe_t rfl)) ?_)
          refine tl_step rfl (oj_val (y_len Tryz.underlying22 (fe_t rfl)) ?_)
          refine tl_step rfl (oj_val (y_move fe_c) ?_)
          refine tl_nil ?_
          refine tx_then ?_
          refine tr_block ?_
          refine tr_loop2 [14, 22, 88, 89, 90, 91, 92, 93, 94, 95, 96, 97, 98] (fun (j : Nat) (s1 : Vs) => [(88, .int .i64 (j : Int)), (14, .slice s1.A s1.n s1.c)]) 0 (fun (j : Nat) (s1 : Vs) => [(0, vec 35 2 (.slice s1.A s1.n s1.c) s1.n s1.xs)]) (fun (j : Nat) (s1 : Vs) => j ≤ (gr (ys[k]'(by omega) + ts[k]'(by omega)) fs[k]).1 ∧ s1.n = (snds ts ys fs k).length + j ∧ s1.xs = (snds ts ys fs k ++ (fs[k].take j).map fun x => ((k : Int), x)).flatMap c2) (fun (j : Nat) (s1 : Vs) => (gr (ys[k]'(by omega) + ts[k]'(by omega)) fs[k]).1 - j) (0) (⟨_, _, _, _⟩ : Vs) (cov_cons (by first | rfl | exact v_int (by omega) | exact v_bool (by simp [*])) (cov_cons (by first | rfl | exact v_int (by omega) | exact v_bool (by simp [*])) (cov_nil))) (fun w h => h) ?_ ?_
          · try dsimp only
            exact ⟨by omega, by omega, by simp [hs1x]⟩
          intro j s1 hp
          obtain ⟨hj, hs1n, hs1x⟩ := hp
          refine tr_seq ?_
          refine tr_region ?_
          refine tl_step rfl (oj_val (y_lss (fe_t rfl) (fe_t rfl)) ?_)
          refine tl_nil ?_
          refine tx_then ?_
          refine tr_seq ?_
          refine tr_condp (fe_t rfl) (fun h13 => ?_) (fun h14 => ?_)
          · refine tr_skip ?_
            refine tx_then ?_
            refine tr_seq ?_
            refine tr_block ?_
            refine tr_seq ?_
            refine tr_region ?_
            refine tl_step rfl (oj_val (y_index Tryz.underlying22 Tryz.sizeOf3 (fe_t rfl) (fe_t rfl) (rdl_out hcut) (by simp [List.length_take]; omega) (by decide) (by omega) (Nat.mul_one _)) ?_)
            refine tl_step rfl (oj_val (y_ld Tryz.isAgg3 (fe_t rfl) (rdl_out hcut) (getI (by omega))) ?_)
            refine tl_step rfl (oj_val (y_assign (fe_t rfl)) ?_)
            refine tl_nil ?_
            refine tx_then ?_
            refine tr_region ?_
            refine tl_step rfl (oj_val (y_move (fe_t rfl)) ?_)
            refine tl_step rfl (oj_val (y_move (fe_t rfl)) ?_)
            refine tl_step rfl (oj_val (y_move (fe_t rfl)) ?_)
            refine tl_step rfl (oj_val ((fun {u0 u1} hx hb => y_build (is := [0, 1]) (vs := [u0, u1]) (cs := [u0, u1]) rfl hx hb) (fel_cons (fe_t rfl) (fel_cons (fe_t rfl) fel_nil)) (by kernel_rfl)) ?_)
            refine tl_step rfl (oj_slice1 Tryz.underlying28 Tryz.sizeOf35 Tryz.zeroValue35 (fe_t rfl) (by decide) rfl (fun b1 => ?_))
            refine tl_step rfl (oj_append (i := 1) (s := 2) (z := (.agg #[.int .i64 0, .int .i64 0])) (bytes := 16) Tryz.underlying28 (by kernel_rfl) (fe_t rfl) (fe_t rfl) rfl (rdl_blk 0 rfl) rfl (by decide) (by first | exact oneI | exact oneF (fun _ => rfl) | exact fun u hu => List.all_eq_true.1 (show List.all _ (fun x => x.oneCell') = true from rfl) u hu | (intro u hu; revert u hu; simp [Value.oneCell'])) (by decide) ⟨by have := hsl k; omega, by decide⟩ (fun Aa1 ca1 hca1 => ?_))
            refine tl_step rfl (oj_val (y_assign (fe_t rfl)) ?_)
            refine tl_nil ?_
            refine tx_in ?_
            refine tx_then ?_
            refine tr_region ?_
            refine tl_step rfl (oj_val (y_inc (fe_t rfl) fe_c (by omega)) ?_)
            refine tl_step rfl (oj_val (y_move (fe_t rfl)) ?_)
            refine tl_nil ?_
            apply tx_back2 (j + 1) ((⟨_, _, _, _⟩ : Vs))
            · exact (cov_cons (by first | rfl | exact v_int (by omega) | exact v_bool (by simp [*])) (cov_cons (by first | rfl | exact v_int (by omega) | exact v_bool (by simp [*])) (cov_nil)))
            · repeat (first | exact over_nil | refine over_put rfl ?_ | refine over_drop rfl ?_)
            · exact fun w h => h.pick [1, 2, 3, 4] _ rfl (by decide)
            · refine ⟨⟨by omega, by dsimp only; omega, ?_⟩, by omega⟩
              dsimp only
              rw [hs1x, List.take_succ_eq_append_getElem (by omega), List.map_append, ← List.append_assoc, List.flatMap_append]
              simp [zc, c2]
          · refine tr_exit ?_
            refine tx_then_exit ?_
            refine tx_then_exit ?_
            refine tx_in_exit ?_
            refine tx_then ?_
            refine tr_seq ?_
            refine tr_region ?_
            refine tl_step rfl (oj_val (y_move (fe_t rfl)) ?_)
            refine tl_step rfl (oj_slice0 Tryz.underlying22 Tryz.sizeOf3 (fun g1 => ?_))
            refine tl_step rfl (oj_val (y_move (fe_t rfl)) ?_)
            refine tl_step rfl (oj_val (y_move (fe_t rfl)) ?_)
            refine tl_step rfl (oj_val (y_len Tryz.underlying22 (fe_t rfl)) ?_)
            refine tl_step rfl (oj_val (y_cutL Tryz.underlying22 Tryz.sizeOf3 (fe_t rfl) (fe_t rfl) (by omega)) ?_)
            refine tl_step rfl (oj_appg (i := 0) (s := 1) (z := (.int .i64 0)) (bytes := 8) Tryz.underlying22 (by kernel_rfl) (fe_t rfl) (fe_t rfl) rfl (rdl_out hdrop) (by first | (simp; done) | (simp; omega)) (by decide) (by first | exact oneI | exact oneF (fun _ => rfl) | exact fun u hu => List.all_eq_true.1 (show List.all _ (fun x => x.oneCell') = true from rfl) u hu | (intro u hu; revert u hu; simp [Value.oneCell'])) ⟨by omega, by decide⟩ (fun Aa2 ca2 hca2 => ?_))
            refine tl_step rfl (oj_slice1 Tryz.underlying26 Tryz.sizeOf22 Tryz.zeroValue22 (fe_t rfl) (by decide) rfl (fun b2 => ?_))
            refine tl_step rfl (oj_append (i := 3) (s := 1) (z := (.slice none 0 0)) (bytes := 24) Tryz.underlying26 (by kernel_rfl) (fe_t rfl) (fe_t rfl) rfl (rdl_blk 0 rfl) rfl (by decide) (by first | exact oneI | exact oneF (fun _ => rfl) | exact fun u hu => List.all_eq_true.1 (show List.all _ (fun x => x.oneCell') = true from rfl) u hu | (intro u hu; revert u hu; simp [Value.oneCell'])) (by decide) ⟨by omega, by decide⟩ (fun Aa3 ca3 hca3 => ?_))
            refine tl_step rfl (oj_val (y_assign (fe_t rfl)) ?_)
            refine tl_nil ?_
            refine tx_then ?_
            refine tr_absorb 1 4 rfl rfl rfl ?_
            refine tr_region ?_
            refine tl_step rfl (oj_val (y_move (fe_t rfl)) ?_)
            refine tl_step rfl (oj_val (y_move (fe_t rfl)) ?_)
            refine tl_step rfl (oj_slice1 Tryz.underlying22 Tryz.sizeOf3 Tryz.zeroValue3 (fe_t rfl) (by decide) rfl (fun b3 => ?_))
            refine tl_step rfl (oj_append (i := 6) (s := 1) (z := (.int .i64 0)) (bytes := 8) Tryz.underlying22 (by kernel_rfl) (fe_t rfl) (fe_t rfl) rfl (rdl_blk 0 rfl) rfl (by decide) (by first | exact oneI | exact oneF (fun _ => rfl) | exact fun u hu => List.all_eq_true.1 (show List.all _ (fun x => x.oneCell') = true from rfl) u hu | (intro u hu; revert u hu; simp [Value.oneCell'])) (by decide) ⟨by omega, by decide⟩ (fun Aa4 ca4 hca4 => ?_))
            refine tl_step rfl (oj_val (y_assign (fe_t rfl)) ?_)
            refine tl_nil ?_
            refine tx_in ?_
            refine tx_then ?_
            refine tr_region ?_
            refine tl_step rfl (oj_val (y_inc (fe_t rfl) fe_c (by omega)) ?_)
            refine tl_step rfl (oj_val (y_move (fe_t rfl)) ?_)
            refine tl_nil ?_
            apply tx_back5 (k + 1) ((⟨_, _, _, _⟩ : Vs)) ((⟨_, _, _, _⟩ : Vs)) ((⟨_, _, _, _⟩ : Vs)) (_)
            · exact (cov_cons (by first | rfl | exact v_int (by omega) | exact v_bool (by simp [*])) (cov_cons (by first | rfl | exact v_int (by omega) | exact v_bool (by simp [*])) (cov_cons (by first | rfl | exact v_int (by omega) | exact v_bool (by simp [*])) (cov_cons (by first | rfl | exact v_int (by omega) | exact v_bool (by simp [*])) (cov_nil)))))
            · repeat (first | exact over_nil | refine over_put rfl ?_ | refine over_drop rfl ?_)
            · exact fun w h => h.pick [3, 4, 5, 6] _ rfl (by decide)
            · refine ⟨⟨by omega, ⟨?_, ?_⟩, ?_, ?_, ?_, ?_⟩, by omega⟩
              all_goals (try dsimp only)
              · rw [hs1n, snds_succ, List.length_append, snd1, hmk, hfk, cut, List.length_map, hlt]; omega
              · rw [hs1x, snds_succ, snd1, hmk, hfk, cut, show j = (gr (ys[k]'(by omega) + ts[k]'(by omega)) fs[k]).1 by omega]
              · omega
              · rw [hxss, lfts_succ, List.map_append, hmk, hfk, lft]; simp [cI]
              · omega
              · rw [hs3x, yets_succ, cI, cI, List.map_append, hmk, hfk]; rfl
        · refine tr_exit ?_
          refine tx_then_exit ?_
          refine tx_then_exit ?_
          refine tx_in_exit ?_
          refine tx_then ?_
          refine tr_seq ?_
          refine tr_region ?_
          refine tl_step rfl (oj_val (y_move (fe_t rfl)) ?_)
          refine tl_step rfl (oj_val (y_move (fe_t rfl)) ?_)
          refine tl_step rfl (oj_val (y_move (fe_t rfl)) ?_)
          refine tl_step rfl (oj_val (y_assign (fe_t rfl)) ?_)
          refine tl_step rfl (oj_val (y_assign (fe_t rfl)) ?_)
          refine tl_step rfl (oj_val (y_assign (fe_t rfl)) ?_)
          refine tl_step rfl (oj_val (y_assign fe_c) ?_)
          refine tl_nil ?_
          refine tx_then ?_
          refine tr_ret ?_
          refine tx_ret (res4 Tryz.results13 (rok_t rfl) (rok_t rfl) (rok_t rfl) (rok_t rfl)) (fun w' hS => ?_)
          obtain rfl : k = ts.length := by omega
          have e1 := OwnV.rd (hS.holds 0 _ rfl)
          have e2 := OwnV.rd (hS.holds 1 _ rfl)
          have e3 := OwnV.rd (hS.holds 3 _ rfl)
          rw [round_ok hw0 (by omega) (fun j h => hya j h)]
          obtain ⟨A1, n1, q1, x1⟩ := s1
          obtain ⟨A2, n2, q2, x2⟩ := s2
          obtain ⟨A3, n3, q3, x3⟩ := s3
          dsimp only at hs1n hs1x hs2n hs3n hs3x
          subst hs1n hs1x hs2n hs3n hs3x hxss
          have hS2 : E.St w w' [vec 35 2 (.slice A1 (snds ts ys fs ts.length).length q1) (snds ts ys fs ts.length).length ((snds ts ys fs ts.length).flatMap c2), vec 22 1 (.slice A2 ts.length q2) ts.length x2, E.rows 3 1 x2 ((lfts ts ys fs ts.length).map cI), vec 3 1 (.slice A3 ts.length q3) ts.length (cI (yets ts ys fs ts.length))] := hS.pick [0, 1, 2, 3] _ rfl (by decide)
          refine ⟨⟨A1, q1, A2, q2, A3, q3, x2⟩, ⟨e1.2.1, ?_, ?_⟩, ?_, ?_⟩
          · simpa only [lfts_len] using e2.2.1
          · simpa only [yets_len] using e3.2.1
          · simp only [lfts_len, yets_len]
          · simpa only [lfts_len, yets_len] using hS2

end Go.Proofs.YtoibebmhfcjpfaaGreatDoor.Drr

namespace Go.Proofs.YtoibebmhfcjpfaaGreatDoor.Drr
open Go.RowKit Go.Proofs.YtoibebmhfcjpfaaGreatDoor.E

/-- The answer of many rounds. -/
def roundsM (ts : List Int) (fs : List (List Int)) (R : Int) : Int × List (Int × Int) × List (List Int) × List Int :=
  if wrongE ts fs ≠ 0 then (wrongE ts fs, [], [], []) else if R < 0 ∨ 400 < R then (2, [], [], []) else
  (0, (it ts fs ts.length (st0 (List.replicate ts.length 0)) R.toNat).S, lsOf fs ts.length (it ts fs ts.length (st0 (List.replicate ts.length 0)) R.toNat), ysOf ts.length (it ts fs ts.length (st0 (List.replicate ts.length 0)) R.toNat))

set_option maxRecDepth 100000 in
set_option maxHeartbeats 4000000 in
theorem rounds_any (A B : Option Addr) (n m c d : Nat) (ts : List Int) (hs0 : List Value) (fs : List (List Int)) (R : Int) (w : World) (hr : Rd w A (ts.map (.int .i64))) (hn : ts.length = n) (hR : RdR w B hs0 fs) (hm : fs.length = m) (hn2 : n ≤ 140737488355328) (hm2 : m ≤ 140737488355328) (hrow : ∀ r ∈ fs, r.length ≤ 140737488355328) :
    Calls Tryz.prog 7 #[.slice A n c, .slice B m d, (.int .i64 R)] w (RoundP w (roundsM ts fs R)) := by
  refine calls_tr Tryz.func7 Tryz.ntmps7 rfl rfl (St.refl _) ?_
  refine tr_seq ?_
  refine tr_region ?_
  refine tl_step rfl (oj_val (y_assign fe_c) ?_)
  refine tl_step rfl (oj_val (y_assign fe_c) ?_)
  refine tl_step rfl (oj_val (y_assign fe_c) ?_)
  refine tl_step rfl (oj_val (y_assign fe_c) ?_)
  refine tl_nil ?_
  refine tx_then ?_
  refine tr_seq ?_
  refine tr_seq ?_
  refine tr_region ?_
  refine tl_step rfl (oj_val (y_move (fe_t rfl)) ?_)
  refine tl_step rfl (oj_val (y_move (fe_t rfl)) ?_)
  refine tl_step rfl (oj_callv Tryz.call12 fe_f (fel_cons (fe_t rfl) (fel_cons (fe_t rfl) fel_nil)) (fun w' hS => of_eq (wrong_any A B n m c d ts hs0 fs w' (Rd.below hr hS.below) hn (hR.below hS.below) hm hn2 hm2 hrow)) ?_)
  refine tl_step rfl (oj_val (y_assign (fe_t rfl)) ?_)
  refine tl_nil ?_
  refine tx_then ?_
  refine tr_seq ?_
  refine tr_region ?_
  refine tl_step rfl (oj_val (y_move (fe_t rfl)) ?_)
  refine tl_step rfl (oj_val (y_neq (fe_t rfl) fe_c) ?_)
  refine tl_nil ?_
  refine tx_then ?_
  refine tr_condp (fe_t rfl) (fun h1 => ?_) (fun h2 => ?_)
  · refine tr_seq ?_
    refine tr_region ?_
    refine tl_step rfl (oj_val (y_move (fe_t rfl)) ?_)
    refine tl_step rfl (oj_val (y_assign fe_c) ?_)
    refine tl_step rfl (oj_val (y_assign fe_c) ?_)
    refine tl_step rfl (oj_val (y_assign fe_c) ?_)
    refine tl_step rfl (oj_val (y_assign (fe_t rfl)) ?_)
    refine tl_nil ?_
    refine tx_then ?_
    refine tr_ret ?_
    refine tx_then_ret ?_
    refine tx_ret (res4 Tryz.results7 (rok_t rfl) (rok_t rfl) (rok_t rfl) (rok_t rfl)) (fun w' hS => ?_)
    exact round_nil (by first | (rw [roundsM, if_pos (by assumption)]) | (rw [roundsM, if_neg (by omega), if_pos (by omega)])) (hS.pick [] _ rfl (by decide))
  · have hw0 : wrongE ts fs = 0 := by omega
    obtain ⟨glen, h16, g3⟩ := wrong_zero hw0
    obtain ⟨s0, hs0e⟩ : ∃ s0, st0 (List.replicate ts.length 0) = s0 := ⟨_, rfl⟩
    have hG0 : Good ts fs ts.length s0 := by rw [← hs0e]; exact good_start hw0 (by simp) (fun j hj => by simp)
    refine tr_skip ?_
    refine tx_then ?_
    refine tr_seq ?_
    refine tr_seq ?_
    refine tr_region ?_
    refine tl_step rfl (oj_val (y_move (fe_t rfl)) ?_)
    refine tl_step rfl (oj_val (y_lss (fe_t rfl) fe_c) ?_)
    refine tl_step rfl (oj_val (y_move (fe_t rfl)) ?_)
    refine tl_splitp (d := 29) rfl (fun h3 => ?_) (fun h4 => ?_)
    · refine tl_skip rfl rfl rfl rfl ?_
      refine tl_skip rfl rfl rfl rfl ?_
      refine tl_step rfl (oj_val (y_pickt (fe_t rfl) fe_c) ?_)
      refine tl_nil ?_
      refine tx_then ?_
      refine tr_condt (fe_t rfl) ?_
      refine tr_seq ?_
      refine tr_region ?_
      refine tl_step rfl (oj_val (y_assign fe_c) ?_)
      refine tl_step rfl (oj_val (y_assign fe_c) ?_)
      refine tl_step rfl (oj_val (y_assign fe_c) ?_)
      refine tl_step rfl (oj_val (y_assign fe_c) ?_)
      refine tl_nil ?_
      refine tx_then ?_
      refine tr_ret ?_
      refine tx_then_ret ?_
      refine tx_ret (res4 Tryz.results7 (rok_t rfl) (rok_t rfl) (rok_t rfl) (rok_t rfl)) (fun w' hS => ?_)
      exact round_nil (by first | (rw [roundsM, if_pos (by assumption)]) | (rw [roundsM, if_neg (by omega), if_pos (by omega)])) (hS.pick [] _ rfl (by decide))
    · refine tl_want rfl rfl rfl (oj_val (y_move (fe_t rfl)) ?_)
      refine tl_want rfl rfl rfl (oj_val (y_gtr (fe_t rfl) fe_c) ?_)
      refine tl_step rfl (oj_val (y_pickf (fe_t rfl) (fe_t rfl)) ?_)
      refine tl_nil ?_
      refine tx_then ?_
      refine tr_condp (fe_t rfl) (fun h5 => ?_) (fun h6 => ?_)
      · refine tr_seq ?_
        refine tr_region ?_
        refine tl_step rfl (oj_val (y_assign fe_c) ?_)
        refine tl_step rfl (oj_val (y_assign fe_c) ?_)
        refine tl_step rfl (oj_val (y_assign fe_c) ?_)
        refine tl_step rfl (oj_val (y_assign fe_c) ?_)
        refine tl_nil ?_
        refine tx_then ?_
        refine tr_ret ?_
        refine tx_then_ret ?_
        refine tx_ret (res4 Tryz.results7 (rok_t rfl) (rok_t rfl) (rok_t rfl) (rok_t rfl)) (fun w' hS => ?_)
        exact round_nil (by first | (rw [roundsM, if_pos (by assumption)]) | (rw [roundsM, if_neg (by omega), if_pos (by omega)])) (hS.pick [] _ rfl (by decide))
      · refine tr_skip ?_
        refine tx_then ?_
        refine tr_seq ?_
        refine tr_region ?_
        refine tl_step rfl (oj_val (y_assign fe_c) ?_)
        refine tl_nil ?_
        refine tx_then ?_
        refine tr_seq ?_
        refine tr_draw (sel _ []) (fun w h => h.sel _ rfl (by decide)) rfl ?_
        refine ta_float (i := 0) rfl (by kernel_rfl) (wants_none rfl) (yq_of (y_move (fe_t rfl))) ?_
        refine ta_float (i := 1) rfl (by kernel_rfl) (wants_none rfl) (yq_of (y_move (fe_t rfl))) ?_
        refine ta_float (i := 2) rfl (by kernel_rfl) (wants_none rfl) (yq_of (y_len Tryz.underlying22 (fe_t rfl))) ?_
        refine ta_float (i := 4) rfl (by kernel_rfl) (wants_none rfl) (yq_of (y_assign (fe_t rfl))) ?_
        refine ta_one (i := 3) rfl (by kernel_rfl) (wants_none rfl) (oj_make (z := (.int .i64 0)) (bytes := 8) Tryz.underlying22 (by kernel_rfl) (fe_t rfl) (fe_t rfl) rfl ⟨by omega, by decide⟩ (fun g1 => ⟨fun w h => h.pick [] _ rfl (by decide), ?_⟩))
        refine ta_float (i := 5) rfl (by kernel_rfl) (wants_none rfl) (yq_of (y_assign (fe_t rfl))) ?_
        refine ta_done (by kernel_rfl) ?_
        refine tx_then ?_
        refine tr_seq ?_
        refine tr_seq ?_
        refine tr_region ?_
        refine tl_step rfl (oj_val (y_move (fe_t rfl)) ?_)
        refine tl_step rfl (oj_val (y_move fe_c) ?_)
        refine tl_nil ?_
        refine tx_then ?_
        refine tr_block ?_
        refine tr_add (r := emp) emp_holds rfl ?_
        refine tr_add (r := emp) emp_holds rfl ?_
        refine tr_add (r := vec 35 2 (.slice none 0 0) 0 []) vec_nil rfl ?_
        refine tr_loop10 [6, 7, 8, 9, 11, 12, 13, 14, 15, 16, 17, 38, 39, 40, 41, 42, 43, 44, 45, 46, 47, 48, 49, 50, 51, 52, 53, 54, 55, 56, 57] (fun (r : Nat) (s1 : Vs) (LB : Option Addr) (ln : Nat) (lc : Nat) (hs : List Value) (ls : List (List Int)) (X1 : Res) (X2 : Res) (s3 : Vs) => [(38, .int .i64 (r : Int)), (11, .slice s1.A s1.n s1.c), (12, .slice LB ln lc), (13, .slice s3.A s3.n s3.c)]) 0 (fun (r : Nat) (s1 : Vs) (LB : Option Addr) (ln : Nat) (lc : Nat) (hs : List Value) (ls : List (List Int)) (X1 : Res) (X2 : Res) (s3 : Vs) => [(0, vec 35 2 (.slice s1.A s1.n s1.c) s1.n s1.xs), (1, X1), (2, X2), (3, vec 3 1 (.slice s3.A s3.n s3.c) s3.n s3.xs)]) (fun (r : Nat) (s1 : Vs) (LB : Option Addr) (ln : Nat) (lc : Nat) (hs : List Value) (ls : List (List Int)) (X1 : Res) (X2 : Res) (s3 : Vs) => (r : Int) ≤ R ∧ (s1.n = (it ts fs ts.length s0 r).S.length ∧ s1.xs = (it ts fs ts.length s0 r).S.flatMap c2) ∧ ls.length = ln ∧ ls = lsOf fs ts.length (it ts fs ts.length s0 r) ∧ (∀ w', Below w.heap.size w w' → X1.holds w' → X2.holds w' → RdR w' LB hs ls) ∧ (s3.n = ts.length ∧ s3.xs = cI (ysOf ts.length (it ts fs ts.length s0 r)))) (fun (r : Nat) (s1 : Vs) (LB : Option Addr) (ln : Nat) (lc : Nat) (hs : List Value) (ls : List (List Int)) (X1 : Res) (X2 : Res) (s3 : Vs) => (R - r).toNat) (0) (⟨none, 0, 0, []⟩ : Vs) (B) (m) (d) (hs0) (fs) (emp) (emp) (⟨_, _, _, _⟩ : Vs) (cov_cons (by first | rfl | exact v_int (by omega) | exact v_bool (by simp [*])) (cov_cons (by first | rfl | exact v_int (by omega) | exact v_bool (by simp [*])) (cov_cons (by first | rfl | exact v_int (by omega) | exact v_bool (by simp [*])) (cov_cons (by first | rfl | exact v_int (by omega) | exact v_bool (by simp [*])) (cov_nil))))) (fun w h => h) ?_ ?_
        · try dsimp only
          refine ⟨by omega, ⟨?_, ?_⟩, hm, ?_, fun w' hb _ _ => hR.below hb, hn.symm, ?_⟩
          · rw [← hs0e]; rfl
          · rw [← hs0e]; rfl
          · have := ls_start (fs := fs) (ys := List.replicate ts.length 0)
            rw [← glen] at this
            rw [← hs0e, it]
            exact this.symm
          · have := ys_start (ys := List.replicate ts.length 0)
            rw [List.length_replicate] at this
            rw [← hs0e, it, this, ← hn]
            simp [cI]
        intro r s1 LB ln lc hs ls X1 X2 s3 hp
        obtain ⟨hrR, ⟨hs1n, hs1x⟩, hln, hls, hX, hs3n, hs3x⟩ := hp
        refine tr_seq ?_
        refine tr_region ?_
        refine tl_step rfl (oj_val (y_lss (fe_t rfl) (fe_t rfl)) ?_)
        refine tl_nil ?_
        refine tx_then ?_
        refine tr_seq ?_
        refine tr_condp (fe_t rfl) (fun h7 => ?_) (fun h8 => ?_)
        · refine tr_skip ?_
          refine tx_then ?_
          refine tr_seq ?_
          refine tr_block ?_
          refine tr_seq ?_
          have hlsn : ls.length = n := by rw [hls]; simp [lsOf]; omega
          have hG := hG0.it r
          have hSl : (it ts fs ts.length s0 (r + 1)).S.length ≤ 400 * 16 * 401 := Nat.le_trans (S_len hG0 (by rw [← hs0e]; rfl) (r + 1)) (Nat.mul_le_mul (Nat.mul_le_mul_left _ h16) (by omega))
          have hSe : (it ts fs ts.length s0 (r + 1)).S = (it ts fs ts.length s0 r).S ++ (List.range ts.length).flatMap (sent1 ts fs (it ts fs ts.length s0 r)) := rfl
          have hSle := congrArg List.length hSe
          rw [List.length_append] at hSle
          refine tr_region ?_
          refine tl_step rfl (oj_val (y_move (fe_t rfl)) ?_)
          refine tl_step rfl (oj_val (y_move (fe_t rfl)) ?_)
          refine tl_step rfl (oj_val (y_move (fe_t rfl)) ?_)
          refine tl_step rfl (oj_call Tryz.call13 fe_f (fel_cons (fe_t rfl) (fel_cons (fe_t rfl) (fel_cons (fe_t rfl) fel_nil))) (fun w' hS => by
          have hd := OwnV.rd (hS.holds 3 _ rfl)
          have := round_any A LB s3.A n ln s3.n c lc s3.c ts hs ls (ysOf ts.length (it ts fs ts.length s0 r)) w' (Rd.below hr hS.below) hn (hX w' hS.below (hS.holds 1 _ rfl) (hS.holds 2 _ rfl)) hln (by have h3 := hd.2.2; rw [hs3x] at h3; exact h3) (by simp [ysOf]; omega) hn2 (by omega) (by omega) (fun r hr => by
            obtain ⟨i, hi, rfl⟩ := List.mem_iff_getElem.1 hr
            have := (hG.row i (by omega)).2.2.1
            have e : ls[i] = rest fs (it ts fs ts.length s0 r) i := by
              have : ls[i] = ls.getD i [] := by simp [List.getD_eq_getElem?_getD, hi]
              rw [this, hls, ls_get (by omega)]
            rw [e]; omega)
          rw [hls, hG.round h16] at this
          dsimp only [RoundP] at this
          exact this) (fun q hq => ?_))
          refine tl_step rfl (oj_val (y_move (fe_t rfl)) ?_)
          refine tl_step rfl (oj_val (y_extract (fe_t rfl) rfl) ?_)
          refine tl_step rfl (oj_val (y_extract (fe_t rfl) rfl) ?_)
          refine tl_step rfl (oj_val (y_extract (fe_t rfl) rfl) ?_)
          refine tl_step rfl (oj_val (y_extract (fe_t rfl) rfl) ?_)
          refine tl_step rfl (oj_val (y_assign (fe_t rfl)) ?_)
          refine tl_step rfl (oj_val (y_assign (fe_t rfl)) ?_)
          refine tl_step rfl (oj_val (y_assign (fe_t rfl)) ?_)
          refine tl_step rfl (oj_val (y_assign (fe_t rfl)) ?_)
          refine tl_nil ?_
          refine tx_then ?_
          refine tr_seq ?_
          refine tr_seq ?_
          refine tr_region ?_
          refine tl_step rfl (oj_val (y_move (fe_t rfl)) ?_)
          refine tl_step rfl (oj_val (y_neq (fe_t rfl) fe_c) ?_)
          refine tl_nil ?_
          refine tx_then ?_
          refine tr_condp (fe_t rfl) (fun h9 => ?_) (fun h10 => ?_)
          · exact absurd rfl h9
          · refine tr_skip ?_
            refine tx_then ?_
            refine tr_region ?_
            refine tl_step rfl (oj_val (y_move (fe_t rfl)) ?_)
            refine tl_step rfl (oj_val (y_move (fe_t rfl)) ?_)
            refine tl_step rfl (oj_appg (i := 4) (s := 2) (z := (.agg #[.int .i64 0, .int .i64 0])) (bytes := 16) Tryz.underlying28 (by kernel_rfl) (fe_t rfl) (fe_t rfl) rfl (rdl_vec 0 rfl) (lenF (fun _ => rfl) rfl) (by decide) (by first | exact oneI | exact oneF (fun _ => rfl) | exact fun u hu => List.all_eq_true.1 (show List.all _ (fun x => x.oneCell') = true from rfl) u hu | (intro u hu; revert u hu; simp [Value.oneCell'])) ⟨by omega, by decide⟩ (fun Aa1 ca1 hca1 => ?_))
            refine tl_step rfl (oj_val (y_move (fe_t rfl)) ?_)
            refine tl_step rfl (oj_val (y_move (fe_t rfl)) ?_)
            refine tl_step rfl (oj_val (y_assign (fe_t rfl)) ?_)
            refine tl_step rfl (oj_val (y_assign (fe_t rfl)) ?_)
            refine tl_step rfl (oj_val (y_assign (fe_t rfl)) ?_)
            refine tl_nil ?_
            refine tx_in ?_
            refine tx_then ?_
            refine tr_region ?_
            refine tl_step rfl (oj_val (y_inc (fe_t rfl) fe_c (by omega)) ?_)
            refine tl_step rfl (oj_val (y_move (fe_t rfl)) ?_)
            refine tl_nil ?_
            apply tx_back10 (r + 1) ((⟨_, _, _, _⟩ : Vs)) (_) (_) (_) (q.hs) (lsOf fs ts.length (it ts fs ts.length s0 (r + 1))) (_) (_) ((⟨_, _, _, _⟩ : Vs))
            · exact (cov_cons (by first | rfl | exact v_int (by omega) | exact v_bool (by simp [*])) (cov_cons (by first | rfl | exact v_int (by omega) | exact v_bool (by simp [*])) (cov_cons (by first | rfl | exact v_int (by omega) | exact v_bool (by simp [*])) (cov_cons (by first | rfl | exact v_int (by omega) | exact v_bool (by simp [*])) (cov_nil)))))
            · repeat (first | exact over_nil | refine over_put rfl ?_ | refine over_drop rfl ?_)
            · exact fun w h => h.pick [4, 1, 2, 3] _ rfl (by decide)
            · refine ⟨⟨by omega, ⟨by dsimp only; omega, by dsimp only; rw [hs1x, hSe, List.flatMap_append]⟩, rfl, rfl, fun w' _ h1 h2 => rdr_own h1 h2, by simp [ysOf], rfl⟩, by omega⟩
        · refine tr_exit ?_
          refine tx_then_exit ?_
          refine tx_then_exit ?_
          refine tx_in_exit ?_
          refine tx_then ?_
          refine tr_seq ?_
          have hlsn : ls.length = n := by rw [hls]; simp [lsOf]; omega
          refine tr_region ?_
          refine tl_step rfl (oj_val (y_assign fe_c) ?_)
          refine tl_nil ?_
          refine tx_then ?_
          refine tr_seq ?_
          refine tr_seq ?_
          refine tr_region ?_
          refine tl_step rfl (oj_val (y_move (fe_t rfl)) ?_)
          refine tl_step rfl (oj_val (y_len Tryz.underlying26 (fe_t rfl)) ?_)
          refine tl_step rfl (oj_val (y_move fe_c) ?_)
          refine tl_nil ?_
          refine tx_then ?_
          refine tr_block ?_
          have hlen : ∀ i (h : i < ls.length), ls[i].length ≤ 400 := fun i hi => by
            have := ((hG0.it r).row i (by omega)).2.2.1
            have e : ls[i] = rest fs (it ts fs ts.length s0 r) i := by
              have : ls[i] = ls.getD i [] := by simp [List.getD_eq_getElem?_getD, hi]
              rw [this, hls, ls_get (by omega)]
            rw [e]; omega
          refine tr_add (r := E.rows 3 1 [] []) rows_nil rfl ?_
          refine tr_add (r := vec 22 1 (.slice none 0 0) 0 []) vec_nil rfl ?_
          refine tr_loop3 [18, 20, 60, 61, 62, 63, 64, 65, 66, 67, 68, 69, 70] (fun (k : Nat) (s2 : Vs) (xss : List (List Value)) => [(60, .int .i64 (k : Int)), (18, .slice s2.A s2.n s2.c)]) 0 (fun (k : Nat) (s2 : Vs) (xss : List (List Value)) => [(0, vec 22 1 (.slice s2.A s2.n s2.c) s2.n s2.xs), (1, E.rows 3 1 s2.xs xss)]) (fun (k : Nat) (s2 : Vs) (xss : List (List Value)) => k ≤ ls.length ∧ s2.n = k ∧ xss = (ls.take k).map cI) (fun (k : Nat) (s2 : Vs) (xss : List (List Value)) => ls.length - k) (0) (⟨none, 0, 0, []⟩ : Vs) ([]) (cov_cons (by first | rfl | exact v_int (by omega) | exact v_bool (by simp [*])) (cov_cons (by first | rfl | exact v_int (by omega) | exact v_bool (by simp [*])) (cov_nil))) (fun w h => h) ?_ ?_
          · try dsimp only
            simp
          intro k s2 xss hp
          obtain ⟨hk, hs2n, hxss⟩ := hp
          refine tr_seq ?_
          refine tr_region ?_
          refine tl_step rfl (oj_val (y_lss (fe_t rfl) (fe_t rfl)) ?_)
          refine tl_nil ?_
          refine tx_then ?_
          refine tr_seq ?_
          refine tr_condp (fe_t rfl) (fun h11 => ?_) (fun h12 => ?_)
          · refine tr_skip ?_
            refine tx_then ?_
            refine tr_seq ?_
            refine tr_block ?_
            refine tr_seq ?_
            refine tr_pure (φ := Hdr hs ls) (fun w' hS => (hX w' hS.below (hS.holds 3 _ rfl) (hS.holds 4 _ rfl)).hdr) (fun hh => ?_)
            have hkl : k < ls.length := by omega
            have hhl := hh.1
            obtain ⟨Bk, ck, hk1, hk2⟩ := hh.2 k hkl (by omega)
            have hlk := hlen k hkl
            refine tr_region ?_
            refine tl_step rfl (oj_val (y_index Tryz.underlying26 Tryz.sizeOf22 (fe_t rfl) (fe_t rfl) (fun w' hS => (hX w' hS.below (hS.holds 3 _ rfl) (hS.holds 4 _ rfl)).hd) (by omega) (by decide) (by omega) (Nat.mul_one _)) ?_)
            refine tl_step rfl (oj_val (y_ld Tryz.isAgg22 (fe_t rfl) (fun w' hS => (hX w' hS.below (hS.holds 3 _ rfl) (hS.holds 4 _ rfl)).hd) (getH (by omega) hk1)) ?_)
            refine tl_step rfl (oj_val (y_assign (fe_t rfl)) ?_)
            refine tl_nil ?_
            refine tx_then ?_
            refine tr_region ?_
            refine tl_step rfl (oj_val (y_move (fe_t rfl)) ?_)
            refine tl_step rfl (oj_slice0 Tryz.underlying22 Tryz.sizeOf3 (fun g2 => ?_))
            refine tl_step rfl (oj_val (y_move (fe_t rfl)) ?_)
            refine tl_step rfl (oj_appg (i := 0) (s := 1) (z := (.int .i64 0)) (bytes := 8) Tryz.underlying22 (by kernel_rfl) (fe_t rfl) (fe_t rfl) rfl (fun w' hS => (hX w' hS.below (hS.holds 4 _ rfl) (hS.holds 5 _ rfl)).rd (i := k) (by omega) (by omega) hk1) (by first | (simp; done) | (simp; omega)) (by decide) (by first | exact oneI | exact oneF (fun _ => rfl) | exact fun u hu => List.all_eq_true.1 (show List.all _ (fun x => x.oneCell') = true from rfl) u hu | (intro u hu; revert u hu; simp [Value.oneCell'])) ⟨by omega, by decide⟩ (fun Aa2 ca2 hca2 => ?_))
            refine tl_step rfl (oj_slice1 Tryz.underlying26 Tryz.sizeOf22 Tryz.zeroValue22 (fe_t rfl) (by decide) rfl (fun b1 => ?_))
            refine tl_step rfl (oj_append (i := 2) (s := 1) (z := (.slice none 0 0)) (bytes := 24) Tryz.underlying26 (by kernel_rfl) (fe_t rfl) (fe_t rfl) rfl (rdl_blk 0 rfl) rfl (by decide) (by first | exact oneI | exact oneF (fun _ => rfl) | exact fun u hu => List.all_eq_true.1 (show List.all _ (fun x => x.oneCell') = true from rfl) u hu | (intro u hu; revert u hu; simp [Value.oneCell'])) (by decide) ⟨by omega, by decide⟩ (fun Aa3 ca3 hca3 => ?_))
            refine tl_step rfl (oj_val (y_assign (fe_t rfl)) ?_)
            refine tl_nil ?_
            refine tx_in ?_
            refine tx_then ?_
            refine tr_absorb 1 3 rfl rfl rfl ?_
            refine tr_region ?_
            refine tl_step rfl (oj_val (y_inc (fe_t rfl) fe_c (by omega)) ?_)
            refine tl_step rfl (oj_val (y_move (fe_t rfl)) ?_)
            refine tl_nil ?_
            apply tx_back3 (k + 1) ((⟨_, _, _, _⟩ : Vs)) (_)
            · exact (cov_cons (by first | rfl | exact v_int (by omega) | exact v_bool (by simp [*])) (cov_cons (by first | rfl | exact v_int (by omega) | exact v_bool (by simp [*])) (cov_nil)))
            · repeat (first | exact over_nil | refine over_put rfl ?_ | refine over_drop rfl ?_)
            · exact fun w h => h.pick [2, 3, 4, 5, 6, 7] _ rfl (by decide)
            · refine ⟨⟨by omega, by dsimp only; omega, ?_⟩, by omega⟩
              rw [hxss, List.take_succ_eq_append_getElem hkl, List.map_append]
              rfl
          · refine tr_exit ?_
            refine tx_then_exit ?_
            refine tx_then_exit ?_
            refine tx_in_exit ?_
            refine tx_then ?_
            refine tr_seq ?_
            refine tr_region ?_
            refine tl_step rfl (oj_val (y_move (fe_t rfl)) ?_)
            refine tl_step rfl (oj_val (y_move (fe_t rfl)) ?_)
            refine tl_step rfl (oj_val (y_move (fe_t rfl)) ?_)
            refine tl_step rfl (oj_val (y_assign (fe_t rfl)) ?_)
            refine tl_step rfl (oj_val (y_assign (fe_t rfl)) ?_)
            refine tl_step rfl (oj_val (y_assign (fe_t rfl)) ?_)
            refine tl_step rfl (oj_val (y_assign fe_c) ?_)
            refine tl_nil ?_
            refine tx_then ?_
            refine tr_ret ?_
            refine tx_ret (res4 Tryz.results7 (rok_t rfl) (rok_t rfl) (rok_t rfl) (rok_t rfl)) (fun w' hS => ?_)
            have e1 := OwnV.rd (hS.holds 2 _ rfl)
            have e2 := OwnV.rd (hS.holds 0 _ rfl)
            have e3 := OwnV.rd (hS.holds 5 _ rfl)
            obtain rfl : r = R.toNat := by omega
            have hR2 : roundsM ts fs R = (0, (it ts fs ts.length s0 R.toNat).S, ls, ysOf ts.length (it ts fs ts.length s0 R.toNat)) := by
              rw [roundsM, if_neg (by omega), if_neg (by omega), hs0e, hls]
            rw [hR2]
            have hyl : (ysOf ts.length (it ts fs ts.length s0 R.toNat)).length = ts.length := by simp [ysOf]
            obtain rfl : k = ls.length := by omega
            obtain ⟨A1, n1, q1, x1⟩ := s1
            obtain ⟨A2, n2, q2, x2⟩ := s2
            obtain ⟨A3, n3, q3, x3⟩ := s3
            dsimp only at hs1n hs1x hs3n hs3x hs2n
            subst hs1n hs1x hs3n hs3x hs2n hxss
            rw [List.take_length] at hS
            refine ⟨⟨A1, q1, A2, q2, A3, q3, x2⟩, ⟨e1.2.1, e2.2.1, by simp only [hyl]; exact e3.2.1⟩, by simp only [hyl], ?_⟩
            simp only [hyl]
            exact hS.pick [2, 0, 1, 5] _ rfl (by decide)

end Go.Proofs.YtoibebmhfcjpfaaGreatDoor.Drr
