/- slices.Contains; out; hier.Play refuses. -/
import Derived.Test.YtfcpmcdlgkfolaaDoorZhHrW
import Derived.Test.YtfcpmcdlgkfolaaDoorZhHrE
namespace Go.Proofs.YtfcpmcdlgkfolaaDoor.Hier
open Go.RowKit Go.Proofs.YtfcpmcdlgkfolaaDoor.E Go.Proofs.YtfcpmcdlgkfolaaDoor.Wfq
open Go.Proofs.YtfcpmcdlgkfolaaDoor.Scfq (hd hd_mem)

set_option maxRecDepth 100000 in
set_option maxHeartbeats 1000000 in
theorem indexI (A : Option Addr) (n c : Nat) (l : List Int) (x : Int) (w : World) (hr : Rd w A (l.map (.int .i64))) (hn : l.length = n) (hm : n ≤ 140737488355328) :
    Calls Tryd.prog 85 #[.slice A n c, (.int .i64 x)] w fun e w' => ∃ r : Int, (0 ≤ r ↔ x ∈ l) ∧ e = .returned (.int .i64 r) ∧ St w w' [] := by
  refine calls_tr Tryd.func85 Tryd.ntmps85 rfl rfl (St.refl _) ?_
  refine tr_seq ?_
  refine tr_region ?_
  refine tl_step rfl (oj_val (y_assign fe_c) ?_)
  refine tl_nil ?_
  refine tx_then ?_
  refine tr_seq ?_
  refine tr_seq ?_
  refine tr_region ?_
  refine tl_step rfl (oj_val (y_move (fe_t rfl)) ?_)
  refine tl_step rfl (oj_val (y_len Tryd.underlying39 (fe_t rfl)) ?_)
  refine tl_step rfl (oj_val (y_move fe_c) ?_)
  refine tl_nil ?_
  refine tx_then ?_
  refine tr_block ?_
  refine tr_loop1 [4, 5, 8, 9, 10, 11, 12, 13, 14, 15, 16, 17, 18] (fun (j : Nat) => [(8, .int .i64 (j : Int))]) 0 (fun (j : Nat) => []) (fun (j : Nat) => j ≤ n ∧ ∀ i, i < j → l.getD i 0 ≠ x) (fun (j : Nat) => n - j) (0) (cov_cons (by first | rfl | exact v_int (by omega) | exact v_bool (by simp [*])) (cov_nil)) (fun w h => h) ?_ ?_
  · try dsimp only
    exact ⟨by omega, fun i h => by omega⟩
  intro j hp
  obtain ⟨hj, hall⟩ := hp
  refine tr_seq ?_
  refine tr_region ?_
  refine tl_step rfl (oj_val (y_lss (fe_t rfl) (fe_t rfl)) ?_)
  refine tl_nil ?_
  refine tx_then ?_
  refine tr_seq ?_
  refine tr_condp (fe_t rfl) (fun hq1 => ?_) (fun hq2 => ?_)
  · refine tr_skip ?_
    refine tx_then ?_
    refine tr_seq ?_
    refine tr_block ?_
    refine tr_seq ?_
    refine tr_region ?_
    refine tl_step rfl (oj_val (y_move (fe_t rfl)) ?_)
    refine tl_step rfl (oj_val (y_assign (fe_t rfl)) ?_)
    refine tl_nil ?_
    refine tx_then ?_
    refine tr_seq ?_
    refine tr_region ?_
    refine tl_step rfl (oj_val (y_move (fe_t rfl)) ?_)
    refine tl_step rfl (oj_val (y_move (fe_t rfl)) ?_)
    refine tl_step rfl (oj_val (y_move (fe_t rfl)) ?_)
    refine tl_step rfl (oj_val (y_index Tryd.underlying39 Tryd.sizeOf3 (fe_t rfl) (fe_t rfl) (rdl_out hr) (by simp [cI]; omega) (by decide) (by omega) (Nat.mul_one _)) ?_)
    refine tl_step rfl (oj_val (y_ld Tryd.isAgg3 (fe_t rfl) (rdl_out hr) (getW (by omega))) ?_)
    refine tl_step rfl (oj_val (y_eq (fe_t rfl) (fe_t rfl)) ?_)
    refine tl_nil ?_
    refine tx_then ?_
    refine tr_condp (fe_t rfl) (fun hq3 => ?_) (fun hq4 => ?_)
    · refine tr_seq ?_
      refine tr_region ?_
      refine tl_step rfl (oj_val (y_move (fe_t rfl)) ?_)
      refine tl_step rfl (oj_val (y_assign (fe_t rfl)) ?_)
      refine tl_nil ?_
      refine tx_then ?_
      refine tr_ret ?_
      refine tx_in_ret ?_
      refine tx_then_ret ?_
      refine tx_then_ret ?_
      refine tx_in_ret ?_
      refine tx_then_ret ?_
      refine tx_ret (res1 Tryd.results85 (rok_t rfl)) (fun w' hS => ?_)
      exact ⟨(j : Int), ⟨fun _ => by rw [show x = l.getD j 0 by omega, getD_lt (by omega)]; exact List.getElem_mem _, fun _ => by omega⟩, rfl, hS.pick [] _ rfl (by decide)⟩
    · refine tr_skip ?_
      refine tx_in ?_
      refine tx_then ?_
      refine tr_region ?_
      refine tl_step rfl (oj_val (y_inc (fe_t rfl) fe_c (by omega)) ?_)
      refine tl_step rfl (oj_val (y_move (fe_t rfl)) ?_)
      refine tl_nil ?_
      apply tx_back1 (j + 1)
      · exact (cov_cons (by first | rfl | exact v_int (by omega) | exact v_bool (by simp [*])) (cov_nil))
      · repeat (first | exact over_nil | refine over_put rfl ?_ | refine over_drop rfl ?_)
      · exact fun w h => h.pick [] _ rfl (by decide)
      · exact ⟨⟨by omega, fun i hi => by
          by_cases e : i = j
          · subst e; omega
          · exact hall i (by omega)⟩, by omega⟩
  · refine tr_exit ?_
    refine tx_then_exit ?_
    refine tx_then_exit ?_
    refine tx_in_exit ?_
    refine tx_then ?_
    refine tr_seq ?_
    refine tr_region ?_
    refine tl_step rfl (oj_val (y_assign fe_c) ?_)
    refine tl_nil ?_
    refine tx_then ?_
    refine tr_ret ?_
    refine tx_ret (res1 Tryd.results85 (rok_t rfl)) (fun w' hS => ?_)
    exact ⟨-1, ⟨fun h0 => by omega, fun h0 => by
      obtain ⟨i, hi, he⟩ := List.getElem_of_mem h0
      exact absurd (by rw [getD_lt hi]; exact he) (hall i (by omega))⟩, rfl, hS.pick [] _ rfl (by decide)⟩
set_option maxRecDepth 100000 in
set_option maxHeartbeats 1000000 in
theorem contI (A : Option Addr) (n c : Nat) (l : List Int) (x : Int) (w : World) (hr : Rd w A (l.map (.int .i64))) (hn : l.length = n) (hm : n ≤ 140737488355328) :
    Calls Tryd.prog 57 #[.slice A n c, (.int .i64 x)] w fun e w' => e = .returned (.bool (decide (x ∈ l))) ∧ St w w' [] := by
  refine calls_tr Tryd.func57 Tryd.ntmps57 rfl rfl (St.refl _) ?_
  refine tr_seq ?_
  refine tr_region ?_
  refine tl_step rfl (oj_val (y_assign fe_c) ?_)
  refine tl_nil ?_
  refine tx_then ?_
  refine tr_seq ?_
  refine tr_region ?_
  refine tl_step rfl (oj_val (y_move (fe_t rfl)) ?_)
  refine tl_step rfl (oj_val (y_move (fe_t rfl)) ?_)
  refine tl_step rfl (oj_call Tryd.call85 fe_f (fel_cons (fe_t rfl) (fel_cons (fe_t rfl) fel_nil)) (fun w' hS => indexI A n c l x w' (Rd.below hr hS.below) hn hm) (fun r hR => ?_))
  refine tl_step rfl (oj_val (y_geq (fe_t rfl) fe_c) ?_)
  refine tl_step rfl (oj_val (y_assign (fe_t rfl)) ?_)
  refine tl_nil ?_
  refine tx_then ?_
  refine tr_ret ?_
  refine tx_ret (res1 Tryd.results57 (rok_t rfl)) (fun w' hS => ?_)
  exact ⟨by rw [show decide (x ∈ l) = decide (0 ≤ r) from decide_eq_decide.2 hR.symm], hS.pick [] _ rfl (by decide)⟩
theorem contV {a : List Int} {v : Vs} {x : Int} (h1 : v.n = a.length ∧ v.xs = cI a) (w : World) (g1 : OwnV w 3 1 (.slice v.A v.n v.c) v.n v.xs) (hl : a.length ≤ 1000000) :
    Calls Tryd.prog 57 #[.slice v.A v.n v.c, (.int .i64 x)] w fun e w' => e = .returned (.bool (decide (x ∈ a))) ∧ St w w' [] := by
  have r1 := (OwnV.rd g1).2.2
  rw [h1.2] at r1
  exact contI _ v.n _ a x w r1 h1.1.symm (by omega)

theorem outE {w0 w : World} {T : List Res} {b : Nat} {G : Option Addr} {n cg : Nat} {t : Tr} {l : List Nd} {s : List D} {M : Int} (hS : St w0 w (blk b [.slice G n cg] :: vec 131 10 (.slice G n cg) n (l.flatMap cN) :: subs 3 1 (l.map Nd.kV) :: subs 3 1 (l.map Nd.wV) :: T)) (g : t.Good) (hn : t.n = n) (hll : l.length = t.n) (hq : l.map Nd.d = s) (hst : Stat t l) (hbd : Bd M s) (hM : M ≤ 78000000000000) (hok : Ok t s) (hcw : ∀ k, (l.getD k Nd.nil).d.ws.length ≤ 400) :
    Calls Tryd.prog 56 #[.pointer (some ⟨b, 0, none⟩)] w fun e w' => ∃ r : Bool × Int × Int × List Nd, (r.2.2.2.length = t.n ∧ Stat t r.2.2.2 ∧ ((r.1 = false ∧ (dn s 0).bytes = 0 ∧ r.2.2.2.map Nd.d = s) ∨ (r.1 = true ∧ ¬ (dn s 0).bytes = 0 ∧ r.2.1 = (dn s 0).leaf ∧ r.2.2.1 = (dn s 0).bytes ∧ r.2.2.2.map Nd.d = outF t s))) ∧ e = .returned (.tuple #[.agg #[(.int .i64 r.2.1), (.int .i64 r.2.2.1)], .bool r.1]) ∧ St w0 w' (blk b [.slice G n cg] :: vec 131 10 (.slice G n cg) n (r.2.2.2.flatMap cN) :: subs 3 1 (r.2.2.2.map Nd.kV) :: subs 3 1 (r.2.2.2.map Nd.wV) :: T) := by
  by_cases h0 : (dn s 0).bytes = 0
  · refine (out_none hS g hn hll hq hst hbd (by omega) h0).mono fun e w' ⟨he, h⟩ => ?_
    exact ⟨(false, 0, 0, l), ⟨hll, hst, .inl ⟨rfl, h0, hq⟩⟩, he, h⟩
  · refine (out_some hS g hn hll hq hst hbd hM hok h0 hcw).mono fun e w' ⟨q, ⟨h1, h2, h3⟩, he, h⟩ => ?_
    exact ⟨(true, (dn s 0).leaf, (dn s 0).bytes, q), ⟨h1, h3, .inr ⟨rfl, h0, rfl, rfl, h2⟩⟩, he, h⟩

set_option maxRecDepth 100000 in
set_option maxHeartbeats 1000000 in
theorem play_badw (A : Option Addr) (n c : Nat) (ns : List (Int × Int)) (B : Option Addr) (m d : Nat) (os : List O3) (w : World) (hr : Rd w A (ns.flatMap c2)) (hn : ns.length = n) (hm : n ≤ 140737488355328) (hr2 : Rd w B (os.flatMap c3)) (hn2 : os.length = m) (hm2 : m ≤ 140737488355328) (hw : ¬ wrongT ns = 0) :
    Calls Tryd.prog 28 #[.slice A n c, .slice B m d] w fun e w' => e = .returned (.tuple #[.slice none 0 0, .slice none 0 0, .slice none 0 0, (.int .i64 (wrongT ns))]) ∧ St w w' [] := by
  refine calls_tr Tryd.func28 Tryd.ntmps28 rfl rfl (St.refl _) ?_
  refine tr_seq ?_
  refine tr_region ?_
  refine tl_step rfl (oj_val (y_assign fe_c) ?_)
  refine tl_step rfl (oj_val (y_assign fe_c) ?_)
  refine tl_step rfl (oj_val (y_assign fe_c) ?_)
  refine tl_step rfl (oj_val (y_assign fe_c) ?_)
  refine tl_nil ?_
  refine tx_then ?_
  refine tr_seq ?_
  refine tr_region ?_
  refine tl_step rfl (oj_val (y_move (fe_t rfl)) ?_)
  refine tl_step rfl (oj_callv Tryd.call55 fe_f (fel_cons (fe_t rfl) fel_nil) (fun w' hS => leaves_bad A n c ns w' (Rd.below hr hS.below) hn hm hw) ?_)
  refine tl_step rfl (oj_val (y_move (fe_t rfl)) ?_)
  refine tl_step rfl (oj_val (y_extract (fe_t rfl) rfl) ?_)
  refine tl_step rfl (oj_val (y_extract (fe_t rfl) rfl) ?_)
  refine tl_step rfl (oj_val (y_assign (fe_t rfl)) ?_)
  refine tl_step rfl (oj_val (y_assign (fe_t rfl)) ?_)
  refine tl_nil ?_
  refine tx_then ?_
  refine tr_seq ?_
  refine tr_seq ?_
  refine tr_region ?_
  refine tl_step rfl (oj_val (y_move (fe_t rfl)) ?_)
  refine tl_step rfl (oj_val (y_neq (fe_t rfl) fe_c) ?_)
  refine tl_nil ?_
  refine tx_then ?_
  refine tr_condp (fe_t rfl) (fun hq1 => ?_) (fun hq2 => ?_)
  · try (exfalso; omega)
    all_goals
      refine tr_seq ?_
      refine tr_region ?_
      refine tl_step rfl (oj_val (y_move (fe_t rfl)) ?_)
      refine tl_step rfl (oj_val (y_assign fe_c) ?_)
      refine tl_step rfl (oj_val (y_assign fe_c) ?_)
      refine tl_step rfl (oj_val (y_assign fe_c) ?_)
      refine tl_step rfl (oj_val (y_assign (fe_t rfl)) ?_)
      refine tl_nil ?_
      refine tx_then ?_
      refine tr_ret ?_
      refine tx_then_ret ?_
      refine tx_ret (res4 Tryd.results28 (rok_t rfl) (rok_t rfl) (rok_t rfl) (rok_t rfl)) (fun w' hS => ?_)
      exact ⟨rfl, hS.pick [] _ rfl (by decide)⟩
  · exact absurd (by simpa using hq2) hw

end Go.Proofs.YtfcpmcdlgkfolaaDoor.Hier
