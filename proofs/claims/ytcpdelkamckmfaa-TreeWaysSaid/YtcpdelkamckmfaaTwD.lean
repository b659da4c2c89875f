/- the law TreeWays where there is something wrong, or no first node. -/
import Derived.Test.YtcpdelkamckmfaaTwB
import Derived.Test.YtcpdelkamckmfaaTwC
import Derived.Test.YtcpdelkamckmfaaEqE
namespace Go.Proofs.Ytcpdelkamckmfaa.Hier
open Go.RowKit Go.Proofs.Ytcpdelkamckmfaa.E Go.Proofs.Ytcpdelkamckmfaa.Frac Go.Proofs.Ytcpdelkamckmfaa.Big
open Go.Proofs.Ytcpdelkamckmfaa.Wfq (Ext Ext.rfl Ext.trans Ext.cons mul_in)

theorem eqfr {x y : Operand} (a b : Int) (w : World) : (do eqGuard .eql 23 x y (.agg #[(.int .i64 a), (.int .i64 b)]) (.agg #[(.int .i64 a), (.int .i64 b)]); binOp .eql 23 (.agg #[(.int .i64 a), (.int .i64 b)]) (.agg #[(.int .i64 a), (.int .i64 b)]) : Sem Value).run Try.prog w = .ok (.bool true) w := by
  have e1 : ∀ x y, Op.equal 23 x y = Op.equalIn (9998 + 1 + 1) 23 x y := fun _ _ => rfl
  simp [eqGuard, binOp, e1, go_sem]
theorem nefr {x y : Operand} (a b : Int) (w : World) : (do eqGuard .neq 23 x y (.agg #[(.int .i64 a), (.int .i64 b)]) (.agg #[(.int .i64 a), (.int .i64 b)]); binOp .neq 23 (.agg #[(.int .i64 a), (.int .i64 b)]) (.agg #[(.int .i64 a), (.int .i64 b)]) : Sem Value).run Try.prog w = .ok (.bool false) w := by
  have e1 : ∀ x y, Op.equal 23 x y = Op.equalIn (9998 + 1 + 1) 23 x y := fun _ _ => rfl
  simp [eqGuard, binOp, e1, go_sem]
theorem share_num {t : Tr} (g : t.Good) : ∀ k, k < t.n → (share t k).2.2 = 0 → (mkRat (share t k).1 (share t k).2.1.toNat).num = (share t k).1 ∧ ((mkRat (share t k).1 (share t k).2.1.toNat).den : Int) = (share t k).2.1 :=
  path_ind g (fun _ => ⟨by rw [share_zero]; decide, by rw [share_zero]; decide⟩) fun k p hk hu hp ih h => by
    have h0 := share_step g hk hu
    by_cases e : (share t p).2.2 = 0
    · rw [if_pos e] at h0
      rw [h0] at h ⊢
      have hb := bright_iff.1 (share_ok g p (by omega) e)
      have hq := bright_iff.1 (prt_bright g hk)
      have hd : 0 < (share t p).2.1 * (prt t k).2 := Int.mul_pos (by omega) (by omega)
      rw [(lo_rat hd h).1]
      obtain ⟨m1, m2⟩ := mk_num (n := (share t p).1 * (prt t k).1) hd
      rcases lo_cases ((share t p).1 * (prt t k).1) ((share t p).2.1 * (prt t k).2) with ⟨_, _, h2⟩ | h2
      · rw [h2]; exact ⟨m1, m2⟩
      · rw [h2] at h; cases h
    · rw [if_neg e] at h0
      rw [h0] at h
      exact absurd h e
theorem bfracS {t : Tr} (g : t.Good) {k : Nat} (hk : k < t.n) (h0 : (share t k).2.2 = 0) {w0 w : World} {T : List Res} {H D : List Nat} {l : List Ent} (hS : St w0 w (bag H D l :: T)) {b_x : Nat} {xa xb : Nm} (mxa : (⟨b_x, 0, xa⟩ : Ent) ∈ l) (mxb : (⟨b_x, 2, xb⟩ : Ent) ∈ l) (hx : RatIs xa xb (mkRat (share t k).1 (share t k).2.1.toNat)) :
    Calls Try.prog 21 #[.pointer (some ⟨b_x, 0, none⟩)] w fun e w' => ∃ r : BG, True ∧ e = .returned (.tuple #[.agg #[(.int .i64 ((share t k).1)), (.int .i64 ((share t k).2.1))], (.int .i64 0)]) ∧ St w0 w' (bag r.H r.D l :: T) := by
  obtain ⟨n1, n2⟩ := share_num g k hk h0
  have hb := share_ok g k hk h0
  obtain ⟨a1, a2, a3, a4⟩ := bright_iff.1 hb
  have hl : lor (mkRat (share t k).1 (share t k).2.1.toNat) = ((share t k).1, (share t k).2.1, 0) := by
    unfold lor
    rw [n1, n2, if_pos hb]
  have h := bfracB hS mxa mxb hx (by omega) (by omega) (by omega)
  rw [hl] at h
  exact h
def lastv (x : List Nat) (m i : Nat) : Int := if i = 0 then 0 else (x.getD (min i m - 1) 0 : Nat)
theorem mem_kI {x : List Nat} {c : Nat} : (c : Int) ∈ kI x ↔ c ∈ x := by
  unfold kI
  rw [List.mem_map]
  constructor
  · rintro ⟨j, hj, he⟩
    obtain rfl : c = j := by omega
    exact hj
  · exact fun h => ⟨c, h, rfl⟩

theorem same_ints {a b : List Int} {v u : Vs} (e : a = b) (h1 : v.n = a.length ∧ v.xs = cI a) (h2 : u.n = b.length ∧ u.xs = cI b) (w : World) (g1 : OwnV w 3 1 (.slice v.A v.n v.c) v.n v.xs) (g2 : OwnV w 3 1 (.slice u.A u.n u.c) u.n u.xs) (hl : a.length ≤ 1000000) :
    Calls Try.prog 73 #[.slice v.A v.n v.c, .slice u.A u.n u.c] w fun e w' => e = .returned (.bool true) ∧ St w w' [] := by
  subst e
  have r1 := (OwnV.rd g1).2.2
  have r2 := (OwnV.rd g2).2.2
  rw [h1.2] at r1
  rw [h2.2] at r2
  rw [show u.n = v.n by omega]
  exact eq_ints _ _ v.n _ _ a w r1 r2 h1.1.symm (by omega)

set_option maxRecDepth 100000 in
set_option maxHeartbeats 1000000 in
theorem indexI (A : Option Addr) (n c : Nat) (l : List Int) (x : Int) (w : World) (hr : Rd w A (l.map (.int .i64))) (hn : l.length = n) (hm : n ≤ 140737488355328) :
    Calls Try.prog 154 #[.slice A n c, (.int .i64 x)] w fun e w' => ∃ r : Int, (0 ≤ r ↔ x ∈ l) ∧ e = .returned (.int .i64 r) ∧ St w w' [] := by
  refine calls_tr Try.func154 Try.ntmps154 rfl rfl (St.refl _) ?_
  refine tr_seq ?_
  refine tr_region ?_
  refine tl_step rfl (oj_val (y_assign fe_c) ?_)
  refine tl_nil ?_
  refine tx_then ?_
  refine tr_seq ?_
  refine tr_seq ?_
  refine tr_region ?_
  refine tl_step rfl (oj_val (y_move (fe_t rfl)) ?_)
  refine tl_step rfl (oj_val (y_len Try.underlying79 (fe_t rfl)) ?_)
  refine tl_step rfl (oj_val (y_move fe_c) ?_)
  refine tl_nil ?_
  refine tx_then ?_
  refine tr_block ?_
  refine tr_loop1 [4, 5, 8, 9, 10, 11, 12, 13, 14, 15, 16, 17, 18] (fun (j : Nat) => [(8, .int .i64 (j : Int))]) 0 (fun (j : Nat) => []) (fun (j : Nat) => j ≤ n ∧ ∀ i, i < j → l.getD i 0 ≠ x) (fun (j : Nat) => n - j) (0) (cov_cons (by first | rfl | exact v_int (by omega) | exact v_bool (by simp [*])) (cov_nil)) (fun w h => h) ?_ ?_
  · try dsimp only
    exact ⟨by omega, fun i h => by omega⟩
  intro j hp
  obtain ⟨hj, hall⟩ := hp
  refine tr_seq ?_
  refine tr_region ?_
  refine tl_step rfl (oj_val (y_lss (fe_t rfl) (fe_t rfl)) ?_)
  refine tl_nil ?_
  refine tx_then ?_
  refine tr_seq ?_
  refine tr_condp (fe_t rfl) (fun hq1 => ?_) (fun hq2 => ?_)
  · refine tr_skip ?_
    refine tx_then ?_
    refine tr_seq ?_
    refine tr_block ?_
    refine tr_seq ?_
    refine tr_region ?_
    refine tl_step rfl (oj_val (y_move (fe_t rfl)) ?_)
    refine tl_step rfl (oj_val (y_assign (fe_t rfl)) ?_)
    refine tl_nil ?_
    refine tx_then ?_
    refine tr_seq ?_
    refine tr_region ?_
    refine tl_step rfl (oj_val (y_move (fe_t rfl)) ?_)
    refine tl_step rfl (oj_val (y_move (fe_t rfl)) ?_)
    refine tl_step rfl (oj_val (y_move (fe_t rfl)) ?_)
    refine tl_step rfl (oj_val (y_index Try.underlying79 Try.sizeOf3 (fe_t rfl) (fe_t rfl) (rdl_out hr) (by simp [cI]; omega) (by decide) (by omega) (Nat.mul_one _)) ?_)
    refine tl_step rfl (oj_val (y_ld Try.isAgg3 (fe_t rfl) (rdl_out hr) (Wfq.getW (by omega))) ?_)
    refine tl_step rfl (oj_val (y_eq (fe_t rfl) (fe_t rfl)) ?_)
    refine tl_nil ?_
    refine tx_then ?_
    refine tr_condp (fe_t rfl) (fun hq3 => ?_) (fun hq4 => ?_)
    · refine tr_seq ?_
      refine tr_region ?_
      refine tl_step rfl (oj_val (y_move (fe_t rfl)) ?_)
      refine tl_step rfl (oj_val (y_assign (fe_t rfl)) ?_)
      refine tl_nil ?_
      refine tx_then ?_
      refine tr_ret ?_
      refine tx_in_ret ?_
      refine tx_then_ret ?_
      refine tx_then_ret ?_
      refine tx_in_ret ?_
      refine tx_then_ret ?_
      refine tx_ret (res1 Try.results154 (rok_t rfl)) (fun w' hS => ?_)
      exact ⟨(j : Int), ⟨fun _ => by rw [show x = l.getD j 0 by omega, E.getD_lt (by omega)]; exact List.getElem_mem _, fun _ => by omega⟩, rfl, hS.pick [] _ rfl (by decide)⟩
    · refine tr_skip ?_
      refine tx_in ?_
      refine tx_then ?_
      refine tr_region ?_
      refine tl_step rfl (oj_val (y_inc (fe_t rfl) fe_c (by omega)) ?_)
      refine tl_step rfl (oj_val (y_move (fe_t rfl)) ?_)
      refine tl_nil ?_
      apply tx_back1 (j + 1)
      · exact (cov_cons (by first | rfl | exact v_int (by omega) | exact v_bool (by simp [*])) (cov_nil))
      · repeat (first | exact over_nil | refine over_put rfl ?_ | refine over_drop rfl ?_)
      · exact fun w h => h.pick [] _ rfl (by decide)
      · exact ⟨⟨by omega, fun i hi => by
          by_cases e : i = j
          · subst e; omega
          · exact hall i (by omega)⟩, by omega⟩
  · refine tr_exit ?_
    refine tx_then_exit ?_
    refine tx_then_exit ?_
    refine tx_in_exit ?_
    refine tx_then ?_
    refine tr_seq ?_
    refine tr_region ?_
    refine tl_step rfl (oj_val (y_assign fe_c) ?_)
    refine tl_nil ?_
    refine tx_then ?_
    refine tr_ret ?_
    refine tx_ret (res1 Try.results154 (rok_t rfl)) (fun w' hS => ?_)
    exact ⟨-1, ⟨fun h0 => by omega, fun h0 => by
      obtain ⟨i, hi, he⟩ := List.getElem_of_mem h0
      exact absurd (by rw [E.getD_lt hi]; exact he) (hall i (by omega))⟩, rfl, hS.pick [] _ rfl (by decide)⟩
set_option maxRecDepth 100000 in
set_option maxHeartbeats 1000000 in
theorem contI (A : Option Addr) (n c : Nat) (l : List Int) (x : Int) (w : World) (hr : Rd w A (l.map (.int .i64))) (hn : l.length = n) (hm : n ≤ 140737488355328) :
    Calls Try.prog 91 #[.slice A n c, (.int .i64 x)] w fun e w' => e = .returned (.bool (decide (x ∈ l))) ∧ St w w' [] := by
  refine calls_tr Try.func91 Try.ntmps91 rfl rfl (St.refl _) ?_
  refine tr_seq ?_
  refine tr_region ?_
  refine tl_step rfl (oj_val (y_assign fe_c) ?_)
  refine tl_nil ?_
  refine tx_then ?_
  refine tr_seq ?_
  refine tr_region ?_
  refine tl_step rfl (oj_val (y_move (fe_t rfl)) ?_)
  refine tl_step rfl (oj_val (y_move (fe_t rfl)) ?_)
  refine tl_step rfl (oj_call Try.call154 fe_f (fel_cons (fe_t rfl) (fel_cons (fe_t rfl) fel_nil)) (fun w' hS => indexI A n c l x w' (Rd.below hr hS.below) hn hm) (fun r hR => ?_))
  refine tl_step rfl (oj_val (y_geq (fe_t rfl) fe_c) ?_)
  refine tl_step rfl (oj_val (y_assign (fe_t rfl)) ?_)
  refine tl_nil ?_
  refine tx_then ?_
  refine tr_ret ?_
  refine tx_ret (res1 Try.results91 (rok_t rfl)) (fun w' hS => ?_)
  exact ⟨by rw [show decide (x ∈ l) = decide (0 ≤ r) from decide_eq_decide.2 hR.symm], hS.pick [] _ rfl (by decide)⟩
theorem contV {a : List Int} {v : Vs} {x : Int} (h1 : v.n = a.length ∧ v.xs = cI a) (w : World) (g1 : OwnV w 3 1 (.slice v.A v.n v.c) v.n v.xs) (hl : a.length ≤ 1000000) :
    Calls Try.prog 91 #[.slice v.A v.n v.c, (.int .i64 x)] w fun e w' => e = .returned (.bool (decide (x ∈ a))) ∧ St w w' [] := by
  have r1 := (OwnV.rd g1).2.2
  rw [h1.2] at r1
  exact contI _ v.n _ a x w r1 h1.1.symm (by omega)

theorem share_bad_ (A : Option Addr) (n c : Nat) (ns : List (Int × Int)) (w : World) (hr : Rd w A (ns.flatMap c2)) (hn : ns.length = n) (hm : n ≤ 140737488355328) {t : Tr} (ht : t = trOf ns) (g : t.Good) (hw : wrongT ns = 0) {a : Nat} (ha : a < t.n) (h0 : ¬ (share t a).2.2 = 0) :
    Calls Try.prog 86 #[.slice A n c, (.int .i64 ((a : Int)))] w fun e w' => e = .returned (.tuple #[.agg #[(.int .i64 0), (.int .i64 0)], (.int .i64 ((share t a).2.2))]) ∧ St w w' [] := by
  have h := share_ok_ A n c ns w hr hn hm ht g hw ha
  rw [show (share t a).1 = 0 by rw [share_bad g a ha h0], show (share t a).2.1 = 0 by rw [share_bad g a ha h0]] at h
  exact h

set_option maxRecDepth 100000 in
set_option maxHeartbeats 4000000 in
theorem law_w (A : Option Addr) (n c : Nat) (ns : List (Int × Int)) (w : World) (hr : Rd w A (ns.flatMap c2)) (hn : ns.length = n) (hm : n ≤ 140737488355328) {a b : Int} (hw : ¬ wrongT ns = 0) :
    Calls Try.prog 12 #[.slice A n c, (.int .i64 a), (.int .i64 b)] w fun e w' => e = .returned (.bool true) ∧ St w w' [] := by
  refine calls_tr Try.func12 Try.ntmps12 rfl rfl (St.refl _) ?_
  refine tr_seq ?_
  refine tr_region ?_
  refine tl_step rfl (oj_val (y_assign fe_c) ?_)
  refine tl_nil ?_
  refine tx_then ?_
  refine tr_seq ?_
  refine tr_region ?_
  refine tl_step rfl (oj_val (y_move (fe_t rfl)) ?_)
  refine tl_step rfl (oj_callv Try.call84 fe_f (fel_cons (fe_t rfl) fel_nil) (fun w' hS => leaves_bad A n c ns w' (Rd.below hr hS.below) hn hm hw) ?_)
  refine tl_step rfl (oj_val (y_move (fe_t rfl)) ?_)
  refine tl_step rfl (oj_val (y_extract (fe_t rfl) rfl) ?_)
  refine tl_step rfl (oj_val (y_extract (fe_t rfl) rfl) ?_)
  refine tl_step rfl (oj_val (y_assign (fe_t rfl)) ?_)
  refine tl_step rfl (oj_val (y_assign (fe_t rfl)) ?_)
  refine tl_nil ?_
  refine tx_then ?_
  refine tr_seq ?_
  refine tr_region ?_
  refine tl_step rfl (oj_val (y_move (fe_t rfl)) ?_)
  refine tl_step rfl (oj_val (y_move (fe_t rfl)) ?_)
  refine tl_step rfl (oj_callv Try.call85 fe_f (fel_cons (fe_t rfl) (fel_cons (fe_t rfl) fel_nil)) (fun w' hS => path_w A n c ns w' (Rd.below hr hS.below) hn hm hw) ?_)
  refine tl_step rfl (oj_val (y_move (fe_t rfl)) ?_)
  refine tl_step rfl (oj_val (y_extract (fe_t rfl) rfl) ?_)
  refine tl_step rfl (oj_val (y_extract (fe_t rfl) rfl) ?_)
  refine tl_step rfl (oj_val (y_assign (fe_t rfl)) ?_)
  refine tl_step rfl (oj_val (y_assign (fe_t rfl)) ?_)
  refine tl_nil ?_
  refine tx_then ?_
  refine tr_seq ?_
  refine tr_region ?_
  refine tl_step rfl (oj_val (y_move (fe_t rfl)) ?_)
  refine tl_step rfl (oj_val (y_move (fe_t rfl)) ?_)
  refine tl_step rfl (oj_callv Try.call86 fe_f (fel_cons (fe_t rfl) (fel_cons (fe_t rfl) fel_nil)) (fun w' hS => share_w_ A n c ns w' (Rd.below hr hS.below) hn hm hw) ?_)
  refine tl_step rfl (oj_val (y_move (fe_t rfl)) ?_)
  refine tl_step rfl (oj_val (y_extract (fe_t rfl) rfl) ?_)
  refine tl_step rfl (oj_val (y_extract (fe_t rfl) rfl) ?_)
  refine tl_step rfl (oj_alloc Try.zeroValue23 (fun sb => ?_))
  refine tl_step rfl (oj_storeW 0 Try.sizeOf23 (fe_t rfl) (fe_t rfl) rfl rfl rfl rfl rfl (?_))
  refine tl_step rfl (oj_val (y_assign (fe_t rfl)) ?_)
  refine tl_nil ?_
  refine tx_then ?_
  refine tr_seq ?_
  refine tr_region ?_
  refine tl_step rfl (oj_val (y_move (fe_t rfl)) ?_)
  refine tl_step rfl (oj_val (y_move (fe_t rfl)) ?_)
  refine tl_step rfl (oj_val (y_move (fe_t rfl)) ?_)
  refine tl_step rfl (oj_callv Try.call87 fe_f (fel_cons (fe_t rfl) (fel_cons (fe_t rfl) (fel_cons (fe_t rfl) fel_nil))) (fun w' hS => meet_w_ A n c ns w' (Rd.below hr hS.below) hn hm hw) ?_)
  refine tl_step rfl (oj_val (y_move (fe_t rfl)) ?_)
  refine tl_step rfl (oj_val (y_extract (fe_t rfl) rfl) ?_)
  refine tl_step rfl (oj_val (y_extract (fe_t rfl) rfl) ?_)
  refine tl_step rfl (oj_val (y_assign (fe_t rfl)) ?_)
  refine tl_step rfl (oj_val (y_assign (fe_t rfl)) ?_)
  refine tl_nil ?_
  refine tx_then ?_
  refine tr_seq ?_
  refine tr_region ?_
  refine tl_step rfl (oj_val (y_move (fe_t rfl)) ?_)
  refine tl_step rfl (oj_callv Try.call75 fe_f (fel_cons (fe_t rfl) fel_nil) (fun w' hS => qWrongE A n c ns w' (Rd.below hr hS.below) hn hm) ?_)
  refine tl_step rfl (oj_val (y_assign (fe_t rfl)) ?_)
  refine tl_nil ?_
  refine tx_then ?_
  refine tr_seq ?_
  refine tr_seq ?_
  refine tr_region ?_
  refine tl_step rfl (oj_val (y_move (fe_t rfl)) ?_)
  refine tl_step rfl (oj_callv Try.call88 fe_f (fel_cons (fe_t rfl) fel_nil) (fun w' hS => treeWrongE A n c ns w' (Rd.below hr hS.below) hn hm) ?_)
  refine tl_step rfl (oj_val (y_move (fe_t rfl)) ?_)
  refine tl_step rfl (oj_val (y_neq (fe_t rfl) (fe_t rfl)) ?_)
  refine tl_step rfl (oj_val (y_move (fe_t rfl)) ?_)
  refine tl_splitp (d := 59) rfl (fun hq1 => ?_) (fun hq2 => ?_)
  · try (exfalso; omega)
    all_goals
      refine tl_skip rfl rfl rfl rfl ?_
      refine tl_skip rfl rfl rfl rfl ?_
      refine tl_skip rfl rfl rfl rfl ?_
      refine tl_step rfl (oj_val (y_pickt (fe_t rfl) fe_c) ?_)
      refine tl_nil ?_
      refine tx_then ?_
      exfalso; omega
  · try (exfalso; omega)
    all_goals
      refine tl_want rfl rfl rfl (oj_val (y_move (fe_t rfl)) ?_)
      refine tl_want rfl rfl rfl (oj_val (y_move (fe_t rfl)) ?_)
      refine tl_want rfl rfl rfl (oj_val (y_neq (fe_t rfl) (fe_t rfl)) ?_)
      refine tl_step rfl (oj_val (y_pickf (fe_t rfl) (fe_t rfl)) ?_)
      refine tl_nil ?_
      refine tx_then ?_
      refine tr_condp (fe_t rfl) (fun hq3 => ?_) (fun hq4 => ?_)
      · exfalso; omega
      · try (exfalso; omega)
        all_goals
          refine tr_skip ?_
          refine tx_then ?_
          refine tr_seq ?_
          refine tr_seq ?_
          refine tr_region ?_
          refine tl_step rfl (oj_val (y_move (fe_t rfl)) ?_)
          refine tl_step rfl (oj_val (y_neq (fe_t rfl) fe_c) ?_)
          refine tl_nil ?_
          refine tx_then ?_
          refine tr_condp (fe_t rfl) (fun hq5 => ?_) (fun hq6 => ?_)
          · try (exfalso; omega)
            all_goals
              refine tr_seq ?_
              refine tr_region ?_
              refine tl_step rfl (oj_val (y_move (fe_t rfl)) ?_)
              refine tl_step rfl (oj_val (y_move (fe_t rfl)) ?_)
              refine tl_step rfl (oj_val (y_eq (fe_t rfl) (fe_t rfl)) ?_)
              refine tl_step rfl (oj_val (y_move (fe_t rfl)) ?_)
              refine tl_splitp (d := 69) rfl (fun hq7 => ?_) (fun hq8 => ?_)
              · try (exfalso; omega)
                all_goals
                  refine tl_want rfl rfl rfl (oj_val (y_move (fe_t rfl)) ?_)
                  refine tl_want rfl rfl rfl (oj_val (y_move (fe_t rfl)) ?_)
                  refine tl_want rfl rfl rfl (oj_val (y_eq (fe_t rfl) (fe_t rfl)) ?_)
                  refine tl_step rfl (oj_val (y_pickt (fe_t rfl) (fe_t rfl)) ?_)
                  refine tl_step rfl (oj_val (y_move (fe_t rfl)) ?_)
                  refine tl_splitp (d := 74) rfl (fun hq9 => ?_) (fun hq10 => ?_)
                  · try (exfalso; omega)
                    all_goals
                      refine tl_want rfl rfl rfl (oj_val (y_move (fe_t rfl)) ?_)
                      refine tl_want rfl rfl rfl (oj_val (y_move (fe_t rfl)) ?_)
                      refine tl_want rfl rfl rfl (oj_val (y_eq (fe_t rfl) (fe_t rfl)) ?_)
                      refine tl_step rfl (oj_val (y_pickt (fe_t rfl) (fe_t rfl)) ?_)
                      refine tl_step rfl (oj_val (y_move (fe_t rfl)) ?_)
                      refine tl_splitp (d := 79) rfl (fun hq11 => ?_) (fun hq12 => ?_)
                      · try (exfalso; omega)
                        all_goals
                          refine tl_want rfl rfl rfl (oj_val (y_move (fe_t rfl)) ?_)
                          refine tl_want rfl rfl rfl (oj_val (y_len Try.underlying79 (fe_t rfl)) ?_)
                          refine tl_want rfl rfl rfl (oj_val (y_move (fe_t rfl)) ?_)
                          refine tl_want rfl rfl rfl (oj_val (y_len Try.underlying79 (fe_t rfl)) ?_)
                          refine tl_want rfl rfl rfl (oj_val (y_add (fe_t rfl) (fe_t rfl) (by omega)) ?_)
                          refine tl_want rfl rfl rfl (oj_val (y_eq (fe_t rfl) fe_c) ?_)
                          refine tl_step rfl (oj_val (y_pickt (fe_t rfl) (fe_t rfl)) ?_)
                          refine tl_step rfl (oj_val (y_move (fe_t rfl)) ?_)
                          refine tl_splitp (d := 87) rfl (fun hq13 => ?_) (fun hq14 => ?_)
                          · try (exfalso; omega)
                            all_goals
                              refine tl_want rfl rfl rfl (oj_val (y_ldbA 0 Try.isAgg23 Try.sizeOf23 (fe_t rfl) rfl rfl rfl) ?_)
                              refine tl_want rfl rfl rfl (oj_val (y_build (is := []) (vs := []) (cs := [.int .i64 0, .int .i64 0]) rfl fel_nil (by kernel_rfl)) ?_)
                              refine tl_want rfl rfl rfl (oj_val (y_binop (fe_t rfl) (fe_t rfl) (fun w => eqfr _ _ w)) ?_)
                              refine tl_step rfl (oj_val (y_pickt (fe_t rfl) (fe_t rfl)) ?_)
                              refine tl_step rfl (oj_val (y_move (fe_t rfl)) ?_)
                              refine tl_want rfl rfl rfl (oj_val (y_move (fe_t rfl)) ?_)
                              refine tl_want rfl rfl rfl (oj_val (y_eq (fe_t rfl) fe_c) ?_)
                              refine tl_step rfl (oj_val (y_pickt (fe_t rfl) (fe_t rfl)) ?_)
                              refine tl_step rfl (oj_val (y_assign (fe_t rfl)) ?_)
                              refine tl_nil ?_
                              refine tx_then ?_
                              refine tr_ret ?_
                              refine tx_then_ret ?_
                              refine tx_ret (res1 Try.results12 (rok_t rfl)) (fun w' hS => ?_)
                              exact ⟨ret_bool (by first | rfl | (simp; done) | (simp [*]; done)), hS.pick [] _ rfl (by decide)⟩
                          · try (exfalso; omega)
                            all_goals
                              refine tl_skip rfl rfl rfl rfl ?_
                              refine tl_skip rfl rfl rfl rfl ?_
                              refine tl_skip rfl rfl rfl rfl ?_
                              refine tl_step rfl (oj_val (y_pickf (fe_t rfl) fe_c) ?_)
                              refine tl_step rfl (oj_val (y_move (fe_t rfl)) ?_)
                              refine tl_skip rfl rfl rfl rfl ?_
                              refine tl_skip rfl rfl rfl rfl ?_
                              refine tl_step rfl (oj_val (y_pickf (fe_t rfl) fe_c) ?_)
                              refine tl_step rfl (oj_val (y_assign (fe_t rfl)) ?_)
                              refine tl_nil ?_
                              refine tx_then ?_
                              refine tr_ret ?_
                              refine tx_then_ret ?_
                              refine tx_ret (res1 Try.results12 (rok_t rfl)) (fun w' hS => ?_)
                              exact ⟨ret_bool (by first | rfl | (simp; done) | (simp [*]; done)), hS.pick [] _ rfl (by decide)⟩
                      · try (exfalso; omega)
                        all_goals
                          refine tl_skip rfl rfl rfl rfl ?_
                          refine tl_skip rfl rfl rfl rfl ?_
                          refine tl_skip rfl rfl rfl rfl ?_
                          refine tl_skip rfl rfl rfl rfl ?_
                          refine tl_skip rfl rfl rfl rfl ?_
                          refine tl_skip rfl rfl rfl rfl ?_
                          refine tl_step rfl (oj_val (y_pickf (fe_t rfl) fe_c) ?_)
                          refine tl_step rfl (oj_val (y_move (fe_t rfl)) ?_)
                          refine tl_skip rfl rfl rfl rfl ?_
                          refine tl_skip rfl rfl rfl rfl ?_
                          refine tl_skip rfl rfl rfl rfl ?_
                          refine tl_step rfl (oj_val (y_pickf (fe_t rfl) fe_c) ?_)
                          refine tl_step rfl (oj_val (y_move (fe_t rfl)) ?_)
                          refine tl_skip rfl rfl rfl rfl ?_
                          refine tl_skip rfl rfl rfl rfl ?_
                          refine tl_step rfl (oj_val (y_pickf (fe_t rfl) fe_c) ?_)
                          refine tl_step rfl (oj_val (y_assign (fe_t rfl)) ?_)
                          refine tl_nil ?_
                          refine tx_then ?_
                          refine tr_ret ?_
                          refine tx_then_ret ?_
                          refine tx_ret (res1 Try.results12 (rok_t rfl)) (fun w' hS => ?_)
                          exact ⟨ret_bool (by first | rfl | (simp; done) | (simp [*]; done)), hS.pick [] _ rfl (by decide)⟩
                  · try (exfalso; omega)
                    all_goals
                      refine tl_skip rfl rfl rfl rfl ?_
                      refine tl_skip rfl rfl rfl rfl ?_
                      refine tl_skip rfl rfl rfl rfl ?_
                      refine tl_step rfl (oj_val (y_pickf (fe_t rfl) fe_c) ?_)
                      refine tl_step rfl (oj_val (y_move (fe_t rfl)) ?_)
                      refine tl_skip rfl rfl rfl rfl ?_
                      refine tl_skip rfl rfl rfl rfl ?_
                      refine tl_skip rfl rfl rfl rfl ?_
                      refine tl_skip rfl rfl rfl rfl ?_
                      refine tl_skip rfl rfl rfl rfl ?_
                      refine tl_skip rfl rfl rfl rfl ?_
                      refine tl_step rfl (oj_val (y_pickf (fe_t rfl) fe_c) ?_)
                      refine tl_step rfl (oj_val (y_move (fe_t rfl)) ?_)
                      refine tl_skip rfl rfl rfl rfl ?_
                      refine tl_skip rfl rfl rfl rfl ?_
                      refine tl_skip rfl rfl rfl rfl ?_
                      refine tl_step rfl (oj_val (y_pickf (fe_t rfl) fe_c) ?_)
                      refine tl_step rfl (oj_val (y_move (fe_t rfl)) ?_)
                      refine tl_skip rfl rfl rfl rfl ?_
                      refine tl_skip rfl rfl rfl rfl ?_
                      refine tl_step rfl (oj_val (y_pickf (fe_t rfl) fe_c) ?_)
                      refine tl_step rfl (oj_val (y_assign (fe_t rfl)) ?_)
                      refine tl_nil ?_
                      refine tx_then ?_
                      refine tr_ret ?_
                      refine tx_then_ret ?_
                      refine tx_ret (res1 Try.results12 (rok_t rfl)) (fun w' hS => ?_)
                      exact ⟨ret_bool (by first | rfl | (simp; done) | (simp [*]; done)), hS.pick [] _ rfl (by decide)⟩
              · try (exfalso; omega)
                all_goals
                  refine tl_skip rfl rfl rfl rfl ?_
                  refine tl_skip rfl rfl rfl rfl ?_
                  refine tl_skip rfl rfl rfl rfl ?_
                  refine tl_step rfl (oj_val (y_pickf (fe_t rfl) fe_c) ?_)
                  refine tl_step rfl (oj_val (y_move (fe_t rfl)) ?_)
                  refine tl_skip rfl rfl rfl rfl ?_
                  refine tl_skip rfl rfl rfl rfl ?_
                  refine tl_skip rfl rfl rfl rfl ?_
                  refine tl_step rfl (oj_val (y_pickf (fe_t rfl) fe_c) ?_)
                  refine tl_step rfl (oj_val (y_move (fe_t rfl)) ?_)
                  refine tl_skip rfl rfl rfl rfl ?_
                  refine tl_skip rfl rfl rfl rfl ?_
                  refine tl_skip rfl rfl rfl rfl ?_
                  refine tl_skip rfl rfl rfl rfl ?_
                  refine tl_skip rfl rfl rfl rfl ?_
                  refine tl_skip rfl rfl rfl rfl ?_
                  refine tl_step rfl (oj_val (y_pickf (fe_t rfl) fe_c) ?_)
                  refine tl_step rfl (oj_val (y_move (fe_t rfl)) ?_)
                  refine tl_skip rfl rfl rfl rfl ?_
                  refine tl_skip rfl rfl rfl rfl ?_
                  refine tl_skip rfl rfl rfl rfl ?_
                  refine tl_step rfl (oj_val (y_pickf (fe_t rfl) fe_c) ?_)
                  refine tl_step rfl (oj_val (y_move (fe_t rfl)) ?_)
                  refine tl_skip rfl rfl rfl rfl ?_
                  refine tl_skip rfl rfl rfl rfl ?_
                  refine tl_step rfl (oj_val (y_pickf (fe_t rfl) fe_c) ?_)
                  refine tl_step rfl (oj_val (y_assign (fe_t rfl)) ?_)
                  refine tl_nil ?_
                  refine tx_then ?_
                  refine tr_ret ?_
                  refine tx_then_ret ?_
                  refine tx_ret (res1 Try.results12 (rok_t rfl)) (fun w' hS => ?_)
                  exact ⟨ret_bool (by first | rfl | (simp; done) | (simp [*]; done)), hS.pick [] _ rfl (by decide)⟩
          · exact absurd (by simpa using hq6) hw

set_option maxRecDepth 100000 in
set_option maxHeartbeats 4000000 in
theorem law_na (A : Option Addr) (n c : Nat) (ns : List (Int × Int)) (w : World) (hr : Rd w A (ns.flatMap c2)) (hn : ns.length = n) (hm : n ≤ 140737488355328) {t : Tr} (ht : t = trOf ns) (g : t.Good) {a b : Int} (hw : wrongT ns = 0) (ha : a < 0 ∨ (n : Int) ≤ a) :
    Calls Try.prog 12 #[.slice A n c, (.int .i64 a), (.int .i64 b)] w fun e w' => e = .returned (.bool true) ∧ St w w' [] := by
  have htn : t.n = n := by rw [ht, trOf_n, hn]
  have hn16 := g.n16
  have hn1 := g.n1
  have hlvs := leaves_len (t := t) (k := n)
  refine calls_tr Try.func12 Try.ntmps12 rfl rfl (St.refl _) ?_
  refine tr_seq ?_
  refine tr_region ?_
  refine tl_step rfl (oj_val (y_assign fe_c) ?_)
  refine tl_nil ?_
  refine tx_then ?_
  refine tr_seq ?_
  refine tr_region ?_
  refine tl_step rfl (oj_val (y_move (fe_t rfl)) ?_)
  refine tl_step rfl (oj_call Try.call84 fe_f (fel_cons (fe_t rfl) fel_nil) (fun w' hS => leaves_ok A n c ns w' (Rd.below hr hS.below) hn hm hw) (fun r0 h0 => ?_))
  refine tl_step rfl (oj_val (y_move (fe_t rfl)) ?_)
  refine tl_step rfl (oj_val (y_extract (fe_t rfl) rfl) ?_)
  refine tl_step rfl (oj_val (y_extract (fe_t rfl) rfl) ?_)
  refine tl_step rfl (oj_val (y_assign (fe_t rfl)) ?_)
  refine tl_step rfl (oj_val (y_assign (fe_t rfl)) ?_)
  refine tl_nil ?_
  refine tx_then ?_
  refine tr_seq ?_
  refine tr_region ?_
  refine tl_step rfl (oj_val (y_move (fe_t rfl)) ?_)
  refine tl_step rfl (oj_val (y_move (fe_t rfl)) ?_)
  refine tl_step rfl (oj_callv Try.call85 fe_f (fel_cons (fe_t rfl) (fel_cons (fe_t rfl) fel_nil)) (fun w' hS => path_n A n c ns w' (Rd.below hr hS.below) hn hm hw ha) ?_)
  refine tl_step rfl (oj_val (y_move (fe_t rfl)) ?_)
  refine tl_step rfl (oj_val (y_extract (fe_t rfl) rfl) ?_)
  refine tl_step rfl (oj_val (y_extract (fe_t rfl) rfl) ?_)
  refine tl_step rfl (oj_val (y_assign (fe_t rfl)) ?_)
  refine tl_step rfl (oj_val (y_assign (fe_t rfl)) ?_)
  refine tl_nil ?_
  refine tx_then ?_
  refine tr_seq ?_
  refine tr_region ?_
  refine tl_step rfl (oj_val (y_move (fe_t rfl)) ?_)
  refine tl_step rfl (oj_val (y_move (fe_t rfl)) ?_)
  refine tl_step rfl (oj_callv Try.call86 fe_f (fel_cons (fe_t rfl) (fel_cons (fe_t rfl) fel_nil)) (fun w' hS => share_n_ A n c ns w' (Rd.below hr hS.below) hn hm hw ha) ?_)
  refine tl_step rfl (oj_val (y_move (fe_t rfl)) ?_)
  refine tl_step rfl (oj_val (y_extract (fe_t rfl) rfl) ?_)
  refine tl_step rfl (oj_val (y_extract (fe_t rfl) rfl) ?_)
  refine tl_step rfl (oj_alloc Try.zeroValue23 (fun sb => ?_))
  refine tl_step rfl (oj_storeW 0 Try.sizeOf23 (fe_t rfl) (fe_t rfl) rfl rfl rfl rfl rfl (?_))
  refine tl_step rfl (oj_val (y_assign (fe_t rfl)) ?_)
  refine tl_nil ?_
  refine tx_then ?_
  refine tr_seq ?_
  refine tr_region ?_
  refine tl_step rfl (oj_val (y_move (fe_t rfl)) ?_)
  refine tl_step rfl (oj_val (y_move (fe_t rfl)) ?_)
  refine tl_step rfl (oj_val (y_move (fe_t rfl)) ?_)
  refine tl_step rfl (oj_callv Try.call87 fe_f (fel_cons (fe_t rfl) (fel_cons (fe_t rfl) (fel_cons (fe_t rfl) fel_nil))) (fun w' hS => meet_n_ A n c ns w' (Rd.below hr hS.below) hn hm hw ha) ?_)
  refine tl_step rfl (oj_val (y_move (fe_t rfl)) ?_)
  refine tl_step rfl (oj_val (y_extract (fe_t rfl) rfl) ?_)
  refine tl_step rfl (oj_val (y_extract (fe_t rfl) rfl) ?_)
  refine tl_step rfl (oj_val (y_assign (fe_t rfl)) ?_)
  refine tl_step rfl (oj_val (y_assign (fe_t rfl)) ?_)
  refine tl_nil ?_
  refine tx_then ?_
  refine tr_seq ?_
  refine tr_region ?_
  refine tl_step rfl (oj_val (y_move (fe_t rfl)) ?_)
  refine tl_step rfl (oj_callv Try.call75 fe_f (fel_cons (fe_t rfl) fel_nil) (fun w' hS => qWrongE A n c ns w' (Rd.below hr hS.below) hn hm) ?_)
  refine tl_step rfl (oj_val (y_assign (fe_t rfl)) ?_)
  refine tl_nil ?_
  refine tx_then ?_
  refine tr_seq ?_
  refine tr_seq ?_
  refine tr_region ?_
  refine tl_step rfl (oj_val (y_move (fe_t rfl)) ?_)
  refine tl_step rfl (oj_callv Try.call88 fe_f (fel_cons (fe_t rfl) fel_nil) (fun w' hS => treeWrongE A n c ns w' (Rd.below hr hS.below) hn hm) ?_)
  refine tl_step rfl (oj_val (y_move (fe_t rfl)) ?_)
  refine tl_step rfl (oj_val (y_neq (fe_t rfl) (fe_t rfl)) ?_)
  refine tl_step rfl (oj_val (y_move (fe_t rfl)) ?_)
  refine tl_splitp (d := 59) rfl (fun hq1 => ?_) (fun hq2 => ?_)
  · try (exfalso; omega)
    all_goals
      refine tl_skip rfl rfl rfl rfl ?_
      refine tl_skip rfl rfl rfl rfl ?_
      refine tl_skip rfl rfl rfl rfl ?_
      refine tl_step rfl (oj_val (y_pickt (fe_t rfl) fe_c) ?_)
      refine tl_nil ?_
      refine tx_then ?_
      exfalso; omega
  · try (exfalso; omega)
    all_goals
      refine tl_want rfl rfl rfl (oj_val (y_move (fe_t rfl)) ?_)
      refine tl_want rfl rfl rfl (oj_val (y_move (fe_t rfl)) ?_)
      refine tl_want rfl rfl rfl (oj_val (y_neq (fe_t rfl) (fe_t rfl)) ?_)
      refine tl_step rfl (oj_val (y_pickf (fe_t rfl) (fe_t rfl)) ?_)
      refine tl_nil ?_
      refine tx_then ?_
      refine tr_condp (fe_t rfl) (fun hq3 => ?_) (fun hq4 => ?_)
      · exfalso; omega
      · try (exfalso; omega)
        all_goals
          refine tr_skip ?_
          refine tx_then ?_
          refine tr_seq ?_
          refine tr_seq ?_
          refine tr_region ?_
          refine tl_step rfl (oj_val (y_move (fe_t rfl)) ?_)
          refine tl_step rfl (oj_val (y_neq (fe_t rfl) fe_c) ?_)
          refine tl_nil ?_
          refine tx_then ?_
          refine tr_condp (fe_t rfl) (fun hq5 => ?_) (fun hq6 => ?_)
          · exact absurd hw hq5
          · try (exfalso; omega)
            all_goals
              refine tr_skip ?_
              refine tx_then ?_
              refine tr_seq ?_
              refine tr_region ?_
              refine tl_step rfl (oj_val (y_assign fe_c) ?_)
              refine tl_nil ?_
              refine tx_then ?_
              refine tr_seq ?_
              refine tr_seq ?_
              refine tr_region ?_
              refine tl_step rfl (oj_val (y_move (fe_t rfl)) ?_)
              refine tl_step rfl (oj_val (y_len Try.underlying105 (fe_t rfl)) ?_)
              refine tl_step rfl (oj_val (y_move fe_c) ?_)
              refine tl_nil ?_
              refine tx_then ?_
              refine tr_block ?_
              refine tr_add (r := vec 3 1 (.slice none 0 0) 0 []) vec_nil rfl ?_
              refine tr_loop2 [16, 17, 18, 20, 98, 99, 100, 101, 102, 103, 104, 105, 106, 107, 108, 109, 110, 111, 112, 113, 114, 115, 116, 117, 118, 119, 120] (fun (k : Nat) (z1 : Vs) => [(98, .int .i64 (k : Int)), (16, .slice z1.A z1.n z1.c)]) 0 (fun (k : Nat) (z1 : Vs) => [(0, vec 3 1 (.slice z1.A z1.n z1.c) z1.n z1.xs)]) (fun (k : Nat) (z1 : Vs) => k ≤ n ∧ z1.n = (leavesTo t k).length ∧ z1.xs = cI (kI (leavesTo t k))) (fun (k : Nat) (z1 : Vs) => n - k) (0) (⟨none, 0, 0, []⟩ : Vs) (cov_cons (by first | rfl | exact v_int (by omega) | exact v_bool (by simp [*])) (cov_cons (by first | rfl | exact v_int (by omega) | exact v_bool (by simp [*])) (cov_nil))) (fun w h => h) ?_ ?_
              · try dsimp only
                exact ⟨by omega, rfl, rfl⟩
              intro k z1 hp
              obtain ⟨hk, hzn, hzx⟩ := hp
              have hll := leaves_len (t := t) (k := k)
              refine tr_seq ?_
              refine tr_region ?_
              refine tl_step rfl (oj_val (y_lss (fe_t rfl) (fe_t rfl)) ?_)
              refine tl_nil ?_
              refine tx_then ?_
              refine tr_seq ?_
              refine tr_condp (fe_t rfl) (fun hq7 => ?_) (fun hq8 => ?_)
              · try (exfalso; omega)
                all_goals
                  refine tr_skip ?_
                  refine tx_then ?_
                  refine tr_seq ?_
                  refine tr_block ?_
                  refine tr_seq ?_
                  refine tr_region ?_
                  refine tl_step rfl (oj_val (y_move (fe_t rfl)) ?_)
                  refine tl_step rfl (oj_val (y_assign (fe_t rfl)) ?_)
                  refine tl_nil ?_
                  refine tx_then ?_
                  refine tr_seq ?_
                  refine tr_region ?_
                  refine tl_step rfl (oj_val (y_assign fe_c) ?_)
                  refine tl_nil ?_
                  refine tx_then ?_
                  refine tr_seq ?_
                  refine tr_seq ?_
                  refine tr_region ?_
                  refine tl_step rfl (oj_val (y_move (fe_t rfl)) ?_)
                  refine tl_step rfl (oj_val (y_len Try.underlying105 (fe_t rfl)) ?_)
                  refine tl_step rfl (oj_val (y_move fe_c) ?_)
                  refine tl_nil ?_
                  refine tx_then ?_
                  refine tr_block ?_
                  refine tr_loop2 [18, 20, 103, 104, 105, 106, 107, 108, 109, 110, 111, 112, 113] (fun (j : Nat) (q : Int) => [(103, .int .i64 (j : Int)), (18, .int .i64 q)]) 0 (fun (j : Nat) (q : Int) => []) (fun (j : Nat) (q : Int) => j ≤ n ∧ q = ((t.kidsTo j k).length : Int)) (fun (j : Nat) (q : Int) => n - j) (0) (0) (cov_cons (by first | rfl | exact v_int (by omega) | exact v_bool (by simp [*])) (cov_cons (by first | rfl | exact v_int (by omega) | exact v_bool (by simp [*])) (cov_nil))) (fun w h => h) ?_ ?_
                  · try dsimp only
                    exact ⟨by omega, rfl⟩
                  intro j q hp
                  obtain ⟨hj, hq0⟩ := hp
                  have hkl := kidsTo_len (t := t) (m := j) (k := k)
                  refine tr_seq ?_
                  refine tr_region ?_
                  refine tl_step rfl (oj_val (y_lss (fe_t rfl) (fe_t rfl)) ?_)
                  refine tl_nil ?_
                  refine tx_then ?_
                  refine tr_seq ?_
                  refine tr_condp (fe_t rfl) (fun hq9 => ?_) (fun hq10 => ?_)
                  · try (exfalso; omega)
                    all_goals
                      refine tr_skip ?_
                      refine tx_then ?_
                      refine tr_seq ?_
                      refine tr_block ?_
                      refine tr_seq ?_
                      refine tr_region ?_
                      refine tl_step rfl (oj_val (y_index Try.underlying105 Try.sizeOf121 (fe_t rfl) (fe_t rfl) (rdl_out hr) (lenN hn) (by decide) (by omega) rfl) ?_)
                      refine tl_step rfl (oj_val (y_ldA (cs := [(.int .i64 (n1 ns j)), (.int .i64 (n2 ns j))]) Try.isAgg121 Try.sizeOf121 (fe_t rfl) (rdl_out hr) rfl (by decide) (getN (by omega))) ?_)
                      refine tl_step rfl (oj_alloc Try.zeroValue121 (fun bn => ?_))
                      refine tl_step rfl (oj_storeW 0 Try.sizeOf121 (fe_t rfl) (fe_t rfl) rfl rfl rfl rfl rfl (?_))
                      refine tl_nil ?_
                      refine tx_then ?_
                      refine tr_seq ?_
                      refine tr_region ?_
                      refine tl_step rfl (oj_val (y_fieldAddr (td := 3) Try.underlying121 rfl rfl Try.sizeOf3 (o' := 0) rfl (fe_t rfl)) ?_)
                      refine tl_step rfl (oj_val (y_ldb 0 Try.isAgg3 (fe_t rfl) rfl rfl) ?_)
                      refine tl_step rfl (oj_val (y_move (fe_t rfl)) ?_)
                      refine tl_step rfl (oj_val (y_eq (fe_t rfl) (fe_t rfl)) ?_)
                      refine tl_nil ?_
                      refine tx_then ?_
                      refine tr_condp (fe_t rfl) (fun hq11 => ?_) (fun hq12 => ?_)
                      · try (exfalso; omega)
                        all_goals
                          refine tr_region ?_
                          refine tl_step rfl (oj_val (y_move (fe_t rfl)) ?_)
                          refine tl_step rfl (oj_val (y_add (fe_t rfl) fe_c (by omega)) ?_)
                          refine tl_step rfl (oj_val (y_assign (fe_t rfl)) ?_)
                          refine tl_nil ?_
                          refine tx_in ?_
                          refine tx_then ?_
                          refine tr_region ?_
                          refine tl_step rfl (oj_val (y_inc (fe_t rfl) fe_c (by omega)) ?_)
                          refine tl_step rfl (oj_val (y_move (fe_t rfl)) ?_)
                          refine tl_nil ?_
                          apply tx_back2 (j + 1) (_)
                          · exact (cov_cons (by first | rfl | exact v_int (by omega) | exact v_bool (by simp [*])) (cov_cons (by first | rfl | exact v_int (by omega) | exact v_bool (by simp [*])) (cov_nil)))
                          · repeat (first | exact over_nil | refine over_put rfl ?_ | refine over_drop rfl ?_)
                          · exact fun w h => h.pick [1, 2, 3] _ rfl (by decide)
                          · exact ⟨⟨by omega, by rw [kidsTo_step, decide_eq_true (show t.u j = (k : Int) by rw [ht, trOf_u]; omega), cond_true, List.length_append, List.length_singleton]; omega⟩, by omega⟩
                      · try (exfalso; omega)
                        all_goals
                          refine tr_skip ?_
                          refine tx_in ?_
                          refine tx_then ?_
                          refine tr_region ?_
                          refine tl_step rfl (oj_val (y_inc (fe_t rfl) fe_c (by omega)) ?_)
                          refine tl_step rfl (oj_val (y_move (fe_t rfl)) ?_)
                          refine tl_nil ?_
                          apply tx_back2 (j + 1) (_)
                          · exact (cov_cons (by first | rfl | exact v_int (by omega) | exact v_bool (by simp [*])) (cov_cons (by first | rfl | exact v_int (by omega) | exact v_bool (by simp [*])) (cov_nil)))
                          · repeat (first | exact over_nil | refine over_put rfl ?_ | refine over_drop rfl ?_)
                          · exact fun w h => h.pick [1, 2, 3] _ rfl (by decide)
                          · exact ⟨⟨by omega, by rw [kidsTo_step, decide_eq_false (show ¬ t.u j = (k : Int) by rw [ht, trOf_u]; omega), cond_false, List.append_nil]; omega⟩, by omega⟩
                  · try (exfalso; omega)
                    all_goals
                      refine tr_exit ?_
                      refine tx_then_exit ?_
                      refine tx_then_exit ?_
                      refine tx_in_exit ?_
                      refine tx_then ?_
                      refine tr_seq ?_
                      refine tr_region ?_
                      refine tl_step rfl (oj_val (y_move (fe_t rfl)) ?_)
                      refine tl_step rfl (oj_val (y_eq (fe_t rfl) fe_c) ?_)
                      refine tl_nil ?_
                      refine tx_then ?_
                      refine tr_condp (fe_t rfl) (fun hq13 => ?_) (fun hq14 => ?_)
                      · try (exfalso; omega)
                        all_goals
                          have hkn : t.kids k = [] := by have e1 : t.kids k = t.kidsTo j k := (by show t.kidsTo t.n k = _; rw [show t.n = j by omega]); rw [e1]; exact List.eq_nil_of_length_eq_zero (by omega)
                          refine tr_region ?_
                          refine tl_step rfl (oj_val (y_move (fe_t rfl)) ?_)
                          refine tl_step rfl (oj_val (y_move (fe_t rfl)) ?_)
                          refine tl_step rfl (oj_slice1 Try.underlying79 Try.sizeOf3 Try.zeroValue3 (fe_t rfl) (by decide) rfl (fun b1 => ?_))
                          refine tl_step rfl (oj_append (i := 1) (s := 1) (z := (.int .i64 0)) (bytes := 8) Try.underlying79 (by kernel_rfl) (fe_t rfl) (fe_t rfl) rfl (rdl_blk 0 rfl) rfl (by decide) (by first | exact oneI | exact oneF (fun _ => rfl) | exact fun u hu => List.all_eq_true.1 (show List.all _ (fun x => x.oneCell') = true from rfl) u hu | (intro u hu; revert u hu; simp [Value.oneCell'])) (by decide) ⟨by omega, by decide⟩ (fun Aa1 ca1 hca1 => ?_))
                          refine tl_step rfl (oj_val (y_assign (fe_t rfl)) ?_)
                          refine tl_nil ?_
                          refine tx_in ?_
                          refine tx_then ?_
                          refine tr_region ?_
                          refine tl_step rfl (oj_val (y_inc (fe_t rfl) fe_c (by omega)) ?_)
                          refine tl_step rfl (oj_val (y_move (fe_t rfl)) ?_)
                          refine tl_nil ?_
                          apply tx_back2 (k + 1) ((⟨_, _, _, _⟩ : Vs))
                          · exact (cov_cons (by first | rfl | exact v_int (by omega) | exact v_bool (by simp [*])) (cov_cons (by first | rfl | exact v_int (by omega) | exact v_bool (by simp [*])) (cov_nil)))
                          · repeat (first | exact over_nil | refine over_put rfl ?_ | refine over_drop rfl ?_)
                          · exact fun w h => h.pick [1, 2, 3] _ rfl (by decide)
                          · refine ⟨⟨by omega, ?_⟩, by omega⟩
                            rw [leaves_step, decide_eq_true hkn]
                            exact ⟨by dsimp only; simp; omega, by dsimp only; rw [hzx]; simp [kI, cI]; rfl⟩
                      · try (exfalso; omega)
                        all_goals
                          have hkn : ¬ t.kids k = [] := by have e1 : t.kids k = t.kidsTo j k := (by show t.kidsTo t.n k = _; rw [show t.n = j by omega]); rw [e1]; intro e2; rw [e2] at hq0; simp at hq0; omega
                          refine tr_skip ?_
                          refine tx_in ?_
                          refine tx_then ?_
                          refine tr_region ?_
                          refine tl_step rfl (oj_val (y_inc (fe_t rfl) fe_c (by omega)) ?_)
                          refine tl_step rfl (oj_val (y_move (fe_t rfl)) ?_)
                          refine tl_nil ?_
                          apply tx_back2 (k + 1) ((⟨_, _, _, _⟩ : Vs))
                          · exact (cov_cons (by first | rfl | exact v_int (by omega) | exact v_bool (by simp [*])) (cov_cons (by first | rfl | exact v_int (by omega) | exact v_bool (by simp [*])) (cov_nil)))
                          · repeat (first | exact over_nil | refine over_put rfl ?_ | refine over_drop rfl ?_)
                          · exact fun w h => h.pick [0, 1, 2] _ rfl (by decide)
                          · refine ⟨⟨by omega, ?_⟩, by omega⟩
                            rw [leaves_step, decide_eq_false hkn]
                            exact ⟨by dsimp only; simp; omega, by dsimp only; rw [hzx]; simp⟩
              · try (exfalso; omega)
                all_goals
                  refine tr_exit ?_
                  refine tx_then_exit ?_
                  refine tx_then_exit ?_
                  refine tx_in_exit ?_
                  refine tx_then ?_
                  refine tr_seq ?_
                  refine tr_seq ?_
                  refine tr_region ?_
                  refine tl_step rfl (oj_val (y_move (fe_t rfl)) ?_)
                  refine tl_step rfl (oj_val (y_move (fe_t rfl)) ?_)
                  refine tl_step rfl (oj_callv Try.call73 fe_f (fel_cons (fe_t rfl) (fel_cons (fe_t rfl) fel_nil)) (fun w' hS => same_ints (a := kI (leavesTo t n)) (b := kI (leavesTo t n)) rfl ⟨by rw [kI_len, h0.1, ← ht], by rw [h0.2, ← ht]⟩ ⟨by rw [kI_len, hzn, show k = n by omega], by rw [hzx, show k = n by omega]⟩ w' (hS.holds 2 _ rfl) (hS.holds 0 _ rfl) (by rw [kI_len]; omega)) ?_)
                  refine tl_step rfl (oj_val (y_not (fe_t rfl)) ?_)
                  refine tl_nil ?_
                  refine tx_then ?_
                  refine tr_condf (fe_t rfl) ?_
                  refine tr_skip ?_
                  refine tx_then ?_
                  refine tr_seq ?_
                  refine tr_seq ?_
                  refine tr_region ?_
                  refine tl_step rfl (oj_val (y_move (fe_t rfl)) ?_)
                  refine tl_step rfl (oj_val (y_lss (fe_t rfl) fe_c) ?_)
                  refine tl_step rfl (oj_val (y_move (fe_t rfl)) ?_)
                  refine tl_splitp (d := 127) rfl (fun hq15 => ?_) (fun hq16 => ?_)
                  · try (exfalso; omega)
                    all_goals
                      refine tl_skip rfl rfl rfl rfl ?_
                      refine tl_skip rfl rfl rfl rfl ?_
                      refine tl_skip rfl rfl rfl rfl ?_
                      refine tl_skip rfl rfl rfl rfl ?_
                      refine tl_step rfl (oj_val (y_pickt (fe_t rfl) fe_c) ?_)
                      refine tl_nil ?_
                      refine tx_then ?_
                      refine tr_condt (fe_t rfl) ?_
                      refine tr_seq ?_
                      refine tr_region ?_
                      refine tl_step rfl (oj_val (y_move (fe_t rfl)) ?_)
                      refine tl_step rfl (oj_val (y_eq (fe_t rfl) fe_c) ?_)
                      refine tl_step rfl (oj_val (y_move (fe_t rfl)) ?_)
                      refine tl_splitp (d := 135) rfl (fun hq17 => ?_) (fun hq18 => ?_)
                      · try (exfalso; omega)
                        all_goals
                          refine tl_want rfl rfl rfl (oj_val (y_move (fe_t rfl)) ?_)
                          refine tl_want rfl rfl rfl (oj_val (y_move (fe_t rfl)) ?_)
                          refine tl_want rfl rfl rfl (oj_val (y_eq (fe_t rfl) (fe_t rfl)) ?_)
                          refine tl_step rfl (oj_val (y_pickt (fe_t rfl) (fe_t rfl)) ?_)
                          refine tl_step rfl (oj_val (y_move (fe_t rfl)) ?_)
                          refine tl_splitp (d := 140) rfl (fun hq19 => ?_) (fun hq20 => ?_)
                          · try (exfalso; omega)
                            all_goals
                              refine tl_want rfl rfl rfl (oj_val (y_move (fe_t rfl)) ?_)
                              refine tl_want rfl rfl rfl (oj_val (y_move (fe_t rfl)) ?_)
                              refine tl_want rfl rfl rfl (oj_val (y_eq (fe_t rfl) (fe_t rfl)) ?_)
                              refine tl_step rfl (oj_val (y_pickt (fe_t rfl) (fe_t rfl)) ?_)
                              refine tl_step rfl (oj_val (y_move (fe_t rfl)) ?_)
                              refine tl_splitp (d := 145) rfl (fun hq21 => ?_) (fun hq22 => ?_)
                              · try (exfalso; omega)
                                all_goals
                                  refine tl_want rfl rfl rfl (oj_val (y_move (fe_t rfl)) ?_)
                                  refine tl_want rfl rfl rfl (oj_val (y_len Try.underlying79 (fe_t rfl)) ?_)
                                  refine tl_want rfl rfl rfl (oj_val (y_eq (fe_t rfl) fe_c) ?_)
                                  refine tl_step rfl (oj_val (y_pickt (fe_t rfl) (fe_t rfl)) ?_)
                                  refine tl_step rfl (oj_val (y_move (fe_t rfl)) ?_)
                                  refine tl_splitp (d := 150) rfl (fun hq23 => ?_) (fun hq24 => ?_)
                                  · try (exfalso; omega)
                                    all_goals
                                      refine tl_want rfl rfl rfl (oj_val (y_ldbA 1 Try.isAgg23 Try.sizeOf23 (fe_t rfl) rfl rfl rfl) ?_)
                                      refine tl_want rfl rfl rfl (oj_val (y_build (is := []) (vs := []) (cs := [.int .i64 0, .int .i64 0]) rfl fel_nil (by kernel_rfl)) ?_)
                                      refine tl_want rfl rfl rfl (oj_val (y_binop (fe_t rfl) (fe_t rfl) (fun w => eqfr _ _ w)) ?_)
                                      refine tl_step rfl (oj_val (y_pickt (fe_t rfl) (fe_t rfl)) ?_)
                                      refine tl_step rfl (oj_val (y_move (fe_t rfl)) ?_)
                                      refine tl_want rfl rfl rfl (oj_val (y_move (fe_t rfl)) ?_)
                                      refine tl_want rfl rfl rfl (oj_val (y_eq (fe_t rfl) fe_c) ?_)
                                      refine tl_step rfl (oj_val (y_pickt (fe_t rfl) (fe_t rfl)) ?_)
                                      refine tl_step rfl (oj_val (y_assign (fe_t rfl)) ?_)
                                      refine tl_nil ?_
                                      refine tx_then ?_
                                      refine tr_ret ?_
                                      refine tx_then_ret ?_
                                      refine tx_ret (res1 Try.results12 (rok_t rfl)) (fun w' hS => ?_)
                                      exact ⟨ret_bool (by first | rfl | (simp; done) | (simp [*]; done)), hS.pick [] _ rfl (by decide)⟩
                                  · try (exfalso; omega)
                                    all_goals
                                      refine tl_skip rfl rfl rfl rfl ?_
                                      refine tl_skip rfl rfl rfl rfl ?_
                                      refine tl_skip rfl rfl rfl rfl ?_
                                      refine tl_step rfl (oj_val (y_pickf (fe_t rfl) fe_c) ?_)
                                      refine tl_step rfl (oj_val (y_move (fe_t rfl)) ?_)
                                      refine tl_skip rfl rfl rfl rfl ?_
                                      refine tl_skip rfl rfl rfl rfl ?_
                                      refine tl_step rfl (oj_val (y_pickf (fe_t rfl) fe_c) ?_)
                                      refine tl_step rfl (oj_val (y_assign (fe_t rfl)) ?_)
                                      refine tl_nil ?_
                                      refine tx_then ?_
                                      refine tr_ret ?_
                                      refine tx_then_ret ?_
                                      refine tx_ret (res1 Try.results12 (rok_t rfl)) (fun w' hS => ?_)
                                      exact ⟨ret_bool (by first | rfl | (simp; done) | (simp [*]; done)), hS.pick [] _ rfl (by decide)⟩
                              · try (exfalso; omega)
                                all_goals
                                  refine tl_skip rfl rfl rfl rfl ?_
                                  refine tl_skip rfl rfl rfl rfl ?_
                                  refine tl_skip rfl rfl rfl rfl ?_
                                  refine tl_step rfl (oj_val (y_pickf (fe_t rfl) fe_c) ?_)
                                  refine tl_step rfl (oj_val (y_move (fe_t rfl)) ?_)
                                  refine tl_skip rfl rfl rfl rfl ?_
                                  refine tl_skip rfl rfl rfl rfl ?_
                                  refine tl_skip rfl rfl rfl rfl ?_
                                  refine tl_step rfl (oj_val (y_pickf (fe_t rfl) fe_c) ?_)
                                  refine tl_step rfl (oj_val (y_move (fe_t rfl)) ?_)
                                  refine tl_skip rfl rfl rfl rfl ?_
                                  refine tl_skip rfl rfl rfl rfl ?_
                                  refine tl_step rfl (oj_val (y_pickf (fe_t rfl) fe_c) ?_)
                                  refine tl_step rfl (oj_val (y_assign (fe_t rfl)) ?_)
                                  refine tl_nil ?_
                                  refine tx_then ?_
                                  refine tr_ret ?_
                                  refine tx_then_ret ?_
                                  refine tx_ret (res1 Try.results12 (rok_t rfl)) (fun w' hS => ?_)
                                  exact ⟨ret_bool (by first | rfl | (simp; done) | (simp [*]; done)), hS.pick [] _ rfl (by decide)⟩
                          · try (exfalso; omega)
                            all_goals
                              refine tl_skip rfl rfl rfl rfl ?_
                              refine tl_skip rfl rfl rfl rfl ?_
                              refine tl_skip rfl rfl rfl rfl ?_
                              refine tl_step rfl (oj_val (y_pickf (fe_t rfl) fe_c) ?_)
                              refine tl_step rfl (oj_val (y_move (fe_t rfl)) ?_)
                              refine tl_skip rfl rfl rfl rfl ?_
                              refine tl_skip rfl rfl rfl rfl ?_
                              refine tl_skip rfl rfl rfl rfl ?_
                              refine tl_step rfl (oj_val (y_pickf (fe_t rfl) fe_c) ?_)
                              refine tl_step rfl (oj_val (y_move (fe_t rfl)) ?_)
                              refine tl_skip rfl rfl rfl rfl ?_
                              refine tl_skip rfl rfl rfl rfl ?_
                              refine tl_skip rfl rfl rfl rfl ?_
                              refine tl_step rfl (oj_val (y_pickf (fe_t rfl) fe_c) ?_)
                              refine tl_step rfl (oj_val (y_move (fe_t rfl)) ?_)
                              refine tl_skip rfl rfl rfl rfl ?_
                              refine tl_skip rfl rfl rfl rfl ?_
                              refine tl_step rfl (oj_val (y_pickf (fe_t rfl) fe_c) ?_)
                              refine tl_step rfl (oj_val (y_assign (fe_t rfl)) ?_)
                              refine tl_nil ?_
                              refine tx_then ?_
                              refine tr_ret ?_
                              refine tx_then_ret ?_
                              refine tx_ret (res1 Try.results12 (rok_t rfl)) (fun w' hS => ?_)
                              exact ⟨ret_bool (by first | rfl | (simp; done) | (simp [*]; done)), hS.pick [] _ rfl (by decide)⟩
                      · try (exfalso; omega)
                        all_goals
                          refine tl_skip rfl rfl rfl rfl ?_
                          refine tl_skip rfl rfl rfl rfl ?_
                          refine tl_skip rfl rfl rfl rfl ?_
                          refine tl_step rfl (oj_val (y_pickf (fe_t rfl) fe_c) ?_)
                          refine tl_step rfl (oj_val (y_move (fe_t rfl)) ?_)
                          refine tl_skip rfl rfl rfl rfl ?_
                          refine tl_skip rfl rfl rfl rfl ?_
                          refine tl_skip rfl rfl rfl rfl ?_
                          refine tl_step rfl (oj_val (y_pickf (fe_t rfl) fe_c) ?_)
                          refine tl_step rfl (oj_val (y_move (fe_t rfl)) ?_)
                          refine tl_skip rfl rfl rfl rfl ?_
                          refine tl_skip rfl rfl rfl rfl ?_
                          refine tl_skip rfl rfl rfl rfl ?_
                          refine tl_step rfl (oj_val (y_pickf (fe_t rfl) fe_c) ?_)
                          refine tl_step rfl (oj_val (y_move (fe_t rfl)) ?_)
                          refine tl_skip rfl rfl rfl rfl ?_
                          refine tl_skip rfl rfl rfl rfl ?_
                          refine tl_skip rfl rfl rfl rfl ?_
                          refine tl_step rfl (oj_val (y_pickf (fe_t rfl) fe_c) ?_)
                          refine tl_step rfl (oj_val (y_move (fe_t rfl)) ?_)
                          refine tl_skip rfl rfl rfl rfl ?_
                          refine tl_skip rfl rfl rfl rfl ?_
                          refine tl_step rfl (oj_val (y_pickf (fe_t rfl) fe_c) ?_)
                          refine tl_step rfl (oj_val (y_assign (fe_t rfl)) ?_)
                          refine tl_nil ?_
                          refine tx_then ?_
                          refine tr_ret ?_
                          refine tx_then_ret ?_
                          refine tx_ret (res1 Try.results12 (rok_t rfl)) (fun w' hS => ?_)
                          exact ⟨ret_bool (by first | rfl | (simp; done) | (simp [*]; done)), hS.pick [] _ rfl (by decide)⟩
                  · try (exfalso; omega)
                    all_goals
                      refine tl_want rfl rfl rfl (oj_val (y_move (fe_t rfl)) ?_)
                      refine tl_want rfl rfl rfl (oj_val (y_move (fe_t rfl)) ?_)
                      refine tl_want rfl rfl rfl (oj_val (y_len Try.underlying105 (fe_t rfl)) ?_)
                      refine tl_want rfl rfl rfl (oj_val (y_geq (fe_t rfl) (fe_t rfl)) ?_)
                      refine tl_step rfl (oj_val (y_pickf (fe_t rfl) (fe_t rfl)) ?_)
                      refine tl_nil ?_
                      refine tx_then ?_
                      refine tr_condp (fe_t rfl) (fun hq25 => ?_) (fun hq26 => ?_)
                      · try (exfalso; omega)
                        all_goals
                          refine tr_seq ?_
                          refine tr_region ?_
                          refine tl_step rfl (oj_val (y_move (fe_t rfl)) ?_)
                          refine tl_step rfl (oj_val (y_eq (fe_t rfl) fe_c) ?_)
                          refine tl_step rfl (oj_val (y_move (fe_t rfl)) ?_)
                          refine tl_splitp (d := 135) rfl (fun hq27 => ?_) (fun hq28 => ?_)
                          · try (exfalso; omega)
                            all_goals
                              refine tl_want rfl rfl rfl (oj_val (y_move (fe_t rfl)) ?_)
                              refine tl_want rfl rfl rfl (oj_val (y_move (fe_t rfl)) ?_)
                              refine tl_want rfl rfl rfl (oj_val (y_eq (fe_t rfl) (fe_t rfl)) ?_)
                              refine tl_step rfl (oj_val (y_pickt (fe_t rfl) (fe_t rfl)) ?_)
                              refine tl_step rfl (oj_val (y_move (fe_t rfl)) ?_)
                              refine tl_splitp (d := 140) rfl (fun hq29 => ?_) (fun hq30 => ?_)
                              · try (exfalso; omega)
                                all_goals
                                  refine tl_want rfl rfl rfl (oj_val (y_move (fe_t rfl)) ?_)
                                  refine tl_want rfl rfl rfl (oj_val (y_move (fe_t rfl)) ?_)
                                  refine tl_want rfl rfl rfl (oj_val (y_eq (fe_t rfl) (fe_t rfl)) ?_)
                                  refine tl_step rfl (oj_val (y_pickt (fe_t rfl) (fe_t rfl)) ?_)
                                  refine tl_step rfl (oj_val (y_move (fe_t rfl)) ?_)
                                  refine tl_splitp (d := 145) rfl (fun hq31 => ?_) (fun hq32 => ?_)
                                  · try (exfalso; omega)
                                    all_goals
                                      refine tl_want rfl rfl rfl (oj_val (y_move (fe_t rfl)) ?_)
                                      refine tl_want rfl rfl rfl (oj_val (y_len Try.underlying79 (fe_t rfl)) ?_)
                                      refine tl_want rfl rfl rfl (oj_val (y_eq (fe_t rfl) fe_c) ?_)
                                      refine tl_step rfl (oj_val (y_pickt (fe_t rfl) (fe_t rfl)) ?_)
                                      refine tl_step rfl (oj_val (y_move (fe_t rfl)) ?_)
                                      refine tl_splitp (d := 150) rfl (fun hq33 => ?_) (fun hq34 => ?_)
                                      · try (exfalso; omega)
                                        all_goals
                                          refine tl_want rfl rfl rfl (oj_val (y_ldbA 1 Try.isAgg23 Try.sizeOf23 (fe_t rfl) rfl rfl rfl) ?_)
                                          refine tl_want rfl rfl rfl (oj_val (y_build (is := []) (vs := []) (cs := [.int .i64 0, .int .i64 0]) rfl fel_nil (by kernel_rfl)) ?_)
                                          refine tl_want rfl rfl rfl (oj_val (y_binop (fe_t rfl) (fe_t rfl) (fun w => eqfr _ _ w)) ?_)
                                          refine tl_step rfl (oj_val (y_pickt (fe_t rfl) (fe_t rfl)) ?_)
                                          refine tl_step rfl (oj_val (y_move (fe_t rfl)) ?_)
                                          refine tl_want rfl rfl rfl (oj_val (y_move (fe_t rfl)) ?_)
                                          refine tl_want rfl rfl rfl (oj_val (y_eq (fe_t rfl) fe_c) ?_)
                                          refine tl_step rfl (oj_val (y_pickt (fe_t rfl) (fe_t rfl)) ?_)
                                          refine tl_step rfl (oj_val (y_assign (fe_t rfl)) ?_)
                                          refine tl_nil ?_
                                          refine tx_then ?_
                                          refine tr_ret ?_
                                          refine tx_then_ret ?_
                                          refine tx_ret (res1 Try.results12 (rok_t rfl)) (fun w' hS => ?_)
                                          exact ⟨ret_bool (by first | rfl | (simp; done) | (simp [*]; done)), hS.pick [] _ rfl (by decide)⟩
                                      · try (exfalso; omega)
                                        all_goals
                                          refine tl_skip rfl rfl rfl rfl ?_
                                          refine tl_skip rfl rfl rfl rfl ?_
                                          refine tl_skip rfl rfl rfl rfl ?_
                                          refine tl_step rfl (oj_val (y_pickf (fe_t rfl) fe_c) ?_)
                                          refine tl_step rfl (oj_val (y_move (fe_t rfl)) ?_)
                                          refine tl_skip rfl rfl rfl rfl ?_
                                          refine tl_skip rfl rfl rfl rfl ?_
                                          refine tl_step rfl (oj_val (y_pickf (fe_t rfl) fe_c) ?_)
                                          refine tl_step rfl (oj_val (y_assign (fe_t rfl)) ?_)
                                          refine tl_nil ?_
                                          refine tx_then ?_
                                          refine tr_ret ?_
                                          refine tx_then_ret ?_
                                          refine tx_ret (res1 Try.results12 (rok_t rfl)) (fun w' hS => ?_)
                                          exact ⟨ret_bool (by first | rfl | (simp; done) | (simp [*]; done)), hS.pick [] _ rfl (by decide)⟩
                                  · try (exfalso; omega)
                                    all_goals
                                      refine tl_skip rfl rfl rfl rfl ?_
                                      refine tl_skip rfl rfl rfl rfl ?_
                                      refine tl_skip rfl rfl rfl rfl ?_
                                      refine tl_step rfl (oj_val (y_pickf (fe_t rfl) fe_c) ?_)
                                      refine tl_step rfl (oj_val (y_move (fe_t rfl)) ?_)
                                      refine tl_skip rfl rfl rfl rfl ?_
                                      refine tl_skip rfl rfl rfl rfl ?_
                                      refine tl_skip rfl rfl rfl rfl ?_
                                      refine tl_step rfl (oj_val (y_pickf (fe_t rfl) fe_c) ?_)
                                      refine tl_step rfl (oj_val (y_move (fe_t rfl)) ?_)
                                      refine tl_skip rfl rfl rfl rfl ?_
                                      refine tl_skip rfl rfl rfl rfl ?_
                                      refine tl_step rfl (oj_val (y_pickf (fe_t rfl) fe_c) ?_)
                                      refine tl_step rfl (oj_val (y_assign (fe_t rfl)) ?_)
                                      refine tl_nil ?_
                                      refine tx_then ?_
                                      refine tr_ret ?_
                                      refine tx_then_ret ?_
                                      refine tx_ret (res1 Try.results12 (rok_t rfl)) (fun w' hS => ?_)
                                      exact ⟨ret_bool (by first | rfl | (simp; done) | (simp [*]; done)), hS.pick [] _ rfl (by decide)⟩
                              · try (exfalso; omega)
                                all_goals
                                  refine tl_skip rfl rfl rfl rfl ?_
                                  refine tl_skip rfl rfl rfl rfl ?_
                                  refine tl_skip rfl rfl rfl rfl ?_
                                  refine tl_step rfl (oj_val (y_pickf (fe_t rfl) fe_c) ?_)
                                  refine tl_step rfl (oj_val (y_move (fe_t rfl)) ?_)
                                  refine tl_skip rfl rfl rfl rfl ?_
                                  refine tl_skip rfl rfl rfl rfl ?_
                                  refine tl_skip rfl rfl rfl rfl ?_
                                  refine tl_step rfl (oj_val (y_pickf (fe_t rfl) fe_c) ?_)
                                  refine tl_step rfl (oj_val (y_move (fe_t rfl)) ?_)
                                  refine tl_skip rfl rfl rfl rfl ?_
                                  refine tl_skip rfl rfl rfl rfl ?_
                                  refine tl_skip rfl rfl rfl rfl ?_
                                  refine tl_step rfl (oj_val (y_pickf (fe_t rfl) fe_c) ?_)
                                  refine tl_step rfl (oj_val (y_move (fe_t rfl)) ?_)
                                  refine tl_skip rfl rfl rfl rfl ?_
                                  refine tl_skip rfl rfl rfl rfl ?_
                                  refine tl_step rfl (oj_val (y_pickf (fe_t rfl) fe_c) ?_)
                                  refine tl_step rfl (oj_val (y_assign (fe_t rfl)) ?_)
                                  refine tl_nil ?_
                                  refine tx_then ?_
                                  refine tr_ret ?_
                                  refine tx_then_ret ?_
                                  refine tx_ret (res1 Try.results12 (rok_t rfl)) (fun w' hS => ?_)
                                  exact ⟨ret_bool (by first | rfl | (simp; done) | (simp [*]; done)), hS.pick [] _ rfl (by decide)⟩
                          · try (exfalso; omega)
                            all_goals
                              refine tl_skip rfl rfl rfl rfl ?_
                              refine tl_skip rfl rfl rfl rfl ?_
                              refine tl_skip rfl rfl rfl rfl ?_
                              refine tl_step rfl (oj_val (y_pickf (fe_t rfl) fe_c) ?_)
                              refine tl_step rfl (oj_val (y_move (fe_t rfl)) ?_)
                              refine tl_skip rfl rfl rfl rfl ?_
                              refine tl_skip rfl rfl rfl rfl ?_
                              refine tl_skip rfl rfl rfl rfl ?_
                              refine tl_step rfl (oj_val (y_pickf (fe_t rfl) fe_c) ?_)
                              refine tl_step rfl (oj_val (y_move (fe_t rfl)) ?_)
                              refine tl_skip rfl rfl rfl rfl ?_
                              refine tl_skip rfl rfl rfl rfl ?_
                              refine tl_skip rfl rfl rfl rfl ?_
                              refine tl_step rfl (oj_val (y_pickf (fe_t rfl) fe_c) ?_)
                              refine tl_step rfl (oj_val (y_move (fe_t rfl)) ?_)
                              refine tl_skip rfl rfl rfl rfl ?_
                              refine tl_skip rfl rfl rfl rfl ?_
                              refine tl_skip rfl rfl rfl rfl ?_
                              refine tl_step rfl (oj_val (y_pickf (fe_t rfl) fe_c) ?_)
                              refine tl_step rfl (oj_val (y_move (fe_t rfl)) ?_)
                              refine tl_skip rfl rfl rfl rfl ?_
                              refine tl_skip rfl rfl rfl rfl ?_
                              refine tl_step rfl (oj_val (y_pickf (fe_t rfl) fe_c) ?_)
                              refine tl_step rfl (oj_val (y_assign (fe_t rfl)) ?_)
                              refine tl_nil ?_
                              refine tx_then ?_
                              refine tr_ret ?_
                              refine tx_then_ret ?_
                              refine tx_ret (res1 Try.results12 (rok_t rfl)) (fun w' hS => ?_)
                              exact ⟨ret_bool (by first | rfl | (simp; done) | (simp [*]; done)), hS.pick [] _ rfl (by decide)⟩
                      · exfalso; omega

end Go.Proofs.Ytcpdelkamckmfaa.Hier
