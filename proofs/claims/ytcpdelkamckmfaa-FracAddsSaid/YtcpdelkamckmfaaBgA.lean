/- The Int library by the engine: trim. A number is a header block and a slice of its own for the digits; T is whatever else is held. -/
import Derived.Test.YtcpdelkamckmfaaEB
namespace Go.Proofs.Ytcpdelkamckmfaa.Big
open Go.RowKit Go.Proofs.Ytcpdelkamckmfaa.E

/-- Digits as cells. -/
def cU (ds : List Int) : List Value := ds.map (.int .u32)
theorem cU_len (ds : List Int) : (cU ds).length = ds.length := by simp [cU]
theorem cU_take (ds : List Int) (k : Nat) : (cU ds).take (k * 1) = cU (ds.take k) := by simp [cU, List.map_take]
theorem cU_get {ds : List Int} {k : Nat} (h : k < ds.length) : (cU ds)[k]? = some (.int .u32 ds[k]) := by simp [cU, h]
theorem trim_step {ds : List Int} {k : Nat} (h0 : 0 < k) (hk : k ≤ ds.length) (hz : ds[k - 1]'(by omega) = 0) : dval (ds.take k) = dval (ds.take (k - 1)) := by
  obtain ⟨j, rfl⟩ : ∃ j, k = j + 1 := ⟨k - 1, by omega⟩
  simp only [Nat.add_sub_cancel] at hz ⊢
  rw [dval_take_succ (by omega), hz]
  simp
theorem trim_tk {ds : List Int} {k : Nat} (hk : k ≤ ds.length) (h : k = 0 ∨ ∃ hl : k - 1 < ds.length, ds[k - 1] ≠ 0) : Trim (ds.take k) := by
  intro hp
  rw [List.length_take, Nat.min_eq_left hk] at hp
  rcases h with rfl | ⟨hl, h⟩
  · omega
  · simp only [List.length_take, Nat.min_eq_left hk, List.getElem_take]
    exact h
/-- The header of a number. -/
abbrev hdr (b : Nat) (neg : Bool) (A : Option Addr) (n c : Nat) : Res := blk b [.bool neg, .slice A n c]
/-- Its digits. -/
abbrev dig (A : Option Addr) (n c : Nat) (ds : List Int) : Res := vec 153 1 (.slice A n c) n (cU ds)

set_option maxRecDepth 100000 in
set_option maxHeartbeats 1000000 in
theorem trimE {w0 w : World} {T : List Res} (b : Nat) (neg : Bool) (A : Option Addr) (n c : Nat) (ds : List Int) (hS : St w0 w (hdr b neg A n c :: dig A n c ds :: T)) (hn : ds.length = n) (hc : n ≤ c) (hm : n ≤ 140737488355328) (hD : Dig ds) :
    Calls Try.prog 126 #[.pointer (some ⟨b, 0, none⟩)] w fun e w' => ∃ k : Nat, (k ≤ n ∧ Trim (ds.take k) ∧ dval (ds.take k) = dval ds) ∧ e = .returned (.pointer (some ⟨b, 0, none⟩)) ∧ St w0 w' (hdr b (neg && decide (k ≠ 0)) A k c :: dig A k c (ds.take k) :: T) := by
  refine calls_tr Try.func126 Try.ntmps126 rfl rfl hS ?_
  refine tr_seq ?_
  refine tr_region ?_
  refine tl_step rfl (oj_val (y_assign fe_c) ?_)
  refine tl_nil ?_
  refine tx_then ?_
  refine tr_seq ?_
  refine tr_region ?_
  refine tl_step rfl (oj_val (y_move (fe_t rfl)) ?_)
  refine tl_step rfl (oj_val (y_nilCheck (fe_t rfl)) ?_)
  refine tl_step rfl (oj_val (y_fieldAddr (td := 33) Try.underlying35 rfl rfl Try.sizeOf33 (o' := 1) rfl (fe_t rfl)) ?_)
  refine tl_step rfl (oj_val (y_ldb 0 Try.isAgg33 (fe_t rfl) rfl rfl) ?_)
  refine tl_step rfl (oj_val (y_len Try.underlying33 (fe_t rfl)) ?_)
  refine tl_step rfl (oj_val (y_assign (fe_t rfl)) ?_)
  refine tl_nil ?_
  refine tx_then ?_
  refine tr_seq ?_
  refine tr_block ?_
  refine tr_loop1 [3, 9, 10, 11, 12, 13, 14, 15, 16, 17, 18, 19, 20, 21, 22, 23] (fun (k : Nat) => [(3, .int .i64 (k : Int))]) 0 (fun (k : Nat) => []) (fun (k : Nat) => k ≤ n ∧ dval (ds.take k) = dval ds) (fun (k : Nat) => k) (n) (cov_cons (by first | rfl | exact v_int (by omega) | exact v_bool (by simp [*])) (cov_nil)) (fun w h => h) ?_ ?_
  · try dsimp only
    exact ⟨Nat.le_refl _, by rw [List.take_of_length_le (by omega)]⟩
  intro k hp
  obtain ⟨hk, hd⟩ := hp
  refine tr_seq ?_
  refine tr_seq ?_
  refine tr_region ?_
  refine tl_step rfl (oj_val (y_move (fe_t rfl)) ?_)
  refine tl_step rfl (oj_val (y_gtr (fe_t rfl) fe_c) ?_)
  refine tl_step rfl (oj_val (y_move (fe_t rfl)) ?_)
  refine tl_splitp (d := 11) rfl (fun hq1 => ?_) (fun hq2 => ?_)
  · refine tl_want rfl rfl rfl (oj_val (y_move (fe_t rfl)) ?_)
    refine tl_want rfl rfl rfl (oj_val (y_nilCheck (fe_t rfl)) ?_)
    refine tl_want rfl rfl rfl (oj_val (y_fieldAddr (td := 33) Try.underlying35 rfl rfl Try.sizeOf33 (o' := 1) rfl (fe_t rfl)) ?_)
    refine tl_want rfl rfl rfl (oj_val (y_ldb 0 Try.isAgg33 (fe_t rfl) rfl rfl) ?_)
    refine tl_want rfl rfl rfl (oj_val (y_move (fe_t rfl)) ?_)
    refine tl_want rfl rfl rfl (oj_val (y_dec (fe_t rfl) fe_c (by omega)) ?_)
    refine tl_want rfl rfl rfl (oj_val (y_index Try.underlying33 Try.sizeOf153 (fe_t rfl) (fe_t rfl) (rdl_vec 1 rfl) (by rw [cU_len]; omega) (by decide) (by omega) (Nat.mul_one _)) ?_)
    refine tl_want rfl rfl rfl (oj_val (y_ld (v := .int .u32 (ds[k - 1]'(by omega))) Try.isAgg153 (fe_t rfl) (rdl_vec 1 rfl) (cU_get (by omega))) ?_)
    refine tl_want rfl rfl rfl (oj_val (y_eq (fe_t rfl) fe_c) ?_)
    refine tl_step rfl (oj_val (y_pickt (fe_t rfl) (fe_t rfl)) ?_)
    refine tl_nil ?_
    refine tx_then ?_
    refine tr_condp (fe_t rfl) (fun hq3 => ?_) (fun hq4 => ?_)
    · refine tr_skip ?_
      refine tx_then ?_
      refine tr_block ?_
      refine tr_region ?_
      refine tl_step rfl (oj_val (y_move (fe_t rfl)) ?_)
      refine tl_step rfl (oj_val (y_dec (fe_t rfl) fe_c (by omega)) ?_)
      refine tl_step rfl (oj_val (y_assign (fe_t rfl)) ?_)
      refine tl_nil ?_
      refine tx_in ?_
      apply tx_back1 (k - 1)
      · exact (cov_cons (by first | rfl | exact v_int (by omega) | exact v_bool (by simp [*])) (cov_nil))
      · repeat (first | exact over_nil | refine over_put rfl ?_ | refine over_drop rfl ?_)
      · exact fun w h => h
      · exact ⟨⟨by omega, (trim_step (by omega) (by omega) (by omega)).symm.trans hd⟩, by omega⟩
    · refine tr_exit ?_
      refine tx_then_exit ?_
      refine tx_then_exit ?_
      refine tx_in_exit ?_
      refine tx_then ?_
      refine tr_seq ?_
      have ht : Trim (ds.take k) := trim_tk (by omega) (by first | exact .inl (by omega) | exact .inr ⟨by omega, by omega⟩)
      refine tr_shrink 1 rfl hk ?_
      rw [cU_take]
      refine tr_region ?_
      refine tl_step rfl (oj_val (y_move (fe_t rfl)) ?_)
      refine tl_step rfl (oj_val (y_move (fe_t rfl)) ?_)
      refine tl_step rfl (oj_val (y_nilCheck (fe_t rfl)) ?_)
      refine tl_step rfl (oj_val (y_fieldAddr (td := 33) Try.underlying35 rfl rfl Try.sizeOf33 (o' := 1) rfl (fe_t rfl)) ?_)
      refine tl_step rfl (oj_val (y_ldb 0 Try.isAgg33 (fe_t rfl) rfl rfl) ?_)
      refine tl_step rfl (oj_val (y_move (fe_t rfl)) ?_)
      refine tl_step rfl (oj_val (y_cutH Try.underlying33 Try.sizeOf153 (fe_t rfl) (fe_t rfl) (by omega)) ?_)
      refine tl_step rfl (oj_val (y_nilCheck (fe_t rfl)) ?_)
      refine tl_step rfl (oj_val (y_fieldAddr (td := 33) Try.underlying35 rfl rfl Try.sizeOf33 (o' := 1) rfl (fe_t rfl)) ?_)
      refine tl_step rfl (oj_store1 0 Try.sizeOf33 (fe_t rfl) (fe_t rfl) rfl rfl rfl rfl (?_))
      refine tl_nil ?_
      refine tx_then ?_
      refine tr_seq ?_
      refine tr_seq ?_
      refine tr_region ?_
      refine tl_step rfl (oj_val (y_move (fe_t rfl)) ?_)
      refine tl_step rfl (oj_val (y_eq (fe_t rfl) fe_c) ?_)
      refine tl_nil ?_
      refine tx_then ?_
      refine tr_condp (fe_t rfl) (fun hq5 => ?_) (fun hq6 => ?_)
      · refine tr_region ?_
        refine tl_step rfl (oj_val (y_move (fe_t rfl)) ?_)
        refine tl_step rfl (oj_val (y_nilCheck (fe_t rfl)) ?_)
        refine tl_step rfl (oj_val (y_fieldAddr (td := 4) Try.underlying35 rfl rfl Try.sizeOf4 (o' := 0) rfl (fe_t rfl)) ?_)
        refine tl_step rfl (oj_store1 0 Try.sizeOf4 (fe_t rfl) fe_c rfl rfl rfl rfl (?_))
        refine tl_nil ?_
        refine tx_then ?_
        refine tr_seq ?_
        refine tr_region ?_
        refine tl_step rfl (oj_val (y_move (fe_t rfl)) ?_)
        refine tl_step rfl (oj_val (y_assign (fe_t rfl)) ?_)
        refine tl_nil ?_
        refine tx_then ?_
        refine tr_ret ?_
        refine tx_ret (res1 Try.results126 (rok_t rfl)) (fun w' hS => ?_)
        refine ⟨k, ⟨hk, ht, hd⟩, rfl, ?_⟩
        first
          | (rw [show (neg && decide (k ≠ 0)) = neg from by rw [show decide (k ≠ 0) = true from decide_eq_true (by omega), Bool.and_true]]; exact hS)
          | (rw [show (neg && decide (k ≠ 0)) = false from by rw [show decide (k ≠ 0) = false from decide_eq_false (by omega), Bool.and_false]]; exact hS)
      · refine tr_skip ?_
        refine tx_then ?_
        refine tr_seq ?_
        refine tr_region ?_
        refine tl_step rfl (oj_val (y_move (fe_t rfl)) ?_)
        refine tl_step rfl (oj_val (y_assign (fe_t rfl)) ?_)
        refine tl_nil ?_
        refine tx_then ?_
        refine tr_ret ?_
        refine tx_ret (res1 Try.results126 (rok_t rfl)) (fun w' hS => ?_)
        refine ⟨k, ⟨hk, ht, hd⟩, rfl, ?_⟩
        first
          | (rw [show (neg && decide (k ≠ 0)) = neg from by rw [show decide (k ≠ 0) = true from decide_eq_true (by omega), Bool.and_true]]; exact hS)
          | (rw [show (neg && decide (k ≠ 0)) = false from by rw [show decide (k ≠ 0) = false from decide_eq_false (by omega), Bool.and_false]]; exact hS)
  · refine tl_skip rfl rfl rfl rfl ?_
    refine tl_skip rfl rfl rfl rfl ?_
    refine tl_skip rfl rfl rfl rfl ?_
    refine tl_skip rfl rfl rfl rfl ?_
    refine tl_skip rfl rfl rfl rfl ?_
    refine tl_skip rfl rfl rfl rfl ?_
    refine tl_skip rfl rfl rfl rfl ?_
    refine tl_skip rfl rfl rfl rfl ?_
    refine tl_skip rfl rfl rfl rfl ?_
    refine tl_step rfl (oj_val (y_pickf (fe_t rfl) fe_c) ?_)
    refine tl_nil ?_
    refine tx_then ?_
    refine tr_condf (fe_t rfl) ?_
    refine tr_exit ?_
    refine tx_then_exit ?_
    refine tx_then_exit ?_
    refine tx_in_exit ?_
    refine tx_then ?_
    refine tr_seq ?_
    have ht : Trim (ds.take k) := trim_tk (by omega) (by first | exact .inl (by omega) | exact .inr ⟨by omega, by omega⟩)
    refine tr_shrink 1 rfl hk ?_
    rw [cU_take]
    refine tr_region ?_
    refine tl_step rfl (oj_val (y_move (fe_t rfl)) ?_)
    refine tl_step rfl (oj_val (y_move (fe_t rfl)) ?_)
    refine tl_step rfl (oj_val (y_nilCheck (fe_t rfl)) ?_)
    refine tl_step rfl (oj_val (y_fieldAddr (td := 33) Try.underlying35 rfl rfl Try.sizeOf33 (o' := 1) rfl (fe_t rfl)) ?_)
    refine tl_step rfl (oj_val (y_ldb 0 Try.isAgg33 (fe_t rfl) rfl rfl) ?_)
    refine tl_step rfl (oj_val (y_move (fe_t rfl)) ?_)
    refine tl_step rfl (oj_val (y_cutH Try.underlying33 Try.sizeOf153 (fe_t rfl) (fe_t rfl) (by omega)) ?_)
    refine tl_step rfl (oj_val (y_nilCheck (fe_t rfl)) ?_)
    refine tl_step rfl (oj_val (y_fieldAddr (td := 33) Try.underlying35 rfl rfl Try.sizeOf33 (o' := 1) rfl (fe_t rfl)) ?_)
    refine tl_step rfl (oj_store1 0 Try.sizeOf33 (fe_t rfl) (fe_t rfl) rfl rfl rfl rfl (?_))
    refine tl_nil ?_
    refine tx_then ?_
    refine tr_seq ?_
    refine tr_seq ?_
    refine tr_region ?_
    refine tl_step rfl (oj_val (y_move (fe_t rfl)) ?_)
    refine tl_step rfl (oj_val (y_eq (fe_t rfl) fe_c) ?_)
    refine tl_nil ?_
    refine tx_then ?_
    refine tr_condp (fe_t rfl) (fun hq7 => ?_) (fun hq8 => ?_)
    · refine tr_region ?_
      refine tl_step rfl (oj_val (y_move (fe_t rfl)) ?_)
      refine tl_step rfl (oj_val (y_nilCheck (fe_t rfl)) ?_)
      refine tl_step rfl (oj_val (y_fieldAddr (td := 4) Try.underlying35 rfl rfl Try.sizeOf4 (o' := 0) rfl (fe_t rfl)) ?_)
      refine tl_step rfl (oj_store1 0 Try.sizeOf4 (fe_t rfl) fe_c rfl rfl rfl rfl (?_))
      refine tl_nil ?_
      refine tx_then ?_
      refine tr_seq ?_
      refine tr_region ?_
      refine tl_step rfl (oj_val (y_move (fe_t rfl)) ?_)
      refine tl_step rfl (oj_val (y_assign (fe_t rfl)) ?_)
      refine tl_nil ?_
      refine tx_then ?_
      refine tr_ret ?_
      refine tx_ret (res1 Try.results126 (rok_t rfl)) (fun w' hS => ?_)
      refine ⟨k, ⟨hk, ht, hd⟩, rfl, ?_⟩
      first
        | (rw [show (neg && decide (k ≠ 0)) = neg from by rw [show decide (k ≠ 0) = true from decide_eq_true (by omega), Bool.and_true]]; exact hS)
        | (rw [show (neg && decide (k ≠ 0)) = false from by rw [show decide (k ≠ 0) = false from decide_eq_false (by omega), Bool.and_false]]; exact hS)
    · refine tr_skip ?_
      refine tx_then ?_
      refine tr_seq ?_
      refine tr_region ?_
      refine tl_step rfl (oj_val (y_move (fe_t rfl)) ?_)
      refine tl_step rfl (oj_val (y_assign (fe_t rfl)) ?_)
      refine tl_nil ?_
      refine tx_then ?_
      refine tr_ret ?_
      refine tx_ret (res1 Try.results126 (rok_t rfl)) (fun w' hS => ?_)
      refine ⟨k, ⟨hk, ht, hd⟩, rfl, ?_⟩
      first
        | (rw [show (neg && decide (k ≠ 0)) = neg from by rw [show decide (k ≠ 0) = true from decide_eq_true (by omega), Bool.and_true]]; exact hS)
        | (rw [show (neg && decide (k ≠ 0)) = false from by rw [show decide (k ≠ 0) = false from decide_eq_false (by omega), Bool.and_false]]; exact hS)

end Go.Proofs.Ytcpdelkamckmfaa.Big
