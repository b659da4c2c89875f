/- The Int library by the engine: trim. A number is a header block and a slice of its own for the digits; T is whatever else is held. -/
import Derived.Test.YtpknjfeiiaopgaaEB
import Derived.Test.YtpknjfeiiaopgaaBigF
namespace Go.Proofs.Ytpknjfeiiaopgaa.Big
open Go.RowKit Go.Proofs.Ytpknjfeiiaopgaa.E

/-- Digits as cells. -/
def cU (ds : List Int) : List Value := ds.map (.int .u32)
theorem cU_len (ds : List Int) : (cU ds).length = ds.length := by simp [cU]
theorem cU_take (ds : List Int) (k : Nat) : (cU ds).take (k * 1) = cU (ds.take k) := by simp [cU, List.map_take]
theorem cU_get {ds : List Int} {k : Nat} (h : k < ds.length) : (cU ds)[k]? = some (.int .u32 ds[k]) := by simp [cU, h]
theorem trim_step {ds : List Int} {k : Nat} (h0 : 0 < k) (hk : k ≤ ds.length) (hz : ds[k - 1]'(by omega) = 0) : dval (ds.take k) = dval (ds.take (k - 1)) := by
  obtain ⟨j, rfl⟩ : ∃ j, k = j + 1 := ⟨k - 1, by omega⟩
  simp only [Nat.add_sub_cancel] at hz ⊢
  rw [dval_take_succ (by omega), hz]
  simp
theorem trim_tk {ds : List Int} {k : Nat} (hk : k ≤ ds.length) (h : k = 0 ∨ ∃ hl : k - 1 < ds.length, ds[k - 1] ≠ 0) : Trim (ds.take k) := by
  intro hp
  rw [List.length_take, Nat.min_eq_left hk] at hp
  rcases h with rfl | ⟨hl, h⟩
  · omega
  · simp only [List.length_take, Nat.min_eq_left hk, List.getElem_take]
    exact h
/-- The header of a number. -/
abbrev hdr (b : Nat) (neg : Bool) (A : Option Addr) (n c : Nat) : Res := blk b [.bool neg, .slice A n c]
/-- Its digits. -/
abbrev dig (A : Option Addr) (n c : Nat) (ds : List Int) : Res := vec 195 1 (.slice A n c) n (cU ds)

set_option maxRecDepth 100000 in
set_option maxHeartbeats 1000000 in
theorem trimE {w0 w : World} {T : List Res} (b : Nat) (neg : Bool) (A : Option Addr) (n c : Nat) (ds : List Int) (hS : St w0 w (hdr b neg A n c :: dig A n c ds :: T)) (hn : ds.length = n) (hc : n ≤ c) (hm : n ≤ 140737488355328) (hD : Dig ds) :
    Calls Try.prog 128 #[.pointer (some ⟨b, 0, none⟩)] w fun e w' => ∃ k : Nat, (k ≤ n ∧ Trim (ds.take k) ∧ dval (ds.take k) = dval ds) ∧ e = .returned (.pointer (some ⟨b, 0, none⟩)) ∧ St w0 w' (hdr b (neg && decide (k ≠ 0)) A k c :: dig A k c (ds.take k) :: T) := by
  refine calls_tr Try.func128 Try.ntmps128 rfl rfl hS ?_
  refine tr_seq ?_
  refine tr_region ?_
  refine tl_step rfl (oj_val (y_assign fe_c) ?_)
  refine tl_nil ?_
  refine tx_then ?_
  refine tr_seq ?_
  refine tr_region ?_
  refine tl_step rfl (oj_val (y_move (fe_t rfl)) ?_)
  refine tl_step rfl (oj_val (y_nilCheck (fe_t rfl)) ?_)
  refine tl_step rfl (oj_val (y_fieldAddr (td := 146) Try.underlying148 rfl rfl Try.sizeOf146 (o' := 1) rfl (fe_t rfl)) ?_)
  refine tl_step rfl (oj_val (y_ldb 0 Try.isAgg146 (fe_t rfl) rfl rfl) ?_)
  refine tl_step rfl (oj_val (y_len Try.underlying146 (fe_t rfl)) ?_)
  refine tl_step rfl (oj_val (y_assign (fe_t rfl)) ?_)
  refine tl_nil ?_
  refine tx_then ?_
  refine tr_seq ?_
  refine tr_block ?_
  refine tr_loop1 [3, 9, 10, 11, 12, 13, 14, 15, 16, 17, 18, 19, 20, 21, 22, 23] (fun (k : Nat) => [(3, .int .i64 (k : Int))]) 0 (fun (k : Nat) => []) (fun (k : Nat) => k ≤ n ∧ dval (ds.take k) = dval ds) (fun (k : Nat) => k) (n) (cov_cons (by first | rfl | exact v_int (by omega) | exact v_bool (by simp [*])) (cov_nil)) (fun w h => h) ?_ ?_
  · try dsimp only
    exact ⟨Nat.le_refl _, by rw [List.take_of_length_le (by omega)]⟩
  intro k hp
  obtain ⟨hk, hd⟩ := hp
  refine tr_seq ?_
  refine tr_seq ?_
  refine tr_region ?_
  refine tl_step rfl (oj_val (y_move (fe_t rfl)) ?_)
  refine tl_step rfl (oj_val (y_gtr (fe_t rfl) fe_c) ?_)
  refine tl_step rfl (oj_val (y_move (fe_t rfl)) ?_)
  refine tl_splitp (d := 11) rfl (fun hq1 => ?_) (fun hq2 => ?_)
  · refine tl_want rfl rfl rfl (oj_val (y_move (fe_t rfl)) ?_)
    refine tl_want rfl rfl rfl (oj_val (y_nilCheck (fe_t rfl)) ?_)
    refine tl_want rfl rfl rfl (oj_val (y_fieldAddr (td := 146) Try.underlying148 rfl rfl Try.sizeOf146 (o' := 1) rfl (fe_t rfl)) ?_)
    refine tl_want rfl rfl rfl (oj_val (y_ldb 0 Try.isAgg146 (fe_t rfl) rfl rfl) ?_)
    refine tl_want rfl rfl rfl (oj_val (y_move (fe_t rfl)) ?_)
    refine tl_want rfl rfl rfl (oj_val (y_dec (fe_t rfl) fe_c (by omega)) ?_)
    refine tl_want rfl rfl rfl (oj_val (y_index Try.underlying146 Try.sizeOf195 (fe_t rfl) (fe_t rfl) (rdl_vec 1 rfl) (by rw [cU_len]; omega) (by decide) (by omega) (Nat.mul_one _)) ?_)
    refine tl_want rfl rfl rfl (oj_val (y_ld (v := .int .u32 (ds[k - 1]'(by omega))) Try.isAgg195 (fe_t rfl) (rdl_vec 1 rfl) (cU_get (by omega))) ?_)
    refine tl_want rfl rfl rfl (oj_val (y_eq (fe_t rfl) fe_c) ?_)
    refine tl_step rfl (oj_val (y_pickt (fe_t rfl) (fe_t rfl)) ?_)
    refine tl_nil ?_
    refine tx_then ?_
    refine tr_condp (fe_t rfl) (fun hq3 => ?_) (fun hq4 => ?_)
    · refine tr_skip ?_
      refine tx_then ?_
      refine tr_block ?_
      refine tr_region ?_
      refine tl_step rfl (oj_val (y_move (fe_t rfl)) ?_)
      refine tl_step rfl (oj_val (y_dec (fe_t rfl) fe_c (by omega)) ?_)
      refine tl_step rfl (oj_val (y_assign (fe_t rfl)) ?_)
      refine tl_nil ?_
      refine tx_in ?_
      apply tx_back1 (k - 1)
      · exact (cov_cons (by first | rfl | exact v_int (by omega) | exact v_bool (by simp [*])) (cov_nil))
      · repeat (first | exact over_nil | refine over_put rfl ?_ | refine over_drop rfl ?_)
      · exact fun w h => h
      · exact ⟨⟨by omega, (trim_step (by omega) (by omega) (by omega)).symm.trans hd⟩, by omega⟩
    · refine tr_exit ?_
      refine tx_then_exit ?_
      refine tx_then_exit ?_
      refine tx_in_exit ?_
      refine tx_then ?_
      refine tr_seq ?_
      have ht : Trim (ds.take k) := trim_tk (by omega) (by first | exact .inl (by omega) | exact .inr ⟨by omega, by omega⟩)
      refine tr_shrink 1 rfl hk ?_
      rw [cU_take]
      refine tr_region ?_
      refine tl_step rfl (oj_val (y_move (fe_t rfl)) ?_)
      refine tl_step rfl (oj_val (y_move (fe_t rfl)) ?_)
      refine tl_step rfl (oj_val (y_nilCheck (fe_t rfl)) ?_)
      refine tl_step rfl (oj_val (y_fieldAddr (td := 146) Try.underlying148 rfl rfl Try.sizeOf146 (o' := 1) rfl (fe_t rfl)) ?_)
      refine tl_step rfl (oj_val (y_ldb 0 Try.isAgg146 (fe_t rfl) rfl rfl) ?_)
      refine tl_step rfl (oj_val (y_move (fe_t rfl)) ?_)
      refine tl_step rfl (oj_val (y_cutH Try.underlying146 Try.sizeOf195 (fe_t rfl) (fe_t rfl) (by omega)) ?_)
      refine tl_step rfl (oj_val (y_nilCheck (fe_t rfl)) ?_)
      refine tl_step rfl (oj_val (y_fieldAddr (td := 146) Try.underlying148 rfl rfl Try.sizeOf146 (o' := 1) rfl (fe_t rfl)) ?_)
      refine tl_step rfl (oj_store1 0 Try.sizeOf146 (fe_t rfl) (fe_t rfl) rfl rfl rfl rfl (?_))
      refine tl_nil ?_
      refine tx_then ?_
      refine tr_seq ?_
      refine tr_seq ?_
      refine tr_region ?_
      refine tl_step rfl (oj_val (y_move (fe_t rfl)) ?_)
      refine tl_step rfl (oj_val (y_eq (fe_t rfl) fe_c) ?_)
      refine tl_nil ?_
      refine tx_then ?_
      refine tr_condp (fe_t rfl) (fun hq5 => ?_) (fun hq6 => ?_)
      · refine tr_region ?_
        refine tl_step rfl (oj_val (y_move (fe_t rfl)) ?_)
        refine tl_step rfl (oj_val (y_nilCheck (fe_t rfl)) ?_)
        refine tl_step rfl (oj_val (y_fieldAddr (td := 4) Try.underlying148 rfl rfl Try.sizeOf4 (o' := 0) rfl (fe_t rfl)) ?_)
        refine tl_step rfl (oj_store1 0 Try.sizeOf4 (fe_t rfl) fe_c rfl rfl rfl rfl (?_))
        refine tl_nil ?_
        refine tx_then ?_
        refine tr_seq ?_
        refine tr_region ?_
        refine tl_step rfl (oj_val (y_move (fe_t rfl)) ?_)
        refine tl_step rfl (oj_val (y_assign (fe_t rfl)) ?_)
        refine tl_nil ?_
        refine tx_then ?_
        refine tr_ret ?_
        refine tx_ret (res1 Try.results128 (rok_t rfl)) (fun w' hS => ?_)
        refine ⟨k, ⟨hk, ht, hd⟩, rfl, ?_⟩
        first
          | (rw [show (neg && decide (k ≠ 0)) = neg from by rw [show decide (k ≠ 0) = true from decide_eq_true (by omega), Bool.and_true]]; exact hS)
          | (rw [show (neg && decide (k ≠ 0)) = false from by rw [show decide (k ≠ 0) = false from decide_eq_false (by omega), Bool.and_false]]; exact hS)
      · refine tr_skip ?_
        refine tx_then ?_
        refine tr_seq ?_
        refine tr_region ?_
        refine tl_step rfl (oj_val (y_move (fe_t rfl)) ?_)
        refine tl_step rfl (oj_val (y_assign (fe_t rfl)) ?_)
        refine tl_nil ?_
        refine tx_then ?_
        refine tr_ret ?_
        refine tx_ret (res1 Try.results128 (rok_t rfl)) (fun w' hS => ?_)
        refine ⟨k, ⟨hk, ht, hd⟩, rfl, ?_⟩
        first
          | (rw [show (neg && decide (k ≠ 0)) = neg from by rw [show decide (k ≠ 0) = true from decide_eq_true (by omega), Bool.and_true]]; exact hS)
          | (rw [show (neg && decide (k ≠ 0)) = false from by rw [show decide (k ≠ 0) = false from decide_eq_false (by omega), Bool.and_false]]; exact hS)
  · refine tl_skip rfl rfl rfl rfl ?_
    refine tl_skip rfl rfl rfl rfl ?_
    refine tl_skip rfl rfl rfl rfl ?_
    refine tl_skip rfl rfl rfl rfl ?_
    refine tl_skip rfl rfl rfl rfl ?_
    refine tl_skip rfl rfl rfl rfl ?_
    refine tl_skip rfl rfl rfl rfl ?_
    refine tl_skip rfl rfl rfl rfl ?_
    refine tl_skip rfl rfl rfl rfl ?_
    refine tl_step rfl (oj_val (y_pickf (fe_t rfl) fe_c) ?_)
    refine tl_nil ?_
    refine tx_then ?_
    refine tr_condf (fe_t rfl) ?_
    refine tr_exit ?_
    refine tx_then_exit ?_
    refine tx_then_exit ?_
    refine tx_in_exit ?_
    refine tx_then ?_
    refine tr_seq ?_
    have ht : Trim (ds.take k) := trim_tk (by omega) (by first | exact .inl (by omega) | exact .inr ⟨by omega, by omega⟩)
    refine tr_shrink 1 rfl hk ?_
    rw [cU_take]
    refine tr_region ?_
    refine tl_step rfl (oj_val (y_move (fe_t rfl)) ?_)
    refine tl_step rfl (oj_val (y_move (fe_t rfl)) ?_)
    refine tl_step rfl (oj_val (y_nilCheck (fe_t rfl)) ?_)
    refine tl_step rfl (oj_val (y_fieldAddr (td := 146) Try.underlying148 rfl rfl Try.sizeOf146 (o' := 1) rfl (fe_t rfl)) ?_)
    refine tl_step rfl (oj_val (y_ldb 0 Try.isAgg146 (fe_t rfl) rfl rfl) ?_)
    refine tl_step rfl (oj_val (y_move (fe_t rfl)) ?_)
    refine tl_step rfl (oj_val (y_cutH Try.underlying146 Try.sizeOf195 (fe_t rfl) (fe_t rfl) (by omega)) ?_)
    refine tl_step rfl (oj_val (y_nilCheck (fe_t rfl)) ?_)
    refine tl_step rfl (oj_val (y_fieldAddr (td := 146) Try.underlying148 rfl rfl Try.sizeOf146 (o' := 1) rfl (fe_t rfl)) ?_)
    refine tl_step rfl (oj_store1 0 Try.sizeOf146 (fe_t rfl) (fe_t rfl) rfl rfl rfl rfl (?_))
    refine tl_nil ?_
    refine tx_then ?_
    refine tr_seq ?_
    refine tr_seq ?_
    refine tr_region ?_
    refine tl_step rfl (oj_val (y_move (fe_t rfl)) ?_)
    refine tl_step rfl (oj_val (y_eq (fe_t rfl) fe_c) ?_)
    refine tl_nil ?_
    refine tx_then ?_
    refine tr_condp (fe_t rfl) (fun hq7 => ?_) (fun hq8 => ?_)
    · refine tr_region ?_
      refine tl_step rfl (oj_val (y_move (fe_t rfl)) ?_)
      refine tl_step rfl (oj_val (y_nilCheck (fe_t rfl)) ?_)
      refine tl_step rfl (oj_val (y_fieldAddr (td := 4) Try.underlying148 rfl rfl Try.sizeOf4 (o' := 0) rfl (fe_t rfl)) ?_)
      refine tl_step rfl (oj_store1 0 Try.sizeOf4 (fe_t rfl) fe_c rfl rfl rfl rfl (?_))
      refine tl_nil ?_
      refine tx_then ?_
      refine tr_seq ?_
      refine tr_region ?_
      refine tl_step rfl (oj_val (y_move (fe_t rfl)) ?_)
      refine tl_step rfl (oj_val (y_assign (fe_t rfl)) ?_)
      refine tl_nil ?_
      refine tx_then ?_
      refine tr_ret ?_
      refine tx_ret (res1 Try.results128 (rok_t rfl)) (fun w' hS => ?_)
      refine ⟨k, ⟨hk, ht, hd⟩, rfl, ?_⟩
      first
        | (rw [show (neg && decide (k ≠ 0)) = neg from by rw [show decide (k ≠ 0) = true from decide_eq_true (by omega), Bool.and_true]]; exact hS)
        | (rw [show (neg && decide (k ≠ 0)) = false from by rw [show decide (k ≠ 0) = false from decide_eq_false (by omega), Bool.and_false]]; exact hS)
    · refine tr_skip ?_
      refine tx_then ?_
      refine tr_seq ?_
      refine tr_region ?_
      refine tl_step rfl (oj_val (y_move (fe_t rfl)) ?_)
      refine tl_step rfl (oj_val (y_assign (fe_t rfl)) ?_)
      refine tl_nil ?_
      refine tx_then ?_
      refine tr_ret ?_
      refine tx_ret (res1 Try.results128 (rok_t rfl)) (fun w' hS => ?_)
      refine ⟨k, ⟨hk, ht, hd⟩, rfl, ?_⟩
      first
        | (rw [show (neg && decide (k ≠ 0)) = neg from by rw [show decide (k ≠ 0) = true from decide_eq_true (by omega), Bool.and_true]]; exact hS)
        | (rw [show (neg && decide (k ≠ 0)) = false from by rw [show decide (k ≠ 0) = false from decide_eq_false (by omega), Bool.and_false]]; exact hS)

end Go.Proofs.Ytpknjfeiiaopgaa.Big

namespace Go.Proofs.Ytpknjfeiiaopgaa.Big
open Go.RowKit Go.Proofs.Ytpknjfeiiaopgaa.E

/-- A number as it lies: sign, array, length, room, digits. -/
structure Nm where
  neg : Bool
  A : Option Addr
  n : Nat
  c : Nat
  ds : List Int
structure Nm.is (q : Nm) (z : Int) : Prop where
  len : q.ds.length = q.n
  cap : q.n ≤ q.c
  dig : Dig q.ds
  trim : Trim q.ds
  nz : q.neg = true → q.ds ≠ []
  val : z = sg q.neg (dval q.ds)
abbrev Nm.h (q : Nm) (b : Nat) : Res := hdr b q.neg q.A q.n q.c
abbrev Nm.d (q : Nm) : Res := dig q.A q.n q.c q.ds

theorem trimN {w0 w : World} {T : List Res} (b : Nat) (neg : Bool) (A : Option Addr) (n c : Nat) (ds : List Int) (hS : St w0 w (hdr b neg A n c :: dig A n c ds :: T)) (hn : ds.length = n) (hc : n ≤ c) (hm : n ≤ 140737488355328) (hD : Dig ds) :
    Calls Try.prog 128 #[.pointer (some ⟨b, 0, none⟩)] w fun e w' => ∃ q : Nm, q.is (sg neg (dval ds)) ∧ e = .returned (.pointer (some ⟨b, 0, none⟩)) ∧ St w0 w' (q.h b :: q.d :: T) := by
  refine (trimE b neg A n c ds hS hn hc hm hD).mono ?_
  rintro e w' ⟨k, ⟨hk, ht, hd⟩, he, hS'⟩
  refine ⟨⟨neg && decide (k ≠ 0), A, k, c, ds.take k⟩, ⟨?_, by dsimp only; omega, hD.take k, ht, fun h => ?_, ?_⟩, he, hS'⟩
  · simp; omega
  · simp only [Bool.and_eq_true, decide_eq_true_eq] at h
    intro e
    have := congrArg List.length e
    rw [List.length_take] at this
    simp only [List.length_nil] at this
    omega
  · dsimp only
    rw [hd]
    by_cases h0 : k = 0
    · subst h0
      have : dval ds = 0 := by rw [← hd]; simp [dval]
      rw [this]
      cases neg <;> simp [sg]
    · simp [h0]
theorem two_dg (n : Int) (h0 : 0 ≤ n) (h1 : n ≤ 18446744073709551615) : Dig [n % 4294967296, n / 4294967296] ∧ dval [n % 4294967296, n / 4294967296] = n := by
  constructor
  · intro x hx
    simp only [List.mem_cons, List.not_mem_nil, or_false] at hx
    rcases hx with rfl | rfl <;> omega
  · simp only [dval]
    omega
theorem wrap_lo (v : Int) : IntKind.u32.wrap v = v % 4294967296 := by simp [IntKind.wrap, IntKind.signed, IntKind.bits]
theorem wrap_hi {v : Int} (h0 : 0 ≤ v) (h1 : v ≤ 18446744073709551615) : IntKind.u32.wrap (v.fdiv (2 ^ (min (32 : Int).toNat IntKind.u64.bits))) = v / 4294967296 := by
  have : v.fdiv (2 ^ (min (32 : Int).toNat IntKind.u64.bits)) = v / 4294967296 := by
    rw [show (2 : Int) ^ (min (32 : Int).toNat IntKind.u64.bits) = 4294967296 from by decide]
    exact Int.fdiv_eq_ediv_of_nonneg _ (by omega)
  rw [this, wrap_lo]
  omega
theorem nm_zero : (⟨false, none, 0, 0, []⟩ : Nm).is 0 := ⟨rfl, Nat.le_refl _, Dig.nil, Trim.nil, (fun h => by cases h), (by simp [sg, dval])⟩

set_option maxRecDepth 100000 in
set_option maxHeartbeats 1000000 in
theorem setuE {w0 w : World} {T : List Res} (b : Nat) (q : Nm) (hS : St w0 w (q.h b :: q.d :: T)) (v : Int) (h0 : 0 ≤ v) (h1 : v ≤ 18446744073709551615) :
    Calls Try.prog 136 #[.pointer (some ⟨b, 0, none⟩), .int .u64 v] w fun e w' => ∃ q' : Nm, q'.is v ∧ e = .returned (.pointer (some ⟨b, 0, none⟩)) ∧ St w0 w' (q'.h b :: q'.d :: T) := by
  refine calls_tr Try.func136 Try.ntmps136 rfl rfl hS ?_
  refine tr_seq ?_
  refine tr_region ?_
  refine tl_step rfl (oj_val (y_assign fe_c) ?_)
  refine tl_nil ?_
  refine tx_then ?_
  refine tr_seq ?_
  refine tr_region ?_
  refine tl_step rfl (oj_val (y_move (fe_t rfl)) ?_)
  refine tl_step rfl (oj_val (y_move (fe_t rfl)) ?_)
  refine tl_step rfl (oj_val (y_move (fe_t rfl)) ?_)
  refine tl_step rfl (oj_val (y_conv Try.underlying117 Try.underlying195 (fe_t rfl)) ?_)
  refine tl_step rfl (oj_val (y_move (fe_t rfl)) ?_)
  refine tl_step rfl (oj_val (y_shr (fe_t rfl) fe_c (by omega)) ?_)
  refine tl_step rfl (oj_val (y_conv Try.underlying117 Try.underlying195 (fe_t rfl)) ?_)
  refine tl_step rfl (oj_lit2 (k := .u32) (a := v % 4294967296) (b := v / 4294967296) Try.underlying146 Try.sizeOf195 Try.zeroValue195 (fe_i (wrap_lo v) rfl) (fe_i (wrap_hi h0 h1) rfl) (fun g => ?_))
  refine tl_step rfl (oj_val (y_nilCheck (fe_t rfl)) ?_)
  refine tl_step rfl (oj_val (y_fieldAddr (td := 4) Try.underlying148 rfl rfl Try.sizeOf4 (o' := 0) rfl (fe_t rfl)) ?_)
  refine tl_step rfl (oj_store1 1 Try.sizeOf4 (fe_t rfl) fe_c rfl rfl rfl rfl (?_))
  refine tl_step rfl (oj_val (y_nilCheck (fe_t rfl)) ?_)
  refine tl_step rfl (oj_val (y_fieldAddr (td := 146) Try.underlying148 rfl rfl Try.sizeOf146 (o' := 1) rfl (fe_t rfl)) ?_)
  refine tl_step rfl (oj_store1 1 Try.sizeOf146 (fe_t rfl) (fe_t rfl) rfl rfl rfl rfl (?_))
  refine tl_nil ?_
  refine tx_then ?_
  refine tr_seq ?_
  refine tr_region ?_
  refine tl_step rfl (oj_val (y_move (fe_t rfl)) ?_)
  refine tl_step rfl (oj_call2 Try.call128 fe_f (fel_cons (fe_t rfl) fel_nil) (fun w' hS => trimN b false (some ⟨g, 0, none⟩) 2 2 [v % 4294967296, v / 4294967296] (pickT (l := [_, _, _]) hS [1, 0] rfl (by decide)) rfl (by omega) (by omega) (two_dg v h0 h1).1) (fun q1 hq1 => ?_))
  refine tl_step rfl (oj_val (y_assign (fe_t rfl)) ?_)
  refine tl_nil ?_
  refine tx_then ?_
  refine tr_ret ?_
  refine tx_ret (res1 Try.results136 (rok_t rfl)) (fun w' hS => ?_)
  rw [show sg false (dval [v % 4294967296, v / 4294967296]) = v from (two_dg v h0 h1).2] at hq1
  exact ⟨q1, hq1, rfl, hS⟩

end Go.Proofs.Ytpknjfeiiaopgaa.Big

namespace Go.Proofs.Ytpknjfeiiaopgaa.Big
open Go.RowKit Go.Proofs.Ytpknjfeiiaopgaa.E

theorem neg_nm {q : Nm} {u : Int} (h : q.is u) (hu : 0 < u) : (⟨true, q.A, q.n, q.c, q.ds⟩ : Nm).is (-u) := by
  have h0 := dval_nonneg h.dig
  have hv := h.val
  have hn : q.neg = false := by
    cases hn : q.neg
    · rfl
    · rw [hn] at hv
      simp [sg] at hv
      omega
  rw [hn] at hv
  simp [sg] at hv
  refine ⟨h.len, h.cap, h.dig, h.trim, fun _ e => ?_, by simp [sg]; omega⟩
  dsimp only at e
  rw [e] at hv
  simp [dval] at hv
  omega
set_option maxRecDepth 100000 in
set_option maxHeartbeats 1000000 in
theorem setiE {w0 w : World} {T : List Res} (b : Nat) (q : Nm) (hS : St w0 w (q.h b :: q.d :: T)) (v : Int) (h0 : -9223372036854775808 ≤ v) (h1 : v ≤ 9223372036854775807) :
    Calls Try.prog 117 #[.pointer (some ⟨b, 0, none⟩), .int .i64 v] w fun e w' => ∃ q' : Nm, q'.is v ∧ e = .returned (.pointer (some ⟨b, 0, none⟩)) ∧ St w0 w' (q'.h b :: q'.d :: T) := by
  refine calls_tr Try.func117 Try.ntmps117 rfl rfl hS ?_
  refine tr_seq ?_
  refine tr_region ?_
  refine tl_step rfl (oj_val (y_assign fe_c) ?_)
  refine tl_nil ?_
  refine tx_then ?_
  refine tr_seq ?_
  refine tr_seq ?_
  refine tr_region ?_
  refine tl_step rfl (oj_val (y_move (fe_t rfl)) ?_)
  refine tl_step rfl (oj_val (y_lss (fe_t rfl) fe_c) ?_)
  refine tl_nil ?_
  refine tx_then ?_
  refine tr_condp (fe_t rfl) (fun hq1 => ?_) (fun hq2 => ?_)
  · refine tr_seq ?_
    refine tr_region ?_
    refine tl_step rfl (oj_val (y_move (fe_t rfl)) ?_)
    refine tl_step rfl (oj_val (y_move (fe_t rfl)) ?_)
    refine tl_step rfl (oj_val (y_conv Try.underlying2 Try.underlying117 (fe_t rfl)) ?_)
    refine tl_step rfl (oj_val (y_as (y_negk (fe_t rfl)) (wrap_neg h0 (by omega))) ?_)
    refine tl_step rfl (oj_call2 Try.call136 fe_f (fel_cons (fe_t rfl) (fel_cons (fe_t rfl) fel_nil)) (fun w' hS => setuE b q hS (-v) (by omega) (by omega)) (fun q1 hq1 => ?_))
    refine tl_nil ?_
    refine tx_then ?_
    refine tr_seq ?_
    refine tr_region ?_
    refine tl_step rfl (oj_val (y_move (fe_t rfl)) ?_)
    refine tl_step rfl (oj_val (y_nilCheck (fe_t rfl)) ?_)
    refine tl_step rfl (oj_val (y_fieldAddr (td := 4) Try.underlying148 rfl rfl Try.sizeOf4 (o' := 0) rfl (fe_t rfl)) ?_)
    refine tl_step rfl (oj_store1 0 Try.sizeOf4 (fe_t rfl) fe_c rfl rfl rfl rfl (?_))
    refine tl_nil ?_
    refine tx_then ?_
    refine tr_seq ?_
    refine tr_region ?_
    refine tl_step rfl (oj_val (y_move (fe_t rfl)) ?_)
    refine tl_step rfl (oj_val (y_assign (fe_t rfl)) ?_)
    refine tl_nil ?_
    refine tx_then ?_
    refine tr_ret ?_
    refine tx_then_ret ?_
    refine tx_ret (res1 Try.results117 (rok_t rfl)) (fun w' hS => ?_)
    have hq2 := neg_nm hq1 (by omega)
    rw [Int.neg_neg] at hq2
    exact ⟨_, hq2, rfl, hS⟩
  · refine tr_skip ?_
    refine tx_then ?_
    refine tr_seq ?_
    refine tr_region ?_
    refine tl_step rfl (oj_val (y_move (fe_t rfl)) ?_)
    refine tl_step rfl (oj_val (y_move (fe_t rfl)) ?_)
    refine tl_step rfl (oj_val (y_convi Try.underlying2 Try.underlying117 (fe_t rfl) (IntWalk.u64_in _ (by omega))) ?_)
    refine tl_step rfl (oj_call2 Try.call136 fe_f (fel_cons (fe_t rfl) (fel_cons (fe_t rfl) fel_nil)) (fun w' hS => setuE b q hS (v) (by omega) (by omega)) (fun q1 hq1 => ?_))
    refine tl_step rfl (oj_val (y_assign (fe_t rfl)) ?_)
    refine tl_nil ?_
    refine tx_then ?_
    refine tr_ret ?_
    refine tx_ret (res1 Try.results117 (rok_t rfl)) (fun w' hS => ?_)
    exact ⟨q1, hq1, rfl, hS⟩

set_option maxRecDepth 100000 in
set_option maxHeartbeats 1000000 in
theorem newE {w0 w : World} {T : List Res} (hS : St w0 w T) (v : Int) (h0 : -9223372036854775808 ≤ v) (h1 : v ≤ 9223372036854775807) :
    Calls Try.prog 82 #[.int .i64 v] w fun e w' => ∃ p : Nat × Nm, p.2.is v ∧ e = .returned (.pointer (some ⟨p.1, 0, none⟩)) ∧ St w0 w' (p.2.h p.1 :: p.2.d :: T) := by
  refine calls_tr Try.func82 Try.ntmps82 rfl rfl hS ?_
  refine tr_seq ?_
  refine tr_region ?_
  refine tl_step rfl (oj_val (y_assign fe_c) ?_)
  refine tl_nil ?_
  refine tx_then ?_
  refine tr_seq ?_
  refine tr_region ?_
  refine tl_add (r := dig none 0 0 []) vec_nil rfl ?_
  refine tl_step rfl (oj_alloc Try.zeroValue148 (fun b => ?_))
  refine tl_step rfl (oj_val (y_move (fe_t rfl)) ?_)
  refine tl_step rfl (oj_call2 Try.call117 fe_f (fel_cons (fe_t rfl) (fel_cons (fe_t rfl) fel_nil)) (fun w' hS => setiE b ⟨false, none, 0, 0, []⟩ hS v h0 h1) (fun q1 hq1 => ?_))
  refine tl_step rfl (oj_val (y_assign (fe_t rfl)) ?_)
  refine tl_nil ?_
  refine tx_then ?_
  refine tr_ret ?_
  refine tx_ret (res1 Try.results82 (rok_t rfl)) (fun w' hS => ?_)
  exact ⟨(b, q1), hq1, rfl, hS⟩

end Go.Proofs.Ytpknjfeiiaopgaa.Big

namespace Go.Proofs.Ytpknjfeiiaopgaa.Big
open Go.RowKit Go.Proofs.Ytpknjfeiiaopgaa.E

theorem mul_wrap {x y z c : Int} (hx : 0 ≤ x ∧ x < 4294967296) (hy : 0 ≤ y ∧ y < 4294967296) (hz : 0 ≤ z ∧ z < 4294967296) (hc : 0 ≤ c ∧ c < 4294967296) : IntKind.u64.wrap (c + IntKind.u64.wrap (IntKind.u64.wrap (x * y) + z)) = c + (x * y + z) := by
  have h0 : 0 ≤ x * y := Int.mul_nonneg hx.1 hy.1
  have h1 : x * y ≤ 4294967295 * 4294967295 := Int.mul_le_mul (by omega) (by omega) hy.1 (by omega)
  rw [IntWalk.u64_in (x * y) (by omega), IntWalk.u64_in (x * y + z) (by omega), IntWalk.u64_in _ (by omega)]
theorem shr32 {t : Int} (h : 0 ≤ t) : t.fdiv (2 ^ (min (32 : Int).toNat IntKind.u64.bits)) = t / 4294967296 := by
  rw [show (2 : Int) ^ (min (32 : Int).toNat IntKind.u64.bits) = 4294967296 from by decide]
  exact Int.fdiv_eq_ediv_of_nonneg _ (by omega)
theorem sg_mul (a b : Bool) (u v : Int) : sg (!(a == b)) (u * v) = sg a u * sg b v := by cases a <;> cases b <;> simp [sg, Int.neg_mul, Int.mul_neg]

set_option maxRecDepth 100000 in
set_option maxHeartbeats 2000000 in
theorem mulE {w0 w : World} {T : List Res} (b bx b3 : Nat) (q x y : Nm) (zx zy : Int) (hS : St w0 w (q.h b :: q.d :: x.h bx :: x.d :: y.h b3 :: y.d :: T)) (hx : x.is zx) (hy : y.is zy) (lx : x.n ≤ 100000) (ly : y.n ≤ 100000) :
    Calls Try.prog 103 #[.pointer (some ⟨b, 0, none⟩), .pointer (some ⟨bx, 0, none⟩), .pointer (some ⟨b3, 0, none⟩)] w fun e w' => ∃ q' : Nm, q'.is (zx * zy) ∧ e = .returned (.pointer (some ⟨b, 0, none⟩)) ∧ St w0 w' (q'.h b :: q'.d :: x.h bx :: x.d :: y.h b3 :: y.d :: T) := by
  have lx1 := hx.len
  have ly1 := hy.len
  refine calls_tr Try.func103 Try.ntmps103 rfl rfl hS ?_
  refine tr_seq ?_
  refine tr_region ?_
  refine tl_step rfl (oj_val (y_assign fe_c) ?_)
  refine tl_nil ?_
  refine tx_then ?_
  refine tr_seq ?_
  refine tr_draw (sel _ [0, 1, 2, 3, 4, 5]) (fun w h => h.sel _ rfl (by decide)) rfl ?_
  refine ta_float (i := 0) rfl (by kernel_rfl) (wants_none rfl) (yq_of (y_move (fe_t rfl))) ?_
  refine ta_float (i := 1) rfl (by kernel_rfl) (wants_none rfl) (yq_of (y_nilCheck (fe_t rfl))) ?_
  refine ta_float (i := 2) rfl (by kernel_rfl) (wants_none rfl) (yq_of (y_fieldAddr (td := 146) Try.underlying148 rfl rfl Try.sizeOf146 (o' := 1) rfl (fe_t rfl))) ?_
  refine ta_float (i := 3) rfl (by kernel_rfl) (wants_none rfl) (yq_of (y_ldb 2 Try.isAgg146 (fe_t rfl) rfl rfl)) ?_
  refine ta_float (i := 4) rfl (by kernel_rfl) (wants_none rfl) (yq_of (y_len Try.underlying146 (fe_t rfl))) ?_
  refine ta_float (i := 5) rfl (by kernel_rfl) (wants_none rfl) (yq_of (y_move (fe_t rfl))) ?_
  refine ta_float (i := 6) rfl (by kernel_rfl) (wants_none rfl) (yq_of (y_nilCheck (fe_t rfl))) ?_
  refine ta_float (i := 7) rfl (by kernel_rfl) (wants_none rfl) (yq_of (y_fieldAddr (td := 146) Try.underlying148 rfl rfl Try.sizeOf146 (o' := 1) rfl (fe_t rfl))) ?_
  refine ta_float (i := 8) rfl (by kernel_rfl) (wants_none rfl) (yq_of (y_ldb 4 Try.isAgg146 (fe_t rfl) rfl rfl)) ?_
  refine ta_float (i := 9) rfl (by kernel_rfl) (wants_none rfl) (yq_of (y_len Try.underlying146 (fe_t rfl))) ?_
  refine ta_float (i := 10) rfl (by kernel_rfl) (wants_none rfl) (yq_of (y_as (b := ((x.n + y.n : Nat) : Int)) (y_add (fe_t rfl) (fe_t rfl) (by omega)) (by omega))) ?_
  refine ta_one (i := 11) rfl (by kernel_rfl) (wants_none rfl) (oj_make (n := x.n + y.n) (z := (.int .u32 0)) (bytes := 4) Try.underlying146 (by kernel_rfl) (fe_t rfl) (fe_t rfl) rfl ⟨by omega, by decide⟩ (fun g => ⟨fun w h => h.pick [1, 2, 3, 4, 5, 6] _ rfl (by decide), ?_⟩))
  refine ta_float (i := 12) rfl (by kernel_rfl) (wants_none rfl) (yq_of (y_assign (fe_t rfl))) ?_
  refine ta_done (by kernel_rfl) ?_
  refine tx_then ?_
  refine tr_seq ?_
  refine tr_seq ?_
  refine tr_region ?_
  refine tl_step rfl (oj_val (y_move (fe_t rfl)) ?_)
  refine tl_step rfl (oj_val (y_nilCheck (fe_t rfl)) ?_)
  refine tl_step rfl (oj_val (y_fieldAddr (td := 146) Try.underlying148 rfl rfl Try.sizeOf146 (o' := 1) rfl (fe_t rfl)) ?_)
  refine tl_step rfl (oj_val (y_ldb 3 Try.isAgg146 (fe_t rfl) rfl rfl) ?_)
  refine tl_step rfl (oj_val (y_len Try.underlying146 (fe_t rfl)) ?_)
  refine tl_step rfl (oj_val (y_move fe_c) ?_)
  refine tl_nil ?_
  refine tx_then ?_
  refine tr_block ?_
  refine tr_loop3 [8, 9, 10, 11, 12, 30, 31, 32, 33, 34, 35, 36, 37, 38, 39, 40, 41, 42, 43, 44, 45, 46, 47, 48, 49, 50, 51, 52, 53, 54, 55, 56, 57, 58, 59, 60, 61, 62, 63, 64, 65, 66, 67, 68, 69, 70, 71, 72, 73, 74, 75, 76, 77, 78, 79, 80, 81] (fun (i : Nat) (zs : List Int) (vx : List Value) => [(30, .int .i64 (i : Int))]) 0 (fun (i : Nat) (zs : List Int) (vx : List Value) => [(0, vec 195 1 (.slice (some ⟨g, 0, none⟩) (x.n + y.n) (x.n + y.n)) (x.n + y.n) vx)]) (fun (i : Nat) (zs : List Int) (vx : List Value) => i ≤ x.n ∧ vx = cU zs ∧ MulInv x.ds y.ds zs i 0 0) (fun (i : Nat) (zs : List Int) (vx : List Value) => x.n - i) (0) (List.replicate (x.ds.length + y.ds.length) 0) (List.replicate (x.n + y.n) (.int .u32 0)) (cov_cons (by first | rfl | exact v_int (by omega) | exact v_bool (by simp [*])) (cov_nil)) (fun w h => h) ?_ ?_
  · try dsimp only
    exact ⟨by omega, by simp [cU, lx1, ly1], mul_start _ _⟩
  intro i zs vx hp
  obtain ⟨hi, hvx, hmi⟩ := hp
  have hzl := hmi.2.2.1
  refine tr_seq ?_
  refine tr_region ?_
  refine tl_step rfl (oj_val (y_lss (fe_t rfl) (fe_t rfl)) ?_)
  refine tl_nil ?_
  refine tx_then ?_
  refine tr_seq ?_
  refine tr_condp (fe_t rfl) (fun hq1 => ?_) (fun hq2 => ?_)
  · refine tr_skip ?_
    refine tx_then ?_
    refine tr_seq ?_
    refine tr_block ?_
    refine tr_seq ?_
    refine tr_region ?_
    refine tl_step rfl (oj_val (y_move (fe_t rfl)) ?_)
    refine tl_step rfl (oj_val (y_index Try.underlying146 Try.sizeOf195 (fe_t rfl) (fe_t rfl) (rdl_vec 4 rfl) (by rw [cU_len, hx.len, Nat.mul_one]) (by decide) (by omega) (Nat.mul_one _)) ?_)
    refine tl_step rfl (oj_val (y_ld (v := .int .u32 (x.ds[i]'(by omega))) Try.isAgg195 (fe_t rfl) (rdl_vec 4 rfl) (cU_get (by omega))) ?_)
    refine tl_step rfl (oj_val (y_assign (fe_t rfl)) ?_)
    refine tl_step rfl (oj_val (y_assign (fe_t rfl)) ?_)
    refine tl_nil ?_
    refine tx_then ?_
    refine tr_seq ?_
    refine tr_region ?_
    refine tl_step rfl (oj_val (y_assign fe_c) ?_)
    refine tl_nil ?_
    refine tx_then ?_
    refine tr_seq ?_
    refine tr_seq ?_
    refine tr_region ?_
    refine tl_step rfl (oj_val (y_move (fe_t rfl)) ?_)
    refine tl_step rfl (oj_val (y_nilCheck (fe_t rfl)) ?_)
    refine tl_step rfl (oj_val (y_fieldAddr (td := 146) Try.underlying148 rfl rfl Try.sizeOf146 (o' := 1) rfl (fe_t rfl)) ?_)
    refine tl_step rfl (oj_val (y_ldb 5 Try.isAgg146 (fe_t rfl) rfl rfl) ?_)
    refine tl_step rfl (oj_val (y_len Try.underlying146 (fe_t rfl)) ?_)
    refine tl_step rfl (oj_val (y_move fe_c) ?_)
    refine tl_nil ?_
    refine tx_then ?_
    refine tr_block ?_
    refine tr_loop4 [10, 11, 12, 40, 41, 42, 43, 44, 45, 46, 47, 48, 49, 50, 51, 52, 53, 54, 55, 56, 57, 58, 59, 60, 61, 62, 63, 64, 65, 66, 67, 68, 69] (fun (j : Nat) (zs2 : List Int) (vx2 : List Value) (cc : Int) => [(40, .int .i64 (j : Int)), (10, .int .u64 cc)]) 0 (fun (j : Nat) (zs2 : List Int) (vx2 : List Value) (cc : Int) => [(0, vec 195 1 (.slice (some ⟨g, 0, none⟩) (x.n + y.n) (x.n + y.n)) (x.n + y.n) vx2)]) (fun (j : Nat) (zs2 : List Int) (vx2 : List Value) (cc : Int) => j ≤ y.n ∧ vx2 = cU zs2 ∧ MulInv x.ds y.ds zs2 i j cc) (fun (j : Nat) (zs2 : List Int) (vx2 : List Value) (cc : Int) => y.n - j) (0) (zs) (vx) (0) (cov_cons (by first | rfl | exact v_int (by omega) | exact v_bool (by simp [*])) (cov_cons (by first | rfl | exact v_int (by omega) | exact v_bool (by simp [*])) (cov_nil))) (fun w h => h) ?_ ?_
    · try dsimp only
      exact ⟨by omega, hvx, hmi⟩
    intro j zs2 vx2 cc hp
    obtain ⟨hj, hvx2, hmi2⟩ := hp
    have hzl2 := hmi2.2.2.1
    refine tr_seq ?_
    refine tr_region ?_
    refine tl_step rfl (oj_val (y_lss (fe_t rfl) (fe_t rfl)) ?_)
    refine tl_nil ?_
    refine tx_then ?_
    refine tr_seq ?_
    refine tr_condp (fe_t rfl) (fun hq3 => ?_) (fun hq4 => ?_)
    · refine tr_skip ?_
      refine tx_then ?_
      refine tr_seq ?_
      refine tr_block ?_
      refine tr_seq ?_
      refine tr_region ?_
      refine tl_step rfl (oj_val (y_move (fe_t rfl)) ?_)
      refine tl_step rfl (oj_val (y_index Try.underlying146 Try.sizeOf195 (fe_t rfl) (fe_t rfl) (rdl_vec 6 rfl) (by rw [cU_len, hy.len, Nat.mul_one]) (by decide) (by omega) (Nat.mul_one _)) ?_)
      refine tl_step rfl (oj_val (y_ld (v := .int .u32 (y.ds[j]'(by omega))) Try.isAgg195 (fe_t rfl) (rdl_vec 6 rfl) (cU_get (by omega))) ?_)
      refine tl_step rfl (oj_val (y_assign (fe_t rfl)) ?_)
      refine tl_step rfl (oj_val (y_assign (fe_t rfl)) ?_)
      refine tl_nil ?_
      refine tx_then ?_
      refine tr_seq ?_
      have hxi := hx.dig.get (k := i) (by omega)
      have hyj := hy.dig.get (k := j) (by omega)
      have hzk := hmi2.2.2.2.1.get (k := i + j) (by omega)
      have hms := mul_step hmi2 hx.dig hy.dig (i := i) (j := j) (by omega) (by omega) (by omega) rfl
      refine tr_region ?_
      refine tl_step rfl (oj_val (y_move (fe_t rfl)) ?_)
      refine tl_step rfl (oj_val (y_move (fe_t rfl)) ?_)
      refine tl_step rfl (oj_val (y_convi Try.underlying195 Try.underlying117 (fe_t rfl) (IntWalk.u64_in _ (by omega))) ?_)
      refine tl_step rfl (oj_val (y_move (fe_t rfl)) ?_)
      refine tl_step rfl (oj_val (y_convi Try.underlying195 Try.underlying117 (fe_t rfl) (IntWalk.u64_in _ (by omega))) ?_)
      refine tl_step rfl (oj_val (y_mulk (fe_t rfl) (fe_t rfl)) ?_)
      refine tl_step rfl (oj_val (y_move (fe_t rfl)) ?_)
      refine tl_step rfl (oj_val (y_move (fe_t rfl)) ?_)
      refine tl_step rfl (oj_val (y_move (fe_t rfl)) ?_)
      refine tl_step rfl (oj_val (y_as (b := ((i + j : Nat) : Int)) (y_add (fe_t rfl) (fe_t rfl) (by omega)) (by omega)) ?_)
      refine tl_step rfl (oj_val (y_index Try.underlying146 Try.sizeOf195 (fe_t rfl) (fe_t rfl) (rdl_vec 0 rfl) (by first | (rw [hvx2, cU_len]; omega) | (rw [hvx, cU_len]; omega) | (rw [hvx2, List.length_set, cU_len]; omega)) (by decide) (by omega) (Nat.mul_one _)) ?_)
      refine tl_step rfl (oj_val (y_ld (v := .int .u32 (zs2[i + j]'(by omega))) Try.isAgg195 (fe_t rfl) (rdl_vec 0 rfl) (by rw [hvx2]; exact cU_get (by omega))) ?_)
      refine tl_step rfl (oj_val (y_convi Try.underlying195 Try.underlying117 (fe_t rfl) (IntWalk.u64_in _ (by omega))) ?_)
      refine tl_step rfl (oj_val (y_addk (fe_t rfl) (fe_t rfl)) ?_)
      refine tl_step rfl (oj_val (y_as (y_addk (fe_t rfl) (fe_t rfl)) (mul_wrap hxi hyj hzk ⟨hmi2.1, hmi2.2.1⟩)) ?_)
      refine tl_step rfl (oj_val (y_assign (fe_t rfl)) ?_)
      refine tl_nil ?_
      refine tx_then ?_
      refine tr_seq ?_
      refine tr_region ?_
      refine tl_step rfl (oj_val (y_move (fe_t rfl)) ?_)
      refine tl_step rfl (oj_val (y_move (fe_t rfl)) ?_)
      refine tl_step rfl (oj_val (y_move (fe_t rfl)) ?_)
      refine tl_step rfl (oj_val (y_as (b := ((i + j : Nat) : Int)) (y_add (fe_t rfl) (fe_t rfl) (by omega)) (by omega)) ?_)
      refine tl_step rfl (oj_val (y_move (fe_t rfl)) ?_)
      refine tl_step rfl (oj_val (y_as (y_conv Try.underlying117 Try.underlying195 (fe_t rfl)) (wrap_lo _)) ?_)
      refine tl_step rfl (oj_val (y_index Try.underlying146 Try.sizeOf195 (fe_t rfl) (fe_t rfl) (rdl_vec 0 rfl) (by first | (rw [hvx2, cU_len]; omega) | (rw [hvx, cU_len]; omega) | (rw [hvx2, List.length_set, cU_len]; omega)) (by decide) (by omega) (Nat.mul_one _)) ?_)
      refine tl_step rfl (oj_storeE1 (i := 0) Try.sizeOf195 (fe_t rfl) (fe_t rfl) rfl rfl rfl (by omega) (?_))
      refine tl_nil ?_
      refine tx_then ?_
      refine tr_region ?_
      refine tl_step rfl (oj_val (y_move (fe_t rfl)) ?_)
      refine tl_step rfl (oj_val (y_as (y_shr (fe_t rfl) fe_c (by decide)) (shr32 hms.1.1)) ?_)
      refine tl_step rfl (oj_val (y_assign (fe_t rfl)) ?_)
      refine tl_nil ?_
      refine tx_in ?_
      refine tx_then ?_
      refine tr_region ?_
      refine tl_step rfl (oj_val (y_inc (fe_t rfl) fe_c (by omega)) ?_)
      refine tl_step rfl (oj_val (y_move (fe_t rfl)) ?_)
      refine tl_nil ?_
      apply tx_back4 (j + 1) (zs2.set (i + j) ((cc + (x.ds[i]'(by omega) * y.ds[j]'(by omega) + zs2[i + j]'(by omega))) % 4294967296)) (_) ((cc + (x.ds[i]'(by omega) * y.ds[j]'(by omega) + zs2[i + j]'(by omega))) / 4294967296)
      · exact (cov_cons (by first | rfl | exact v_int (by omega) | exact v_bool (by simp [*])) (cov_cons (by first | rfl | exact v_int (by omega) | exact v_bool (by simp [*])) (cov_nil)))
      · repeat (first | exact over_nil | refine over_put rfl ?_ | refine over_drop rfl ?_)
      · exact fun w h => h
      · exact ⟨⟨by omega, by rw [hvx2, cU, cU, List.map_set], hms.2⟩, by omega⟩
    · refine tr_exit ?_
      refine tx_then_exit ?_
      refine tx_then_exit ?_
      refine tx_in_exit ?_
      refine tx_then ?_
      have hcc := hmi2.1
      have hcd := hmi2.2.1
      refine tr_region ?_
      refine tl_step rfl (oj_val (y_move (fe_t rfl)) ?_)
      refine tl_step rfl (oj_val (y_move (fe_t rfl)) ?_)
      refine tl_step rfl (oj_val (y_move (fe_t rfl)) ?_)
      refine tl_step rfl (oj_val (y_nilCheck (fe_t rfl)) ?_)
      refine tl_step rfl (oj_val (y_fieldAddr (td := 146) Try.underlying148 rfl rfl Try.sizeOf146 (o' := 1) rfl (fe_t rfl)) ?_)
      refine tl_step rfl (oj_val (y_ldb 5 Try.isAgg146 (fe_t rfl) rfl rfl) ?_)
      refine tl_step rfl (oj_val (y_len Try.underlying146 (fe_t rfl)) ?_)
      refine tl_step rfl (oj_val (y_as (b := ((i + y.n : Nat) : Int)) (y_add (fe_t rfl) (fe_t rfl) (by omega)) (by omega)) ?_)
      refine tl_step rfl (oj_val (y_move (fe_t rfl)) ?_)
      refine tl_step rfl (oj_val (y_convi Try.underlying117 Try.underlying195 (fe_t rfl) (IntWalk.u32_in _ (by omega))) ?_)
      refine tl_step rfl (oj_val (y_index Try.underlying146 Try.sizeOf195 (fe_t rfl) (fe_t rfl) (rdl_vec 0 rfl) (by first | (rw [hvx2, cU_len]; omega) | (rw [hvx, cU_len]; omega) | (rw [hvx2, List.length_set, cU_len]; omega)) (by decide) (by omega) (Nat.mul_one _)) ?_)
      refine tl_step rfl (oj_storeE1 (i := 0) Try.sizeOf195 (fe_t rfl) (fe_t rfl) rfl rfl rfl (by omega) (?_))
      refine tl_nil ?_
      refine tx_in ?_
      refine tx_then ?_
      refine tr_region ?_
      refine tl_step rfl (oj_val (y_inc (fe_t rfl) fe_c (by omega)) ?_)
      refine tl_step rfl (oj_val (y_move (fe_t rfl)) ?_)
      refine tl_nil ?_
      apply tx_back3 (i + 1) (zs2.set (i + y.n) cc) (_)
      · exact (cov_cons (by first | rfl | exact v_int (by omega) | exact v_bool (by simp [*])) (cov_nil))
      · repeat (first | exact over_nil | refine over_put rfl ?_ | refine over_drop rfl ?_)
      · exact fun w h => h
      · have hje : j = y.ds.length := by omega
        rw [hje] at hmi2
        have hr := mul_row hmi2 (by omega)
        rw [ly1] at hr
        exact ⟨⟨by omega, by rw [hvx2, cU, cU, List.map_set], hr⟩, by omega⟩
  · refine tr_exit ?_
    refine tx_then_exit ?_
    refine tx_then_exit ?_
    refine tx_in_exit ?_
    refine tx_then ?_
    refine tr_seq ?_
    subst hvx
    refine tr_draw (sel _ [0, 2, 3, 4, 5, 6]) (fun w h => h.sel _ rfl (by decide)) rfl ?_
    refine ta_float (i := 0) rfl (by kernel_rfl) (wants_none rfl) (yq_of (y_move (fe_t rfl))) ?_
    refine ta_float (i := 1) rfl (by kernel_rfl) (wants_none rfl) (yq_of (y_move (fe_t rfl))) ?_
    refine ta_float (i := 2) rfl (by kernel_rfl) (wants_none rfl) (yq_of (y_move (fe_t rfl))) ?_
    refine ta_float (i := 3) rfl (by kernel_rfl) (wants_none rfl) (yq_of (y_nilCheck (fe_t rfl))) ?_
    refine ta_float (i := 4) rfl (by kernel_rfl) (wants_none rfl) (yq_of (y_fieldAddr (td := 4) Try.underlying148 rfl rfl Try.sizeOf4 (o' := 0) rfl (fe_t rfl))) ?_
    refine ta_float (i := 5) rfl (by kernel_rfl) (wants_none rfl) (yq_of (y_ldb 2 Try.isAgg4 (fe_t rfl) rfl rfl)) ?_
    refine ta_float (i := 6) rfl (by kernel_rfl) (wants_none rfl) (yq_of (y_move (fe_t rfl))) ?_
    refine ta_float (i := 7) rfl (by kernel_rfl) (wants_none rfl) (yq_of (y_nilCheck (fe_t rfl))) ?_
    refine ta_float (i := 8) rfl (by kernel_rfl) (wants_none rfl) (yq_of (y_fieldAddr (td := 4) Try.underlying148 rfl rfl Try.sizeOf4 (o' := 0) rfl (fe_t rfl))) ?_
    refine ta_float (i := 9) rfl (by kernel_rfl) (wants_none rfl) (yq_of (y_ldb 4 Try.isAgg4 (fe_t rfl) rfl rfl)) ?_
    refine ta_float (i := 10) rfl (by kernel_rfl) (wants_none rfl) (yq_of (y_neqb Try.underlying4 (fe_t rfl) (fe_t rfl))) ?_
    refine ta_float (i := 11) rfl (by kernel_rfl) (wants_none rfl) (yq_of (y_move (fe_t rfl))) ?_
    refine ta_float (i := 12) rfl (by kernel_rfl) (wants_none rfl) (yq_of (y_nilCheck (fe_t rfl))) ?_
    refine ta_float (i := 13) rfl (by kernel_rfl) (wants_none rfl) (yq_of (y_fieldAddr (td := 4) Try.underlying148 rfl rfl Try.sizeOf4 (o' := 0) rfl (fe_t rfl))) ?_
    refine ta_one (i := 14) rfl (by kernel_rfl) (wants_none rfl) (oj_store1 1 Try.sizeOf4 (fe_t rfl) (fe_t rfl) rfl rfl rfl rfl (⟨fun w h => h.pick [0, 2, 3, 4, 5, 6] _ rfl (by decide), ?_⟩))
    refine ta_float (i := 15) rfl (by kernel_rfl) (wants_none rfl) (yq_of (y_nilCheck (fe_t rfl))) ?_
    refine ta_float (i := 16) rfl (by kernel_rfl) (wants_none rfl) (yq_of (y_fieldAddr (td := 146) Try.underlying148 rfl rfl Try.sizeOf146 (o' := 1) rfl (fe_t rfl))) ?_
    refine ta_one (i := 17) rfl (by kernel_rfl) (wants_none rfl) (oj_store1 1 Try.sizeOf146 (fe_t rfl) (fe_t rfl) rfl rfl rfl rfl (⟨fun w h => h.pick [0, 2, 3, 4, 5, 6] _ rfl (by decide), ?_⟩))
    refine ta_done (by kernel_rfl) ?_
    refine tx_then ?_
    refine tr_seq ?_
    refine tr_region ?_
    refine tl_step rfl (oj_val (y_move (fe_t rfl)) ?_)
    refine tl_step rfl (oj_call2 Try.call128 fe_f (fel_cons (fe_t rfl) fel_nil) (fun w' hS => trimN b (!(x.neg == y.neg)) (some ⟨g, 0, none⟩) (x.n + y.n) (x.n + y.n) zs (pickT (l := [_, _, _, _, _, _, _]) hS [1, 0, 3, 4, 5, 6] rfl (by decide)) (by omega) (Nat.le_refl _) (by omega) hmi.2.2.2.1) (fun q1 hq1 => ?_))
    refine tl_step rfl (oj_val (y_assign (fe_t rfl)) ?_)
    refine tl_nil ?_
    refine tx_then ?_
    refine tr_ret ?_
    refine tx_ret (res1 Try.results103 (rok_t rfl)) (fun w' hS => ?_)
    have hie : i = x.ds.length := by omega
    rw [hie] at hmi
    rw [mul_end hmi rfl, sg_mul, ← hx.val, ← hy.val] at hq1
    exact ⟨q1, hq1, rfl, hS⟩
end Go.Proofs.Ytpknjfeiiaopgaa.Big
