/- The Int library by the engine: SetUint64. A number is a header block and a slice of its own for the digits; T is whatever else is held. -/
import Derived.Test.YtcpdelkamckmfaaBgA
namespace Go.Proofs.Ytcpdelkamckmfaa.Big
open Go.RowKit Go.Proofs.Ytcpdelkamckmfaa.E

/-- A number as it lies: sign, array, length, room, digits. -/
structure Nm where
  neg : Bool
  A : Option Addr
  n : Nat
  c : Nat
  ds : List Int
structure Nm.is (q : Nm) (z : Int) : Prop where
  len : q.ds.length = q.n
  cap : q.n ≤ q.c
  dig : Dig q.ds
  trim : Trim q.ds
  nz : q.neg = true → q.ds ≠ []
  val : z = sg q.neg (dval q.ds)
abbrev Nm.h (q : Nm) (b : Nat) : Res := hdr b q.neg q.A q.n q.c
abbrev Nm.d (q : Nm) : Res := dig q.A q.n q.c q.ds

theorem trimN {w0 w : World} {T : List Res} (b : Nat) (neg : Bool) (A : Option Addr) (n c : Nat) (ds : List Int) (hS : St w0 w (hdr b neg A n c :: dig A n c ds :: T)) (hn : ds.length = n) (hc : n ≤ c) (hm : n ≤ 140737488355328) (hD : Dig ds) :
    Calls Try.prog 126 #[.pointer (some ⟨b, 0, none⟩)] w fun e w' => ∃ q : Nm, q.is (sg neg (dval ds)) ∧ e = .returned (.pointer (some ⟨b, 0, none⟩)) ∧ St w0 w' (q.h b :: q.d :: T) := by
  refine (trimE b neg A n c ds hS hn hc hm hD).mono ?_
  rintro e w' ⟨k, ⟨hk, ht, hd⟩, he, hS'⟩
  refine ⟨⟨neg && decide (k ≠ 0), A, k, c, ds.take k⟩, ⟨?_, by dsimp only; omega, hD.take k, ht, fun h => ?_, ?_⟩, he, hS'⟩
  · simp; omega
  · simp only [Bool.and_eq_true, decide_eq_true_eq] at h
    intro e
    have := congrArg List.length e
    rw [List.length_take] at this
    simp only [List.length_nil] at this
    omega
  · dsimp only
    rw [hd]
    by_cases h0 : k = 0
    · subst h0
      have : dval ds = 0 := by rw [← hd]; simp [dval]
      rw [this]
      cases neg <;> simp [sg]
    · simp [h0]
theorem two_dg (n : Int) (h0 : 0 ≤ n) (h1 : n ≤ 18446744073709551615) : Dig [n % 4294967296, n / 4294967296] ∧ dval [n % 4294967296, n / 4294967296] = n := by
  constructor
  · intro x hx
    simp only [List.mem_cons, List.not_mem_nil, or_false] at hx
    rcases hx with rfl | rfl <;> omega
  · simp only [dval]
    omega
theorem wrap_lo (v : Int) : IntKind.u32.wrap v = v % 4294967296 := by simp [IntKind.wrap, IntKind.signed, IntKind.bits]
theorem wrap_hi {v : Int} (h0 : 0 ≤ v) (h1 : v ≤ 18446744073709551615) : IntKind.u32.wrap (v.fdiv (2 ^ (min (32 : Int).toNat IntKind.u64.bits))) = v / 4294967296 := by
  have : v.fdiv (2 ^ (min (32 : Int).toNat IntKind.u64.bits)) = v / 4294967296 := by
    rw [show (2 : Int) ^ (min (32 : Int).toNat IntKind.u64.bits) = 4294967296 from by decide]
    exact Int.fdiv_eq_ediv_of_nonneg _ (by omega)
  rw [this, wrap_lo]
  omega
theorem nm_zero : (⟨false, none, 0, 0, []⟩ : Nm).is 0 := ⟨rfl, Nat.le_refl _, Dig.nil, Trim.nil, (fun h => by cases h), (by simp [sg, dval])⟩

set_option maxRecDepth 100000 in
set_option maxHeartbeats 1000000 in
theorem setuE {w0 w : World} {T : List Res} (b : Nat) (q : Nm) (hS : St w0 w (q.h b :: q.d :: T)) (v : Int) (h0 : 0 ≤ v) (h1 : v ≤ 18446744073709551615) :
    Calls Try.prog 116 #[.pointer (some ⟨b, 0, none⟩), .int .u64 v] w fun e w' => ∃ q' : Nm, q'.is v ∧ e = .returned (.pointer (some ⟨b, 0, none⟩)) ∧ St w0 w' (q'.h b :: q'.d :: T) := by
  refine calls_tr Try.func116 Try.ntmps116 rfl rfl hS ?_
  refine tr_seq ?_
  refine tr_region ?_
  refine tl_step rfl (oj_val (y_assign fe_c) ?_)
  refine tl_nil ?_
  refine tx_then ?_
  refine tr_seq ?_
  refine tr_region ?_
  refine tl_step rfl (oj_val (y_move (fe_t rfl)) ?_)
  refine tl_step rfl (oj_val (y_move (fe_t rfl)) ?_)
  refine tl_step rfl (oj_val (y_move (fe_t rfl)) ?_)
  refine tl_step rfl (oj_val (y_conv Try.underlying41 Try.underlying153 (fe_t rfl)) ?_)
  refine tl_step rfl (oj_val (y_move (fe_t rfl)) ?_)
  refine tl_step rfl (oj_val (y_shr (fe_t rfl) fe_c (by omega)) ?_)
  refine tl_step rfl (oj_val (y_conv Try.underlying41 Try.underlying153 (fe_t rfl)) ?_)
  refine tl_step rfl (oj_lit2 (k := .u32) (a := v % 4294967296) (b := v / 4294967296) Try.underlying33 Try.sizeOf153 Try.zeroValue153 (fe_i (wrap_lo v) rfl) (fe_i (wrap_hi h0 h1) rfl) (fun g => ?_))
  refine tl_step rfl (oj_val (y_nilCheck (fe_t rfl)) ?_)
  refine tl_step rfl (oj_val (y_fieldAddr (td := 4) Try.underlying35 rfl rfl Try.sizeOf4 (o' := 0) rfl (fe_t rfl)) ?_)
  refine tl_step rfl (oj_store1 1 Try.sizeOf4 (fe_t rfl) fe_c rfl rfl rfl rfl (?_))
  refine tl_step rfl (oj_val (y_nilCheck (fe_t rfl)) ?_)
  refine tl_step rfl (oj_val (y_fieldAddr (td := 33) Try.underlying35 rfl rfl Try.sizeOf33 (o' := 1) rfl (fe_t rfl)) ?_)
  refine tl_step rfl (oj_store1 1 Try.sizeOf33 (fe_t rfl) (fe_t rfl) rfl rfl rfl rfl (?_))
  refine tl_nil ?_
  refine tx_then ?_
  refine tr_seq ?_
  refine tr_region ?_
  refine tl_step rfl (oj_val (y_move (fe_t rfl)) ?_)
  refine tl_step rfl (oj_call2 Try.call126 fe_f (fel_cons (fe_t rfl) fel_nil) (fun w' hS => trimN b false (some ⟨g, 0, none⟩) 2 2 [v % 4294967296, v / 4294967296] (pickT (l := [_, _, _]) hS [1, 0] rfl (by decide)) rfl (by omega) (by omega) (two_dg v h0 h1).1) (fun q1 hq1 => ?_))
  refine tl_step rfl (oj_val (y_assign (fe_t rfl)) ?_)
  refine tl_nil ?_
  refine tx_then ?_
  refine tr_ret ?_
  refine tx_ret (res1 Try.results116 (rok_t rfl)) (fun w' hS => ?_)
  rw [show sg false (dval [v % 4294967296, v / 4294967296]) = v from (two_dg v h0 h1).2] at hq1
  exact ⟨q1, hq1, rfl, hS⟩

end Go.Proofs.Ytcpdelkamckmfaa.Big
