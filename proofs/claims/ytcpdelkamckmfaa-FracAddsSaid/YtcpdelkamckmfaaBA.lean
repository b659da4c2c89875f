/- The Int library, numbers held together: trim, SetUint64, SetInt64, NewInt. -/
import Derived.Test.YtcpdelkamckmfaaEJ
namespace Go.Proofs.Ytcpdelkamckmfaa.Big
open Go.RowKit Go.Proofs.Ytcpdelkamckmfaa.E

section
variable {w0 w : World} {T : List Res} {H D : List Nat} {l : List Ent} {b b' o o' : Nat} {q r : Nm} {z y : Int}
theorem fin1 {v : Value} (hS : St w0 w (bag H D (⟨b, o, q⟩ :: l) :: T)) (h : q.is z) : ∃ r : B1, r.q.is z ∧ Ending.returned v = .returned v ∧ St w0 w (bag r.H r.D (⟨b, o, r.q⟩ :: l) :: T) := ⟨⟨H, D, q⟩, h, rfl, hS⟩
theorem fin2 {v : Value} (hS : St w0 w (bag H D (⟨b, o, q⟩ :: ⟨b', o', r⟩ :: l) :: T)) (h : q.is z) (h' : r.is y) : ∃ r : B2, (r.q.is z ∧ r.r.is y) ∧ Ending.returned v = .returned v ∧ St w0 w (bag r.H r.D (⟨b, o, r.q⟩ :: ⟨b', o', r.r⟩ :: l) :: T) := ⟨⟨H, D, q, r⟩, ⟨h, h'⟩, rfl, hS⟩
theorem finN (hS : St w0 w (bag H D (⟨b, 0, q⟩ :: l) :: T)) (h : q.is z) : ∃ r : BN, r.q.is z ∧ Ending.returned (.pointer (some ⟨b, 0, none⟩)) = .returned (.pointer (some ⟨r.b, 0, none⟩)) ∧ St w0 w (bag r.H r.D (⟨r.b, 0, r.q⟩ :: l) :: T) := ⟨⟨b, H, D, q⟩, h, rfl, hS⟩
end

theorem trim_is {neg u : Bool} {A : Option Addr} {n c k : Nat} {ds : List Int} (hn : ds.length = n) (hc : n ≤ c) (hD : Dig ds) (hk : k ≤ n) (ht : Trim (ds.take k)) (hd : dval (ds.take k) = dval ds) (hu : (u = neg ∧ 0 < k) ∨ (u = false ∧ k = 0)) : (⟨u, A, k, c, ds.take k⟩ : Nm).is (sg neg (dval ds)) := by
  refine ⟨by simp; omega, by dsimp only; omega, hD.take k, ht, fun h => ?_, ?_⟩
  · intro e
    have h1 := congrArg List.length e
    simp only [List.length_take, List.length_nil] at h1
    dsimp only at h
    rcases hu with ⟨_, h2⟩ | ⟨h2, _⟩
    · omega
    · rw [h2] at h; cases h
  · dsimp only
    rw [hd]
    rcases hu with ⟨h2, _⟩ | ⟨h2, h3⟩
    · rw [h2]
    · subst h3
      have : dval ds = 0 := by rw [← hd]; simp [dval]
      rw [this, h2]
      cases neg <;> simp [sg]
set_option maxRecDepth 100000 in
set_option maxHeartbeats 1000000 in
theorem trimB {w0 w : World} {T : List Res} {H D : List Nat} {l : List Ent} {b o : Nat} {q : Nm} (hS : St w0 w (bag H D (⟨b, o, q⟩ :: l) :: T)) (hn : q.ds.length = q.n) (hc : q.n ≤ q.c) (hm : q.n ≤ 140737488355328) (hD : Dig q.ds) :
    Calls Try.prog 126 #[.pointer (some ⟨b, o, none⟩)] w fun e w' => ∃ r : B1, r.q.is (sg q.neg (dval q.ds)) ∧ e = .returned (.pointer (some ⟨b, o, none⟩)) ∧ St w0 w' (bag r.H r.D (⟨b, o, r.q⟩ :: l) :: T) := by
  refine calls_tr Try.func126 Try.ntmps126 rfl rfl hS ?_
  refine tr_seq ?_
  refine tr_region ?_
  refine tl_step rfl (oj_val (y_assign fe_c) ?_)
  refine tl_nil ?_
  refine tx_then ?_
  refine tr_seq ?_
  refine tr_region ?_
  refine tl_step rfl (oj_val (y_move (fe_t rfl)) ?_)
  refine tl_step rfl (oj_val (y_nilCheck (fe_t rfl)) ?_)
  refine tl_step rfl (oj_val (y_fieldAddr (td := 33) Try.underlying35 rfl rfl Try.sizeOf33 (o' := o + 1) rfl (fe_t rfl)) ?_)
  refine tl_step rfl (oj_val (y_ldN2 0 Try.isAgg33 (fe_t rfl) rfl (pget_mem 0 rfl)) ?_)
  refine tl_step rfl (oj_val (y_len Try.underlying33 (fe_t rfl)) ?_)
  refine tl_step rfl (oj_val (y_assign (fe_t rfl)) ?_)
  refine tl_nil ?_
  refine tx_then ?_
  refine tr_seq ?_
  refine tr_block ?_
  refine tr_loop1 [3, 9, 10, 11, 12, 13, 14, 15, 16, 17, 18, 19, 20, 21, 22, 23] (fun (k : Nat) => [(3, .int .i64 (k : Int))]) 0 (fun (k : Nat) => []) (fun (k : Nat) => k ≤ q.n ∧ dval (q.ds.take k) = dval q.ds) (fun (k : Nat) => k) (q.n) (cov_cons (by first | rfl | exact v_int (by omega) | exact v_bool (by simp [*])) (cov_nil)) (fun w h => h) ?_ ?_
  · try dsimp only
    exact ⟨Nat.le_refl _, by rw [List.take_of_length_le (by omega)]⟩
  intro k hp
  obtain ⟨hk, hd⟩ := hp
  refine tr_seq ?_
  refine tr_seq ?_
  refine tr_region ?_
  refine tl_step rfl (oj_val (y_move (fe_t rfl)) ?_)
  refine tl_step rfl (oj_val (y_gtr (fe_t rfl) fe_c) ?_)
  refine tl_step rfl (oj_val (y_move (fe_t rfl)) ?_)
  refine tl_splitp (d := 11) rfl (fun hq1 => ?_) (fun hq2 => ?_)
  · refine tl_want rfl rfl rfl (oj_val (y_move (fe_t rfl)) ?_)
    refine tl_want rfl rfl rfl (oj_val (y_nilCheck (fe_t rfl)) ?_)
    refine tl_want rfl rfl rfl (oj_val (y_fieldAddr (td := 33) Try.underlying35 rfl rfl Try.sizeOf33 (o' := o + 1) rfl (fe_t rfl)) ?_)
    refine tl_want rfl rfl rfl (oj_val (y_ldN2 0 Try.isAgg33 (fe_t rfl) rfl (pget_mem 0 rfl)) ?_)
    refine tl_want rfl rfl rfl (oj_val (y_move (fe_t rfl)) ?_)
    refine tl_want rfl rfl rfl (oj_val (y_dec (fe_t rfl) fe_c (by omega)) ?_)
    refine tl_want rfl rfl rfl (oj_val (y_index Try.underlying33 Try.sizeOf153 (fe_t rfl) (fe_t rfl) (rdl_bag 0 rfl (pget_mem 0 rfl)) (by rw [cU_len]; omega) (by decide) (by omega) (Nat.mul_one _)) ?_)
    refine tl_want rfl rfl rfl (oj_val (y_ld (v := .int .u32 (q.ds[k - 1]'(by omega))) Try.isAgg153 (fe_t rfl) (rdl_bag 0 rfl (pget_mem 0 rfl)) (cU_get (by omega))) ?_)
    refine tl_want rfl rfl rfl (oj_val (y_eq (fe_t rfl) fe_c) ?_)
    refine tl_step rfl (oj_val (y_pickt (fe_t rfl) (fe_t rfl)) ?_)
    refine tl_nil ?_
    refine tx_then ?_
    refine tr_condp (fe_t rfl) (fun hq3 => ?_) (fun hq4 => ?_)
    · refine tr_skip ?_
      refine tx_then ?_
      refine tr_block ?_
      refine tr_region ?_
      refine tl_step rfl (oj_val (y_move (fe_t rfl)) ?_)
      refine tl_step rfl (oj_val (y_dec (fe_t rfl) fe_c (by omega)) ?_)
      refine tl_step rfl (oj_val (y_assign (fe_t rfl)) ?_)
      refine tl_nil ?_
      refine tx_in ?_
      apply tx_back1 (k - 1)
      · exact (cov_cons (by first | rfl | exact v_int (by omega) | exact v_bool (by simp [*])) (cov_nil))
      · repeat (first | exact over_nil | refine over_put rfl ?_ | refine over_drop rfl ?_)
      · exact fun w h => h
      · exact ⟨⟨by omega, (trim_step (by omega) (by omega) (by omega)).symm.trans hd⟩, by omega⟩
    · refine tr_exit ?_
      refine tx_then_exit ?_
      refine tx_then_exit ?_
      refine tx_in_exit ?_
      refine tx_then ?_
      refine tr_seq ?_
      have ht : Trim (q.ds.take k) := trim_tk (by omega) (by first | exact .inl (by omega) | exact .inr ⟨by omega, by omega⟩)
      refine tr_region ?_
      refine tl_step rfl (oj_val (y_move (fe_t rfl)) ?_)
      refine tl_step rfl (oj_val (y_move (fe_t rfl)) ?_)
      refine tl_step rfl (oj_val (y_nilCheck (fe_t rfl)) ?_)
      refine tl_step rfl (oj_val (y_fieldAddr (td := 33) Try.underlying35 rfl rfl Try.sizeOf33 (o' := o + 1) rfl (fe_t rfl)) ?_)
      refine tl_step rfl (oj_val (y_ldN2 0 Try.isAgg33 (fe_t rfl) rfl (pget_mem 0 rfl)) ?_)
      refine tl_step rfl (oj_val (y_move (fe_t rfl)) ?_)
      refine tl_step rfl (oj_val (y_cutH Try.underlying33 Try.sizeOf153 (fe_t rfl) (fe_t rfl) (by omega)) ?_)
      refine tl_step rfl (oj_val (y_nilCheck (fe_t rfl)) ?_)
      refine tl_step rfl (oj_val (y_fieldAddr (td := 33) Try.underlying35 rfl rfl Try.sizeOf33 (o' := o + 1) rfl (fe_t rfl)) ?_)
      refine tl_step rfl (oj_stN2 0 0 Try.sizeOf33 (fe_t rfl) (fe_t rfl) rfl rfl (?_))
      refine tl_nil ?_
      refine tx_then ?_
      refine tr_seq ?_
      refine tr_seq ?_
      refine tr_region ?_
      refine tl_step rfl (oj_val (y_move (fe_t rfl)) ?_)
      refine tl_step rfl (oj_val (y_eq (fe_t rfl) fe_c) ?_)
      refine tl_nil ?_
      refine tx_then ?_
      refine tr_condp (fe_t rfl) (fun hq5 => ?_) (fun hq6 => ?_)
      · refine tr_region ?_
        refine tl_step rfl (oj_val (y_move (fe_t rfl)) ?_)
        refine tl_step rfl (oj_val (y_nilCheck (fe_t rfl)) ?_)
        refine tl_step rfl (oj_val (y_fieldAddr (td := 4) Try.underlying35 rfl rfl Try.sizeOf4 (o' := o) rfl (fe_t rfl)) ?_)
        refine tl_step rfl (oj_stN1 0 0 Try.sizeOf4 (fe_t rfl) fe_c rfl rfl (?_))
        refine tl_nil ?_
        refine tx_then ?_
        refine tr_seq ?_
        refine tr_region ?_
        refine tl_step rfl (oj_val (y_move (fe_t rfl)) ?_)
        refine tl_step rfl (oj_val (y_assign (fe_t rfl)) ?_)
        refine tl_nil ?_
        refine tx_then ?_
        refine tr_ret ?_
        refine tx_ret (res1 Try.results126 (rok_t rfl)) (fun w' hS => ?_)
        have hS' : St w0 w' (bag _ _ ((⟨b, o, _⟩ : Ent) :: l) :: T) := hS
        exact fin1 hS' (trim_is hn hc hD hk ht hd (by first | exact .inl ⟨rfl, by show 0 < k; omega⟩ | exact .inr ⟨rfl, by show k = 0; omega⟩))
      · refine tr_skip ?_
        refine tx_then ?_
        refine tr_seq ?_
        refine tr_region ?_
        refine tl_step rfl (oj_val (y_move (fe_t rfl)) ?_)
        refine tl_step rfl (oj_val (y_assign (fe_t rfl)) ?_)
        refine tl_nil ?_
        refine tx_then ?_
        refine tr_ret ?_
        refine tx_ret (res1 Try.results126 (rok_t rfl)) (fun w' hS => ?_)
        have hS' : St w0 w' (bag _ _ ((⟨b, o, _⟩ : Ent) :: l) :: T) := hS
        exact fin1 hS' (trim_is hn hc hD hk ht hd (by first | exact .inl ⟨rfl, by show 0 < k; omega⟩ | exact .inr ⟨rfl, by show k = 0; omega⟩))
  · refine tl_skip rfl rfl rfl rfl ?_
    refine tl_skip rfl rfl rfl rfl ?_
    refine tl_skip rfl rfl rfl rfl ?_
    refine tl_skip rfl rfl rfl rfl ?_
    refine tl_skip rfl rfl rfl rfl ?_
    refine tl_skip rfl rfl rfl rfl ?_
    refine tl_skip rfl rfl rfl rfl ?_
    refine tl_skip rfl rfl rfl rfl ?_
    refine tl_skip rfl rfl rfl rfl ?_
    refine tl_step rfl (oj_val (y_pickf (fe_t rfl) fe_c) ?_)
    refine tl_nil ?_
    refine tx_then ?_
    refine tr_condf (fe_t rfl) ?_
    refine tr_exit ?_
    refine tx_then_exit ?_
    refine tx_then_exit ?_
    refine tx_in_exit ?_
    refine tx_then ?_
    refine tr_seq ?_
    have ht : Trim (q.ds.take k) := trim_tk (by omega) (by first | exact .inl (by omega) | exact .inr ⟨by omega, by omega⟩)
    refine tr_region ?_
    refine tl_step rfl (oj_val (y_move (fe_t rfl)) ?_)
    refine tl_step rfl (oj_val (y_move (fe_t rfl)) ?_)
    refine tl_step rfl (oj_val (y_nilCheck (fe_t rfl)) ?_)
    refine tl_step rfl (oj_val (y_fieldAddr (td := 33) Try.underlying35 rfl rfl Try.sizeOf33 (o' := o + 1) rfl (fe_t rfl)) ?_)
    refine tl_step rfl (oj_val (y_ldN2 0 Try.isAgg33 (fe_t rfl) rfl (pget_mem 0 rfl)) ?_)
    refine tl_step rfl (oj_val (y_move (fe_t rfl)) ?_)
    refine tl_step rfl (oj_val (y_cutH Try.underlying33 Try.sizeOf153 (fe_t rfl) (fe_t rfl) (by omega)) ?_)
    refine tl_step rfl (oj_val (y_nilCheck (fe_t rfl)) ?_)
    refine tl_step rfl (oj_val (y_fieldAddr (td := 33) Try.underlying35 rfl rfl Try.sizeOf33 (o' := o + 1) rfl (fe_t rfl)) ?_)
    refine tl_step rfl (oj_stN2 0 0 Try.sizeOf33 (fe_t rfl) (fe_t rfl) rfl rfl (?_))
    refine tl_nil ?_
    refine tx_then ?_
    refine tr_seq ?_
    refine tr_seq ?_
    refine tr_region ?_
    refine tl_step rfl (oj_val (y_move (fe_t rfl)) ?_)
    refine tl_step rfl (oj_val (y_eq (fe_t rfl) fe_c) ?_)
    refine tl_nil ?_
    refine tx_then ?_
    refine tr_condp (fe_t rfl) (fun hq7 => ?_) (fun hq8 => ?_)
    · refine tr_region ?_
      refine tl_step rfl (oj_val (y_move (fe_t rfl)) ?_)
      refine tl_step rfl (oj_val (y_nilCheck (fe_t rfl)) ?_)
      refine tl_step rfl (oj_val (y_fieldAddr (td := 4) Try.underlying35 rfl rfl Try.sizeOf4 (o' := o) rfl (fe_t rfl)) ?_)
      refine tl_step rfl (oj_stN1 0 0 Try.sizeOf4 (fe_t rfl) fe_c rfl rfl (?_))
      refine tl_nil ?_
      refine tx_then ?_
      refine tr_seq ?_
      refine tr_region ?_
      refine tl_step rfl (oj_val (y_move (fe_t rfl)) ?_)
      refine tl_step rfl (oj_val (y_assign (fe_t rfl)) ?_)
      refine tl_nil ?_
      refine tx_then ?_
      refine tr_ret ?_
      refine tx_ret (res1 Try.results126 (rok_t rfl)) (fun w' hS => ?_)
      have hS' : St w0 w' (bag _ _ ((⟨b, o, _⟩ : Ent) :: l) :: T) := hS
      exact fin1 hS' (trim_is hn hc hD hk ht hd (by first | exact .inl ⟨rfl, by show 0 < k; omega⟩ | exact .inr ⟨rfl, by show k = 0; omega⟩))
    · refine tr_skip ?_
      refine tx_then ?_
      refine tr_seq ?_
      refine tr_region ?_
      refine tl_step rfl (oj_val (y_move (fe_t rfl)) ?_)
      refine tl_step rfl (oj_val (y_assign (fe_t rfl)) ?_)
      refine tl_nil ?_
      refine tx_then ?_
      refine tr_ret ?_
      refine tx_ret (res1 Try.results126 (rok_t rfl)) (fun w' hS => ?_)
      have hS' : St w0 w' (bag _ _ ((⟨b, o, _⟩ : Ent) :: l) :: T) := hS
      exact fin1 hS' (trim_is hn hc hD hk ht hd (by first | exact .inl ⟨rfl, by show 0 < k; omega⟩ | exact .inr ⟨rfl, by show k = 0; omega⟩))

set_option maxRecDepth 100000 in
set_option maxHeartbeats 1000000 in
theorem setuB {w0 w : World} {T : List Res} {H D : List Nat} {l : List Ent} {b o : Nat} {q : Nm} (hS : St w0 w (bag H D (⟨b, o, q⟩ :: l) :: T)) (v : Int) (h0 : 0 ≤ v) (h1 : v ≤ 18446744073709551615) :
    Calls Try.prog 116 #[.pointer (some ⟨b, o, none⟩), .int .u64 v] w fun e w' => ∃ r : B1, r.q.is (v) ∧ e = .returned (.pointer (some ⟨b, o, none⟩)) ∧ St w0 w' (bag r.H r.D (⟨b, o, r.q⟩ :: l) :: T) := by
  refine calls_tr Try.func116 Try.ntmps116 rfl rfl hS ?_
  refine tr_seq ?_
  refine tr_region ?_
  refine tl_step rfl (oj_val (y_assign fe_c) ?_)
  refine tl_nil ?_
  refine tx_then ?_
  refine tr_seq ?_
  refine tr_region ?_
  refine tl_step rfl (oj_val (y_move (fe_t rfl)) ?_)
  refine tl_step rfl (oj_val (y_move (fe_t rfl)) ?_)
  refine tl_step rfl (oj_val (y_move (fe_t rfl)) ?_)
  refine tl_step rfl (oj_val (y_conv Try.underlying41 Try.underlying153 (fe_t rfl)) ?_)
  refine tl_step rfl (oj_val (y_move (fe_t rfl)) ?_)
  refine tl_step rfl (oj_val (y_shr (fe_t rfl) fe_c (by omega)) ?_)
  refine tl_step rfl (oj_val (y_conv Try.underlying41 Try.underlying153 (fe_t rfl)) ?_)
  refine tl_step rfl (oj_lit2 (k := .u32) (a := v % 4294967296) (b := v / 4294967296) Try.underlying33 Try.sizeOf153 Try.zeroValue153 (fe_i (wrap_lo v) rfl) (fe_i (wrap_hi h0 h1) rfl) (fun g => ?_))
  refine tl_step rfl (oj_val (y_nilCheck (fe_t rfl)) ?_)
  refine tl_step rfl (oj_val (y_fieldAddr (td := 4) Try.underlying35 rfl rfl Try.sizeOf4 (o' := o) rfl (fe_t rfl)) ?_)
  refine tl_step rfl (oj_stN1 1 0 Try.sizeOf4 (fe_t rfl) fe_c rfl rfl (?_))
  refine tl_step rfl (oj_val (y_nilCheck (fe_t rfl)) ?_)
  refine tl_step rfl (oj_val (y_fieldAddr (td := 33) Try.underlying35 rfl rfl Try.sizeOf33 (o' := o + 1) rfl (fe_t rfl)) ?_)
  refine tl_step rfl (oj_stN3 (ds := [v % 4294967296, v / 4294967296]) 1 0 0 Try.sizeOf33 (fe_t rfl) (fe_t rfl) rfl rfl rfl rfl (fun D1 => ?_))
  refine tl_nil ?_
  refine tx_then ?_
  refine tr_seq ?_
  refine tr_region ?_
  refine tl_step rfl (oj_val (y_move (fe_t rfl)) ?_)
  refine tl_step rfl (oj_call2 Try.call126 fe_f (fel_cons (fe_t rfl) fel_nil) (fun w' hS => lift1 (p := fun n => n.is (sg false (dval [v % 4294967296, v / 4294967296]))) 1 0 hS rfl rfl (fun T l' hm hS => trimB hS rfl (Nat.le_refl _) (Nat.le_of_ble_eq_true rfl) (two_dg v h0 h1).1)) (fun r1 hr1 => ?_))
  refine tl_step rfl (oj_val (y_assign (fe_t rfl)) ?_)
  refine tl_nil ?_
  refine tx_then ?_
  refine tr_ret ?_
  refine tx_ret (res1 Try.results116 (rok_t rfl)) (fun w' hS => ?_)
  rw [show sg false (dval [v % 4294967296, v / 4294967296]) = v from (two_dg v h0 h1).2] at hr1
  have hS := pickT (l := [_, _]) hS [1] rfl (by decide)
  have hS' : St w0 w' (bag _ _ ((⟨b, o, _⟩ : Ent) :: l) :: T) := hS
  exact fin1 hS' hr1

set_option maxRecDepth 100000 in
set_option maxHeartbeats 1000000 in
theorem setiB {w0 w : World} {T : List Res} {H D : List Nat} {l : List Ent} {b o : Nat} {q : Nm} (hS : St w0 w (bag H D (⟨b, o, q⟩ :: l) :: T)) (v : Int) (h0 : -9223372036854775808 ≤ v) (h1 : v ≤ 9223372036854775807) :
    Calls Try.prog 166 #[.pointer (some ⟨b, o, none⟩), .int .i64 v] w fun e w' => ∃ r : B1, r.q.is (v) ∧ e = .returned (.pointer (some ⟨b, o, none⟩)) ∧ St w0 w' (bag r.H r.D (⟨b, o, r.q⟩ :: l) :: T) := by
  refine calls_tr Try.func166 Try.ntmps166 rfl rfl hS ?_
  refine tr_seq ?_
  refine tr_region ?_
  refine tl_step rfl (oj_val (y_assign fe_c) ?_)
  refine tl_nil ?_
  refine tx_then ?_
  refine tr_seq ?_
  refine tr_seq ?_
  refine tr_region ?_
  refine tl_step rfl (oj_val (y_move (fe_t rfl)) ?_)
  refine tl_step rfl (oj_val (y_lss (fe_t rfl) fe_c) ?_)
  refine tl_nil ?_
  refine tx_then ?_
  refine tr_condp (fe_t rfl) (fun hq1 => ?_) (fun hq2 => ?_)
  · refine tr_seq ?_
    refine tr_region ?_
    refine tl_step rfl (oj_val (y_move (fe_t rfl)) ?_)
    refine tl_step rfl (oj_val (y_move (fe_t rfl)) ?_)
    refine tl_step rfl (oj_val (y_conv Try.underlying2 Try.underlying41 (fe_t rfl)) ?_)
    refine tl_step rfl (oj_val (y_as (y_negk (fe_t rfl)) (wrap_neg h0 (by omega))) ?_)
    refine tl_step rfl (oj_call2 Try.call116 fe_f (fel_cons (fe_t rfl) (fel_cons (fe_t rfl) fel_nil)) (fun w' hS => lift1 (p := fun n => n.is (_)) 0 0 hS rfl rfl (fun T l' hm hS => setuB hS (-v) (by omega) (by omega))) (fun r1 hr1 => ?_))
    refine tl_nil ?_
    refine tx_then ?_
    refine tr_seq ?_
    refine tr_region ?_
    refine tl_step rfl (oj_val (y_move (fe_t rfl)) ?_)
    refine tl_step rfl (oj_val (y_nilCheck (fe_t rfl)) ?_)
    refine tl_step rfl (oj_val (y_fieldAddr (td := 4) Try.underlying35 rfl rfl Try.sizeOf4 (o' := o) rfl (fe_t rfl)) ?_)
    refine tl_step rfl (oj_stN1 0 0 Try.sizeOf4 (fe_t rfl) fe_c rfl rfl (?_))
    refine tl_nil ?_
    refine tx_then ?_
    refine tr_seq ?_
    refine tr_region ?_
    refine tl_step rfl (oj_val (y_move (fe_t rfl)) ?_)
    refine tl_step rfl (oj_val (y_assign (fe_t rfl)) ?_)
    refine tl_nil ?_
    refine tx_then ?_
    refine tr_ret ?_
    refine tx_then_ret ?_
    refine tx_ret (res1 Try.results166 (rok_t rfl)) (fun w' hS => ?_)
    have hq2 := neg_nm hr1 (by omega)
    rw [Int.neg_neg] at hq2
    have hS' : St w0 w' (bag _ _ ((⟨b, o, _⟩ : Ent) :: l) :: T) := hS
    exact fin1 hS' hq2
  · refine tr_skip ?_
    refine tx_then ?_
    refine tr_seq ?_
    refine tr_region ?_
    refine tl_step rfl (oj_val (y_move (fe_t rfl)) ?_)
    refine tl_step rfl (oj_val (y_move (fe_t rfl)) ?_)
    refine tl_step rfl (oj_val (y_convi Try.underlying2 Try.underlying41 (fe_t rfl) (IntWalk.u64_in _ (by omega))) ?_)
    refine tl_step rfl (oj_call2 Try.call116 fe_f (fel_cons (fe_t rfl) (fel_cons (fe_t rfl) fel_nil)) (fun w' hS => lift1 (p := fun n => n.is (_)) 0 0 hS rfl rfl (fun T l' hm hS => setuB hS v (by omega) (by omega))) (fun r2 hr2 => ?_))
    refine tl_step rfl (oj_val (y_assign (fe_t rfl)) ?_)
    refine tl_nil ?_
    refine tx_then ?_
    refine tr_ret ?_
    refine tx_ret (res1 Try.results166 (rok_t rfl)) (fun w' hS => ?_)
    have hS' : St w0 w' (bag _ _ ((⟨b, o, _⟩ : Ent) :: l) :: T) := hS
    exact fin1 hS' hr2

set_option maxRecDepth 100000 in
set_option maxHeartbeats 1000000 in
theorem newB {w0 w : World} {T : List Res} {H D : List Nat} {l : List Ent} (hS : St w0 w (bag H D l :: T)) (v : Int) (h0 : -9223372036854775808 ≤ v) (h1 : v ≤ 9223372036854775807) :
    Calls Try.prog 111 #[.int .i64 v] w fun e w' => ∃ r : BN, r.q.is (v) ∧ e = .returned (.pointer (some ⟨r.b, 0, none⟩)) ∧ St w0 w' (bag r.H r.D (⟨r.b, 0, r.q⟩ :: l) :: T) := by
  refine calls_tr Try.func111 Try.ntmps111 rfl rfl hS ?_
  refine tr_seq ?_
  refine tr_region ?_
  refine tl_step rfl (oj_val (y_assign fe_c) ?_)
  refine tl_nil ?_
  refine tx_then ?_
  refine tr_seq ?_
  refine tr_region ?_
  refine tl_step rfl (oj_allocN 0 Try.zeroValue35 rfl (fun b_n H_n => ?_))
  refine tl_step rfl (oj_val (y_move (fe_t rfl)) ?_)
  refine tl_step rfl (oj_call2 Try.call166 fe_f (fel_cons (fe_t rfl) (fel_cons (fe_t rfl) fel_nil)) (fun w' hS => lift1 (p := fun n => n.is (_)) 0 0 hS rfl rfl (fun T l' hm hS => setiB hS v h0 h1)) (fun r1 hr1 => ?_))
  refine tl_step rfl (oj_val (y_assign (fe_t rfl)) ?_)
  refine tl_nil ?_
  refine tx_then ?_
  refine tr_ret ?_
  refine tx_ret (res1 Try.results111 (rok_t rfl)) (fun w' hS => ?_)
  have hS' : St w0 w' (bag _ _ ((⟨b_n, 0, _⟩ : Ent) :: l) :: T) := hS
  exact finN hS' hr1

end Go.Proofs.Ytcpdelkamckmfaa.Big
