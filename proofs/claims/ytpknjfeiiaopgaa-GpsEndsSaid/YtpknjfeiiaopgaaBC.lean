/- The Int library, numbers held together: trim, SetUint64, SetInt64, NewInt. -/
import Derived.Test.YtpknjfeiiaopgaaEJ
import Derived.Test.YtpknjfeiiaopgaaBigL
namespace Go.Proofs.Ytpknjfeiiaopgaa.Big
open Go.RowKit Go.Proofs.Ytpknjfeiiaopgaa.E

section
variable {w0 w : World} {T : List Res} {H D : List Nat} {l : List Ent} {b b' o o' : Nat} {q r : Nm} {z y : Int}
theorem fin1 {v : Value} (hS : St w0 w (bag H D (⟨b, o, q⟩ :: l) :: T)) (h : q.is z) : ∃ r : B1, r.q.is z ∧ Ending.returned v = .returned v ∧ St w0 w (bag r.H r.D (⟨b, o, r.q⟩ :: l) :: T) := ⟨⟨H, D, q⟩, h, rfl, hS⟩
theorem fin2 {v : Value} (hS : St w0 w (bag H D (⟨b, o, q⟩ :: ⟨b', o', r⟩ :: l) :: T)) (h : q.is z) (h' : r.is y) : ∃ r : B2, (r.q.is z ∧ r.r.is y) ∧ Ending.returned v = .returned v ∧ St w0 w (bag r.H r.D (⟨b, o, r.q⟩ :: ⟨b', o', r.r⟩ :: l) :: T) := ⟨⟨H, D, q, r⟩, ⟨h, h'⟩, rfl, hS⟩
theorem finN (hS : St w0 w (bag H D (⟨b, 0, q⟩ :: l) :: T)) (h : q.is z) : ∃ r : BN, r.q.is z ∧ Ending.returned (.pointer (some ⟨b, 0, none⟩)) = .returned (.pointer (some ⟨r.b, 0, none⟩)) ∧ St w0 w (bag r.H r.D (⟨r.b, 0, r.q⟩ :: l) :: T) := ⟨⟨b, H, D, q⟩, h, rfl, hS⟩
end

theorem trim_is {neg u : Bool} {A : Option Addr} {n c k : Nat} {ds : List Int} (hn : ds.length = n) (hc : n ≤ c) (hD : Dig ds) (hk : k ≤ n) (ht : Trim (ds.take k)) (hd : dval (ds.take k) = dval ds) (hu : (u = neg ∧ 0 < k) ∨ (u = false ∧ k = 0)) : (⟨u, A, k, c, ds.take k⟩ : Nm).is (sg neg (dval ds)) := by
  refine ⟨by simp; omega, by dsimp only; omega, hD.take k, ht, fun h => ?_, ?_⟩
  · intro e
    have h1 := congrArg List.length e
    simp only [List.length_take, List.length_nil] at h1
    dsimp only at h
    rcases hu with ⟨_, h2⟩ | ⟨h2, _⟩
    · omega
    · rw [h2] at h; cases h
  · dsimp only
    rw [hd]
    rcases hu with ⟨h2, _⟩ | ⟨h2, h3⟩
    · rw [h2]
    · subst h3
      have : dval ds = 0 := by rw [← hd]; simp [dval]
      rw [this, h2]
      cases neg <;> simp [sg]
set_option maxRecDepth 100000 in
set_option maxHeartbeats 1000000 in
theorem trimB {w0 w : World} {T : List Res} {H D : List Nat} {l : List Ent} {b o : Nat} {q : Nm} (hS : St w0 w (bag H D (⟨b, o, q⟩ :: l) :: T)) (hn : q.ds.length = q.n) (hc : q.n ≤ q.c) (hm : q.n ≤ 140737488355328) (hD : Dig q.ds) :
    Calls Try.prog 128 #[.pointer (some ⟨b, o, none⟩)] w fun e w' => ∃ r : B1, r.q.is (sg q.neg (dval q.ds)) ∧ e = .returned (.pointer (some ⟨b, o, none⟩)) ∧ St w0 w' (bag r.H r.D (⟨b, o, r.q⟩ :: l) :: T) := by
  refine calls_tr Try.func128 Try.ntmps128 rfl rfl hS ?_
  refine tr_seq ?_
  refine tr_region ?_
  refine tl_step rfl (oj_val (y_assign fe_c) ?_)
  refine tl_nil ?_
  refine tx_then ?_
  refine tr_seq ?_
  refine tr_region ?_
  refine tl_step rfl (oj_val (y_move (fe_t rfl)) ?_)
  refine tl_step rfl (oj_val (y_nilCheck (fe_t rfl)) ?_)
  refine tl_step rfl (oj_val (y_fieldAddr (td := 146) Try.underlying148 rfl rfl Try.sizeOf146 (o' := o + 1) rfl (fe_t rfl)) ?_)
  refine tl_step rfl (oj_val (y_ldN2 0 Try.isAgg146 (fe_t rfl) rfl (pget_mem 0 rfl)) ?_)
  refine tl_step rfl (oj_val (y_len Try.underlying146 (fe_t rfl)) ?_)
  refine tl_step rfl (oj_val (y_assign (fe_t rfl)) ?_)
  refine tl_nil ?_
  refine tx_then ?_
  refine tr_seq ?_
  refine tr_block ?_
  refine tr_loop1 [3, 9, 10, 11, 12, 13, 14, 15, 16, 17, 18, 19, 20, 21, 22, 23] (fun (k : Nat) => [(3, .int .i64 (k : Int))]) 0 (fun (k : Nat) => []) (fun (k : Nat) => k ≤ q.n ∧ dval (q.ds.take k) = dval q.ds) (fun (k : Nat) => k) (q.n) (cov_cons (by first | rfl | exact v_int (by omega) | exact v_bool (by simp [*])) (cov_nil)) (fun w h => h) ?_ ?_
  · try dsimp only
    exact ⟨Nat.le_refl _, by rw [List.take_of_length_le (by omega)]⟩
  intro k hp
  obtain ⟨hk, hd⟩ := hp
  refine tr_seq ?_
  refine tr_seq ?_
  refine tr_region ?_
  refine tl_step rfl (oj_val (y_move (fe_t rfl)) ?_)
  refine tl_step rfl (oj_val (y_gtr (fe_t rfl) fe_c) ?_)
  refine tl_step rfl (oj_val (y_move (fe_t rfl)) ?_)
  refine tl_splitp (d := 11) rfl (fun hq1 => ?_) (fun hq2 => ?_)
  · refine tl_want rfl rfl rfl (oj_val (y_move (fe_t rfl)) ?_)
    refine tl_want rfl rfl rfl (oj_val (y_nilCheck (fe_t rfl)) ?_)
    refine tl_want rfl rfl rfl (oj_val (y_fieldAddr (td := 146) Try.underlying148 rfl rfl Try.sizeOf146 (o' := o + 1) rfl (fe_t rfl)) ?_)
    refine tl_want rfl rfl rfl (oj_val (y_ldN2 0 Try.isAgg146 (fe_t rfl) rfl (pget_mem 0 rfl)) ?_)
    refine tl_want rfl rfl rfl (oj_val (y_move (fe_t rfl)) ?_)
    refine tl_want rfl rfl rfl (oj_val (y_dec (fe_t rfl) fe_c (by omega)) ?_)
    refine tl_want rfl rfl rfl (oj_val (y_index Try.underlying146 Try.sizeOf195 (fe_t rfl) (fe_t rfl) (rdl_bag 0 rfl (pget_mem 0 rfl)) (by rw [cU_len]; omega) (by decide) (by omega) (Nat.mul_one _)) ?_)
    refine tl_want rfl rfl rfl (oj_val (y_ld (v := .int .u32 (q.ds[k - 1]'(by omega))) Try.isAgg195 (fe_t rfl) (rdl_bag 0 rfl (pget_mem 0 rfl)) (cU_get (by omega))) ?_)
    refine tl_want rfl rfl rfl (oj_val (y_eq (fe_t rfl) fe_c) ?_)
    refine tl_step rfl (oj_val (y_pickt (fe_t rfl) (fe_t rfl)) ?_)
    refine tl_nil ?_
    refine tx_then ?_
    refine tr_condp (fe_t rfl) (fun hq3 => ?_) (fun hq4 => ?_)
    · refine tr_skip ?_
      refine tx_then ?_
      refine tr_block ?_
      refine tr_region ?_
      refine tl_step rfl (oj_val (y_move (fe_t rfl)) ?_)
      refine tl_step rfl (oj_val (y_dec (fe_t rfl) fe_c (by omega)) ?_)
      refine tl_step rfl (oj_val (y_assign (fe_t rfl)) ?_)
      refine tl_nil ?_
      refine tx_in ?_
      apply tx_back1 (k - 1)
      · exact (cov_cons (by first | rfl | exact v_int (by omega) | exact v_bool (by simp [*])) (cov_nil))
      · repeat (first | exact over_nil | refine over_put rfl ?_ | refine over_drop rfl ?_)
      · exact fun w h => h
      · exact ⟨⟨by omega, (trim_step (by omega) (by omega) (by omega)).symm.trans hd⟩, by omega⟩
    · refine tr_exit ?_
      refine tx_then_exit ?_
      refine tx_then_exit ?_
      refine tx_in_exit ?_
      refine tx_then ?_
      refine tr_seq ?_
      have ht : Trim (q.ds.take k) := trim_tk (by omega) (by first | exact .inl (by omega) | exact .inr ⟨by omega, by omega⟩)
      refine tr_region ?_
      refine tl_step rfl (oj_val (y_move (fe_t rfl)) ?_)
      refine tl_step rfl (oj_val (y_move (fe_t rfl)) ?_)
      refine tl_step rfl (oj_val (y_nilCheck (fe_t rfl)) ?_)
      refine tl_step rfl (oj_val (y_fieldAddr (td := 146) Try.underlying148 rfl rfl Try.sizeOf146 (o' := o + 1) rfl (fe_t rfl)) ?_)
      refine tl_step rfl (oj_val (y_ldN2 0 Try.isAgg146 (fe_t rfl) rfl (pget_mem 0 rfl)) ?_)
      refine tl_step rfl (oj_val (y_move (fe_t rfl)) ?_)
      refine tl_step rfl (oj_val (y_cutH Try.underlying146 Try.sizeOf195 (fe_t rfl) (fe_t rfl) (by omega)) ?_)
      refine tl_step rfl (oj_val (y_nilCheck (fe_t rfl)) ?_)
      refine tl_step rfl (oj_val (y_fieldAddr (td := 146) Try.underlying148 rfl rfl Try.sizeOf146 (o' := o + 1) rfl (fe_t rfl)) ?_)
      refine tl_step rfl (oj_stN2 0 0 Try.sizeOf146 (fe_t rfl) (fe_t rfl) rfl rfl (?_))
      refine tl_nil ?_
      refine tx_then ?_
      refine tr_seq ?_
      refine tr_seq ?_
      refine tr_region ?_
      refine tl_step rfl (oj_val (y_move (fe_t rfl)) ?_)
      refine tl_step rfl (oj_val (y_eq (fe_t rfl) fe_c) ?_)
      refine tl_nil ?_
      refine tx_then ?_
      refine tr_condp (fe_t rfl) (fun hq5 => ?_) (fun hq6 => ?_)
      · refine tr_region ?_
        refine tl_step rfl (oj_val (y_move (fe_t rfl)) ?_)
        refine tl_step rfl (oj_val (y_nilCheck (fe_t rfl)) ?_)
        refine tl_step rfl (oj_val (y_fieldAddr (td := 4) Try.underlying148 rfl rfl Try.sizeOf4 (o' := o) rfl (fe_t rfl)) ?_)
        refine tl_step rfl (oj_stN1 0 0 Try.sizeOf4 (fe_t rfl) fe_c rfl rfl (?_))
        refine tl_nil ?_
        refine tx_then ?_
        refine tr_seq ?_
        refine tr_region ?_
        refine tl_step rfl (oj_val (y_move (fe_t rfl)) ?_)
        refine tl_step rfl (oj_val (y_assign (fe_t rfl)) ?_)
        refine tl_nil ?_
        refine tx_then ?_
        refine tr_ret ?_
        refine tx_ret (res1 Try.results128 (rok_t rfl)) (fun w' hS => ?_)
        have hS' : St w0 w' (bag _ _ ((⟨b, o, _⟩ : Ent) :: l) :: T) := hS
        exact fin1 hS' (trim_is hn hc hD hk ht hd (by first | exact .inl ⟨rfl, by show 0 < k; omega⟩ | exact .inr ⟨rfl, by show k = 0; omega⟩))
      · refine tr_skip ?_
        refine tx_then ?_
        refine tr_seq ?_
        refine tr_region ?_
        refine tl_step rfl (oj_val (y_move (fe_t rfl)) ?_)
        refine tl_step rfl (oj_val (y_assign (fe_t rfl)) ?_)
        refine tl_nil ?_
        refine tx_then ?_
        refine tr_ret ?_
        refine tx_ret (res1 Try.results128 (rok_t rfl)) (fun w' hS => ?_)
        have hS' : St w0 w' (bag _ _ ((⟨b, o, _⟩ : Ent) :: l) :: T) := hS
        exact fin1 hS' (trim_is hn hc hD hk ht hd (by first | exact .inl ⟨rfl, by show 0 < k; omega⟩ | exact .inr ⟨rfl, by show k = 0; omega⟩))
  · refine tl_skip rfl rfl rfl rfl ?_
    refine tl_skip rfl rfl rfl rfl ?_
    refine tl_skip rfl rfl rfl rfl ?_
    refine tl_skip rfl rfl rfl rfl ?_
    refine tl_skip rfl rfl rfl rfl ?_
    refine tl_skip rfl rfl rfl rfl ?_
    refine tl_skip rfl rfl rfl rfl ?_
    refine tl_skip rfl rfl rfl rfl ?_
    refine tl_skip rfl rfl rfl rfl ?_
    refine tl_step rfl (oj_val (y_pickf (fe_t rfl) fe_c) ?_)
    refine tl_nil ?_
    refine tx_then ?_
    refine tr_condf (fe_t rfl) ?_
    refine tr_exit ?_
    refine tx_then_exit ?_
    refine tx_then_exit ?_
    refine tx_in_exit ?_
    refine tx_then ?_
    refine tr_seq ?_
    have ht : Trim (q.ds.take k) := trim_tk (by omega) (by first | exact .inl (by omega) | exact .inr ⟨by omega, by omega⟩)
    refine tr_region ?_
    refine tl_step rfl (oj_val (y_move (fe_t rfl)) ?_)
    refine tl_step rfl (oj_val (y_move (fe_t rfl)) ?_)
    refine tl_step rfl (oj_val (y_nilCheck (fe_t rfl)) ?_)
    refine tl_step rfl (oj_val (y_fieldAddr (td := 146) Try.underlying148 rfl rfl Try.sizeOf146 (o' := o + 1) rfl (fe_t rfl)) ?_)
    refine tl_step rfl (oj_val (y_ldN2 0 Try.isAgg146 (fe_t rfl) rfl (pget_mem 0 rfl)) ?_)
    refine tl_step rfl (oj_val (y_move (fe_t rfl)) ?_)
    refine tl_step rfl (oj_val (y_cutH Try.underlying146 Try.sizeOf195 (fe_t rfl) (fe_t rfl) (by omega)) ?_)
    refine tl_step rfl (oj_val (y_nilCheck (fe_t rfl)) ?_)
    refine tl_step rfl (oj_val (y_fieldAddr (td := 146) Try.underlying148 rfl rfl Try.sizeOf146 (o' := o + 1) rfl (fe_t rfl)) ?_)
    refine tl_step rfl (oj_stN2 0 0 Try.sizeOf146 (fe_t rfl) (fe_t rfl) rfl rfl (?_))
    refine tl_nil ?_
    refine tx_then ?_
    refine tr_seq ?_
    refine tr_seq ?_
    refine tr_region ?_
    refine tl_step rfl (oj_val (y_move (fe_t rfl)) ?_)
    refine tl_step rfl (oj_val (y_eq (fe_t rfl) fe_c) ?_)
    refine tl_nil ?_
    refine tx_then ?_
    refine tr_condp (fe_t rfl) (fun hq7 => ?_) (fun hq8 => ?_)
    · refine tr_region ?_
      refine tl_step rfl (oj_val (y_move (fe_t rfl)) ?_)
      refine tl_step rfl (oj_val (y_nilCheck (fe_t rfl)) ?_)
      refine tl_step rfl (oj_val (y_fieldAddr (td := 4) Try.underlying148 rfl rfl Try.sizeOf4 (o' := o) rfl (fe_t rfl)) ?_)
      refine tl_step rfl (oj_stN1 0 0 Try.sizeOf4 (fe_t rfl) fe_c rfl rfl (?_))
      refine tl_nil ?_
      refine tx_then ?_
      refine tr_seq ?_
      refine tr_region ?_
      refine tl_step rfl (oj_val (y_move (fe_t rfl)) ?_)
      refine tl_step rfl (oj_val (y_assign (fe_t rfl)) ?_)
      refine tl_nil ?_
      refine tx_then ?_
      refine tr_ret ?_
      refine tx_ret (res1 Try.results128 (rok_t rfl)) (fun w' hS => ?_)
      have hS' : St w0 w' (bag _ _ ((⟨b, o, _⟩ : Ent) :: l) :: T) := hS
      exact fin1 hS' (trim_is hn hc hD hk ht hd (by first | exact .inl ⟨rfl, by show 0 < k; omega⟩ | exact .inr ⟨rfl, by show k = 0; omega⟩))
    · refine tr_skip ?_
      refine tx_then ?_
      refine tr_seq ?_
      refine tr_region ?_
      refine tl_step rfl (oj_val (y_move (fe_t rfl)) ?_)
      refine tl_step rfl (oj_val (y_assign (fe_t rfl)) ?_)
      refine tl_nil ?_
      refine tx_then ?_
      refine tr_ret ?_
      refine tx_ret (res1 Try.results128 (rok_t rfl)) (fun w' hS => ?_)
      have hS' : St w0 w' (bag _ _ ((⟨b, o, _⟩ : Ent) :: l) :: T) := hS
      exact fin1 hS' (trim_is hn hc hD hk ht hd (by first | exact .inl ⟨rfl, by show 0 < k; omega⟩ | exact .inr ⟨rfl, by show k = 0; omega⟩))

set_option maxRecDepth 100000 in
set_option maxHeartbeats 1000000 in
theorem setuB {w0 w : World} {T : List Res} {H D : List Nat} {l : List Ent} {b o : Nat} {q : Nm} (hS : St w0 w (bag H D (⟨b, o, q⟩ :: l) :: T)) (v : Int) (h0 : 0 ≤ v) (h1 : v ≤ 18446744073709551615) :
    Calls Try.prog 136 #[.pointer (some ⟨b, o, none⟩), .int .u64 v] w fun e w' => ∃ r : B1, r.q.is (v) ∧ e = .returned (.pointer (some ⟨b, o, none⟩)) ∧ St w0 w' (bag r.H r.D (⟨b, o, r.q⟩ :: l) :: T) := by
  refine calls_tr Try.func136 Try.ntmps136 rfl rfl hS ?_
  refine tr_seq ?_
  refine tr_region ?_
  refine tl_step rfl (oj_val (y_assign fe_c) ?_)
  refine tl_nil ?_
  refine tx_then ?_
  refine tr_seq ?_
  refine tr_region ?_
  refine tl_step rfl (oj_val (y_move (fe_t rfl)) ?_)
  refine tl_step rfl (oj_val (y_move (fe_t rfl)) ?_)
  refine tl_step rfl (oj_val (y_move (fe_t rfl)) ?_)
  refine tl_step rfl (oj_val (y_conv Try.underlying117 Try.underlying195 (fe_t rfl)) ?_)
  refine tl_step rfl (oj_val (y_move (fe_t rfl)) ?_)
  refine tl_step rfl (oj_val (y_shr (fe_t rfl) fe_c (by omega)) ?_)
  refine tl_step rfl (oj_val (y_conv Try.underlying117 Try.underlying195 (fe_t rfl)) ?_)
  refine tl_step rfl (oj_lit2 (k := .u32) (a := v % 4294967296) (b := v / 4294967296) Try.underlying146 Try.sizeOf195 Try.zeroValue195 (fe_i (wrap_lo v) rfl) (fe_i (wrap_hi h0 h1) rfl) (fun g => ?_))
  refine tl_step rfl (oj_val (y_nilCheck (fe_t rfl)) ?_)
  refine tl_step rfl (oj_val (y_fieldAddr (td := 4) Try.underlying148 rfl rfl Try.sizeOf4 (o' := o) rfl (fe_t rfl)) ?_)
  refine tl_step rfl (oj_stN1 1 0 Try.sizeOf4 (fe_t rfl) fe_c rfl rfl (?_))
  refine tl_step rfl (oj_val (y_nilCheck (fe_t rfl)) ?_)
  refine tl_step rfl (oj_val (y_fieldAddr (td := 146) Try.underlying148 rfl rfl Try.sizeOf146 (o' := o + 1) rfl (fe_t rfl)) ?_)
  refine tl_step rfl (oj_stN3 (ds := [v % 4294967296, v / 4294967296]) 1 0 0 Try.sizeOf146 (fe_t rfl) (fe_t rfl) rfl rfl rfl rfl (fun D1 => ?_))
  refine tl_nil ?_
  refine tx_then ?_
  refine tr_seq ?_
  refine tr_region ?_
  refine tl_step rfl (oj_val (y_move (fe_t rfl)) ?_)
  refine tl_step rfl (oj_call2 Try.call128 fe_f (fel_cons (fe_t rfl) fel_nil) (fun w' hS => lift1 (p := fun n => n.is (sg false (dval [v % 4294967296, v / 4294967296]))) 1 0 hS rfl rfl (fun T l' hm hS => trimB hS rfl (Nat.le_refl _) (Nat.le_of_ble_eq_true rfl) (two_dg v h0 h1).1)) (fun r1 hr1 => ?_))
  refine tl_step rfl (oj_val (y_assign (fe_t rfl)) ?_)
  refine tl_nil ?_
  refine tx_then ?_
  refine tr_ret ?_
  refine tx_ret (res1 Try.results136 (rok_t rfl)) (fun w' hS => ?_)
  rw [show sg false (dval [v % 4294967296, v / 4294967296]) = v from (two_dg v h0 h1).2] at hr1
  have hS := pickT (l := [_, _]) hS [1] rfl (by decide)
  have hS' : St w0 w' (bag _ _ ((⟨b, o, _⟩ : Ent) :: l) :: T) := hS
  exact fin1 hS' hr1

set_option maxRecDepth 100000 in
set_option maxHeartbeats 1000000 in
theorem setiB {w0 w : World} {T : List Res} {H D : List Nat} {l : List Ent} {b o : Nat} {q : Nm} (hS : St w0 w (bag H D (⟨b, o, q⟩ :: l) :: T)) (v : Int) (h0 : -9223372036854775808 ≤ v) (h1 : v ≤ 9223372036854775807) :
    Calls Try.prog 117 #[.pointer (some ⟨b, o, none⟩), .int .i64 v] w fun e w' => ∃ r : B1, r.q.is (v) ∧ e = .returned (.pointer (some ⟨b, o, none⟩)) ∧ St w0 w' (bag r.H r.D (⟨b, o, r.q⟩ :: l) :: T) := by
  refine calls_tr Try.func117 Try.ntmps117 rfl rfl hS ?_
  refine tr_seq ?_
  refine tr_region ?_
  refine tl_step rfl (oj_val (y_assign fe_c) ?_)
  refine tl_nil ?_
  refine tx_then ?_
  refine tr_seq ?_
  refine tr_seq ?_
  refine tr_region ?_
  refine tl_step rfl (oj_val (y_move (fe_t rfl)) ?_)
  refine tl_step rfl (oj_val (y_lss (fe_t rfl) fe_c) ?_)
  refine tl_nil ?_
  refine tx_then ?_
  refine tr_condp (fe_t rfl) (fun hq1 => ?_) (fun hq2 => ?_)
  · refine tr_seq ?_
    refine tr_region ?_
    refine tl_step rfl (oj_val (y_move (fe_t rfl)) ?_)
    refine tl_step rfl (oj_val (y_move (fe_t rfl)) ?_)
    refine tl_step rfl (oj_val (y_conv Try.underlying2 Try.underlying117 (fe_t rfl)) ?_)
    refine tl_step rfl (oj_val (y_as (y_negk (fe_t rfl)) (wrap_neg h0 (by omega))) ?_)
    refine tl_step rfl (oj_call2 Try.call136 fe_f (fel_cons (fe_t rfl) (fel_cons (fe_t rfl) fel_nil)) (fun w' hS => lift1 (p := fun n => n.is (_)) 0 0 hS rfl rfl (fun T l' hm hS => setuB hS (-v) (by omega) (by omega))) (fun r1 hr1 => ?_))
    refine tl_nil ?_
    refine tx_then ?_
    refine tr_seq ?_
    refine tr_region ?_
    refine tl_step rfl (oj_val (y_move (fe_t rfl)) ?_)
    refine tl_step rfl (oj_val (y_nilCheck (fe_t rfl)) ?_)
    refine tl_step rfl (oj_val (y_fieldAddr (td := 4) Try.underlying148 rfl rfl Try.sizeOf4 (o' := o) rfl (fe_t rfl)) ?_)
    refine tl_step rfl (oj_stN1 0 0 Try.sizeOf4 (fe_t rfl) fe_c rfl rfl (?_))
    refine tl_nil ?_
    refine tx_then ?_
    refine tr_seq ?_
    refine tr_region ?_
    refine tl_step rfl (oj_val (y_move (fe_t rfl)) ?_)
    refine tl_step rfl (oj_val (y_assign (fe_t rfl)) ?_)
    refine tl_nil ?_
    refine tx_then ?_
    refine tr_ret ?_
    refine tx_then_ret ?_
    refine tx_ret (res1 Try.results117 (rok_t rfl)) (fun w' hS => ?_)
    have hq2 := neg_nm hr1 (by omega)
    rw [Int.neg_neg] at hq2
    have hS' : St w0 w' (bag _ _ ((⟨b, o, _⟩ : Ent) :: l) :: T) := hS
    exact fin1 hS' hq2
  · refine tr_skip ?_
    refine tx_then ?_
    refine tr_seq ?_
    refine tr_region ?_
    refine tl_step rfl (oj_val (y_move (fe_t rfl)) ?_)
    refine tl_step rfl (oj_val (y_move (fe_t rfl)) ?_)
    refine tl_step rfl (oj_val (y_convi Try.underlying2 Try.underlying117 (fe_t rfl) (IntWalk.u64_in _ (by omega))) ?_)
    refine tl_step rfl (oj_call2 Try.call136 fe_f (fel_cons (fe_t rfl) (fel_cons (fe_t rfl) fel_nil)) (fun w' hS => lift1 (p := fun n => n.is (_)) 0 0 hS rfl rfl (fun T l' hm hS => setuB hS v (by omega) (by omega))) (fun r2 hr2 => ?_))
    refine tl_step rfl (oj_val (y_assign (fe_t rfl)) ?_)
    refine tl_nil ?_
    refine tx_then ?_
    refine tr_ret ?_
    refine tx_ret (res1 Try.results117 (rok_t rfl)) (fun w' hS => ?_)
    have hS' : St w0 w' (bag _ _ ((⟨b, o, _⟩ : Ent) :: l) :: T) := hS
    exact fin1 hS' hr2

set_option maxRecDepth 100000 in
set_option maxHeartbeats 1000000 in
theorem newB {w0 w : World} {T : List Res} {H D : List Nat} {l : List Ent} (hS : St w0 w (bag H D l :: T)) (v : Int) (h0 : -9223372036854775808 ≤ v) (h1 : v ≤ 9223372036854775807) :
    Calls Try.prog 82 #[.int .i64 v] w fun e w' => ∃ r : BN, r.q.is (v) ∧ e = .returned (.pointer (some ⟨r.b, 0, none⟩)) ∧ St w0 w' (bag r.H r.D (⟨r.b, 0, r.q⟩ :: l) :: T) := by
  refine calls_tr Try.func82 Try.ntmps82 rfl rfl hS ?_
  refine tr_seq ?_
  refine tr_region ?_
  refine tl_step rfl (oj_val (y_assign fe_c) ?_)
  refine tl_nil ?_
  refine tx_then ?_
  refine tr_seq ?_
  refine tr_region ?_
  refine tl_step rfl (oj_allocN 0 Try.zeroValue148 rfl (fun b_n H_n => ?_))
  refine tl_step rfl (oj_val (y_move (fe_t rfl)) ?_)
  refine tl_step rfl (oj_call2 Try.call117 fe_f (fel_cons (fe_t rfl) (fel_cons (fe_t rfl) fel_nil)) (fun w' hS => lift1 (p := fun n => n.is (_)) 0 0 hS rfl rfl (fun T l' hm hS => setiB hS v h0 h1)) (fun r1 hr1 => ?_))
  refine tl_step rfl (oj_val (y_assign (fe_t rfl)) ?_)
  refine tl_nil ?_
  refine tx_then ?_
  refine tr_ret ?_
  refine tx_ret (res1 Try.results82 (rok_t rfl)) (fun w' hS => ?_)
  have hS' : St w0 w' (bag _ _ ((⟨b_n, 0, _⟩ : Ent) :: l) :: T) := hS
  exact finN hS' hr1

end Go.Proofs.Ytpknjfeiiaopgaa.Big

namespace Go.Proofs.Ytpknjfeiiaopgaa.Big
open Go.RowKit Go.Proofs.Ytpknjfeiiaopgaa.E

theorem copy_is {x : Nm} {z : Int} {A : Option Addr} {c : Nat} (h : x.is z) (hc : 0 + x.n ≤ c) : (⟨x.neg, A, 0 + x.n, c, [] ++ x.ds⟩ : Nm).is z :=
  ⟨by rw [Nat.zero_add]; exact h.len, hc, h.dig, h.trim, h.nz, h.val⟩
theorem nm_ne {q : Nm} {z : Int} (h : q.is z) : q.ds ≠ [] ↔ 0 < q.n := by
  rw [← h.len]
  cases q.ds <;> simp
theorem neg_is {q : Nm} {z : Int} {u : Bool} (h : q.is z) (hu : u = true ↔ q.neg = false ∧ 0 < q.n) : (⟨u, q.A, q.n, q.c, q.ds⟩ : Nm).is (-z) := by
  refine ⟨h.len, h.cap, h.dig, h.trim, fun h1 => (nm_ne h).2 (hu.1 h1).2, ?_⟩
  have hv := h.val
  have hz : q.n = 0 → dval q.ds = 0 := fun h0 => by
    have : q.ds = [] := List.eq_nil_of_length_eq_zero (by rw [h.len, h0])
    rw [this]; rfl
  dsimp only
  cases hn : q.neg <;> rw [hn] at hv <;> cases u <;> simp only [sg, if_true, Bool.false_eq_true, if_false] at hv ⊢
  · have : q.n = 0 := by
      rcases Nat.eq_zero_or_pos q.n with h0 | h0
      · exact h0
      · have := hu.2 ⟨hn, h0⟩; cases this
    have := hz this
    omega
  · omega
  · omega
  · have := (hu.1 rfl).1
    rw [hn] at this; cases this
theorem abs_is {q : Nm} {z : Int} (h : q.is z) : (⟨false, q.A, q.n, q.c, q.ds⟩ : Nm).is (z.natAbs : Int) := by
  refine ⟨h.len, h.cap, h.dig, h.trim, fun h1 => (by cases h1), ?_⟩
  have hv := h.val
  have h0 := dval_nonneg h.dig
  dsimp only
  cases hn : q.neg <;> rw [hn] at hv <;> simp only [sg, if_true, Bool.false_eq_true, if_false] at hv ⊢ <;> omega
set_option maxRecDepth 100000 in
set_option maxHeartbeats 1000000 in
theorem setB {w0 w : World} {T : List Res} {H D : List Nat} {l : List Ent} {b o : Nat} {q : Nm} (hS : St w0 w (bag H D (⟨b, o, q⟩ :: l) :: T)) {b_x o_x : Nat} {x : Nm} {zx : Int} (mx : (⟨b_x, o_x, x⟩ : Ent) ∈ (⟨b, o, q⟩ : Ent) :: l) (hx : x.is zx) (lx : x.n ≤ 100000) :
    Calls Try.prog 116 #[.pointer (some ⟨b, o, none⟩), .pointer (some ⟨b_x, o_x, none⟩)] w fun e w' => ∃ r : B1, r.q.is (zx) ∧ e = .returned (.pointer (some ⟨b, o, none⟩)) ∧ St w0 w' (bag r.H r.D (⟨b, o, r.q⟩ :: l) :: T) := by
  have lx1 := hx.len
  refine calls_tr Try.func116 Try.ntmps116 rfl rfl hS ?_
  refine tr_seq ?_
  refine tr_region ?_
  refine tl_step rfl (oj_val (y_assign fe_c) ?_)
  refine tl_nil ?_
  refine tx_then ?_
  refine tr_seq ?_
  refine tb_draw 14 (sel _ []) (fun w h => h.sel _ rfl (by decide)) rfl ?_
  refine tb_float (i := 0) rfl (by kernel_rfl) rfl (wants_none rfl) (yq_of (y_move (fe_t rfl))) ?_
  refine tb_float (i := 1) rfl (by kernel_rfl) rfl (wants_none rfl) (yq_of (y_move (fe_t rfl))) ?_
  refine tb_float (i := 2) rfl (by kernel_rfl) rfl (wants_none rfl) (yq_of (y_move (fe_t rfl))) ?_
  refine tb_float (i := 3) rfl (by kernel_rfl) rfl (wants_none rfl) (yq_of (y_nilCheck (fe_t rfl))) ?_
  refine tb_float (i := 4) rfl (by kernel_rfl) rfl (wants_none rfl) (yq_of (y_fieldAddr (td := 4) Try.underlying148 rfl rfl Try.sizeOf4 (o' := o_x) rfl (fe_t rfl))) ?_
  refine tb_float1 (i := 5) rfl (by kernel_rfl) (by kernel_rfl) rfl (wants_none rfl) (yq_of (y_ldN1 0 Try.isAgg4 (fe_t rfl) rfl mx)) ?_
  refine tb_float (i := 7) rfl (by kernel_rfl) rfl (wants_none rfl) (yq_of (y_move (fe_t rfl))) ?_
  refine tb_float (i := 8) rfl (by kernel_rfl) rfl (wants_none rfl) (yq_of (y_nilCheck (fe_t rfl))) ?_
  refine tb_float (i := 9) rfl (by kernel_rfl) rfl (wants_none rfl) (yq_of (y_fieldAddr (td := 146) Try.underlying148 rfl rfl Try.sizeOf146 (o' := o_x + 1) rfl (fe_t rfl))) ?_
  refine tb_float1 (i := 10) rfl (by kernel_rfl) (by kernel_rfl) rfl (wants_none rfl) (yq_of (y_ldN2 0 Try.isAgg146 (fe_t rfl) rfl mx)) ?_
  refine tb_one1 (i := 6) rfl (by kernel_rfl) (by kernel_rfl) (wants_none rfl) (oj_slice0 Try.underlying146 Try.sizeOf195 (fun g1 => ⟨fun w h => pickT (l := [_, _]) h [1] rfl (by decide), ?_⟩))
  refine tb_one1 (i := 11) rfl (by kernel_rfl) (by kernel_rfl) (wants_none rfl) (oj_appg (i := 0) (s := 1) (z := (.int .u32 0)) (bytes := 4) Try.underlying146 (by kernel_rfl) (fe_t rfl) (fe_t rfl) rfl (rdl_bag 1 rfl mx) (by rw [cU_len, hx.len, Nat.mul_one]) (by decide) (by first | exact oneI | exact oneF (fun _ => rfl) | exact fun u hu => List.all_eq_true.1 (show List.all _ (fun x => x.oneCell') = true from rfl) u hu | (intro u hu; revert u hu; simp [Value.oneCell'])) ⟨by omega, by decide⟩ (fun Aa1 ca1 hca1 => ⟨fun w h => pickT (l := [_, _]) h [1] rfl (by decide), ?_⟩))
  refine tb_float (i := 12) rfl (by kernel_rfl) rfl (wants_none rfl) (yq_of (y_nilCheck (fe_t rfl))) ?_
  refine tb_float (i := 13) rfl (by kernel_rfl) rfl (wants_none rfl) (yq_of (y_fieldAddr (td := 4) Try.underlying148 rfl rfl Try.sizeOf4 (o' := o) rfl (fe_t rfl))) ?_
  refine tb_one2 (i := 14) rfl (by kernel_rfl) (by kernel_rfl) (wants_none rfl) (oj_stN1 1 0 Try.sizeOf4 (fe_t rfl) (fe_t rfl) rfl rfl (⟨fun w h => h.pick [] _ rfl (by decide), ?_⟩))
  refine tb_float (i := 15) rfl (by kernel_rfl) rfl (wants_none rfl) (yq_of (y_nilCheck (fe_t rfl))) ?_
  refine tb_float (i := 16) rfl (by kernel_rfl) rfl (wants_none rfl) (yq_of (y_fieldAddr (td := 146) Try.underlying148 rfl rfl Try.sizeOf146 (o' := o + 1) rfl (fe_t rfl))) ?_
  refine tb_one2 (i := 17) rfl (by kernel_rfl) (by kernel_rfl) (wants_none rfl) (oj_stN3 1 0 0 Try.sizeOf146 (fe_t rfl) (fe_t rfl) rfl rfl rfl rfl (fun D1 => ⟨fun w h => h.pick [] _ rfl (by decide), ?_⟩))
  refine tb_done (by kernel_rfl) ?_
  refine tx_then ?_
  refine tr_seq ?_
  refine tr_region ?_
  refine tl_step rfl (oj_val (y_move (fe_t rfl)) ?_)
  refine tl_step rfl (oj_val (y_assign (fe_t rfl)) ?_)
  refine tl_nil ?_
  refine tx_then ?_
  refine tr_ret ?_
  refine tx_ret (res1 Try.results116 (rok_t rfl)) (fun w' hS => ?_)
  have hS := pickT (l := [_, _]) hS [1] rfl (by decide)
  have hS' : St w0 w' (bag _ _ ((⟨b, o, _⟩ : Ent) :: l) :: T) := hS
  exact fin1 hS' (copy_is hx hca1)

set_option maxRecDepth 100000 in
set_option maxHeartbeats 1000000 in
theorem negB {w0 w : World} {T : List Res} {H D : List Nat} {l : List Ent} {b o : Nat} {q : Nm} (hS : St w0 w (bag H D (⟨b, o, q⟩ :: l) :: T)) {b_x o_x : Nat} {x : Nm} {zx : Int} (mx : (⟨b_x, o_x, x⟩ : Ent) ∈ (⟨b, o, q⟩ : Ent) :: l) (hx : x.is zx) (lx : x.n ≤ 100000) :
    Calls Try.prog 115 #[.pointer (some ⟨b, o, none⟩), .pointer (some ⟨b_x, o_x, none⟩)] w fun e w' => ∃ r : B1, r.q.is (-zx) ∧ e = .returned (.pointer (some ⟨b, o, none⟩)) ∧ St w0 w' (bag r.H r.D (⟨b, o, r.q⟩ :: l) :: T) := by
  refine calls_tr Try.func115 Try.ntmps115 rfl rfl hS ?_
  refine tr_seq ?_
  refine tr_region ?_
  refine tl_step rfl (oj_val (y_assign fe_c) ?_)
  refine tl_nil ?_
  refine tx_then ?_
  refine tr_seq ?_
  refine tr_region ?_
  refine tl_step rfl (oj_val (y_move (fe_t rfl)) ?_)
  refine tl_step rfl (oj_val (y_move (fe_t rfl)) ?_)
  refine tl_step rfl (oj_call2 Try.call116 fe_f (fel_cons (fe_t rfl) (fel_cons (fe_t rfl) fel_nil)) (fun w' hS => lift1 (p := fun n => n.is (zx)) 0 0 hS rfl rfl (fun T l' hm hS => setB hS (hm _ mx) hx lx)) (fun r1 hr1 => ?_))
  refine tl_nil ?_
  refine tx_then ?_
  refine tr_seq ?_
  refine tr_region ?_
  refine tl_step rfl (oj_val (y_move (fe_t rfl)) ?_)
  refine tl_step rfl (oj_val (y_move (fe_t rfl)) ?_)
  refine tl_step rfl (oj_val (y_nilCheck (fe_t rfl)) ?_)
  refine tl_step rfl (oj_val (y_fieldAddr (td := 4) Try.underlying148 rfl rfl Try.sizeOf4 (o' := o) rfl (fe_t rfl)) ?_)
  refine tl_step rfl (oj_val (y_ldN1 0 Try.isAgg4 (fe_t rfl) rfl (pget_mem 0 rfl)) ?_)
  refine tl_step rfl (oj_val (y_not (fe_t rfl)) ?_)
  refine tl_step rfl (oj_val (y_move (fe_t rfl)) ?_)
  refine tl_split (d := 14) rfl (fun hq1 => ?_) (fun hq2 => ?_)
  · refine tl_want rfl rfl rfl (oj_val (y_move (fe_t rfl)) ?_)
    refine tl_want rfl rfl rfl (oj_val (y_nilCheck (fe_t rfl)) ?_)
    refine tl_want rfl rfl rfl (oj_val (y_fieldAddr (td := 146) Try.underlying148 rfl rfl Try.sizeOf146 (o' := o + 1) rfl (fe_t rfl)) ?_)
    refine tl_want rfl rfl rfl (oj_val (y_ldN2 0 Try.isAgg146 (fe_t rfl) rfl (pget_mem 0 rfl)) ?_)
    refine tl_want rfl rfl rfl (oj_val (y_len Try.underlying146 (fe_t rfl)) ?_)
    refine tl_want rfl rfl rfl (oj_val (y_gtr (fe_t rfl) fe_c) ?_)
    refine tl_step rfl (oj_val (y_pickt (fe_t rfl) (fe_t rfl)) ?_)
    refine tl_step rfl (oj_val (y_nilCheck (fe_t rfl)) ?_)
    refine tl_step rfl (oj_val (y_fieldAddr (td := 4) Try.underlying148 rfl rfl Try.sizeOf4 (o' := o) rfl (fe_t rfl)) ?_)
    refine tl_step rfl (oj_stN1 0 0 Try.sizeOf4 (fe_t rfl) (fe_t rfl) rfl rfl (?_))
    refine tl_nil ?_
    refine tx_then ?_
    refine tr_seq ?_
    refine tr_region ?_
    refine tl_step rfl (oj_val (y_move (fe_t rfl)) ?_)
    refine tl_step rfl (oj_val (y_assign (fe_t rfl)) ?_)
    refine tl_nil ?_
    refine tx_then ?_
    refine tr_ret ?_
    refine tx_ret (res1 Try.results115 (rok_t rfl)) (fun w' hS => ?_)
    have hS' : St w0 w' (bag _ _ ((⟨b, o, _⟩ : Ent) :: l) :: T) := hS
    exact fin1 hS' (neg_is hr1 (by simp_all))
  · refine tl_skip rfl rfl rfl rfl ?_
    refine tl_skip rfl rfl rfl rfl ?_
    refine tl_skip rfl rfl rfl rfl ?_
    refine tl_skip rfl rfl rfl rfl ?_
    refine tl_skip rfl rfl rfl rfl ?_
    refine tl_skip rfl rfl rfl rfl ?_
    refine tl_step rfl (oj_val (y_pickf (fe_t rfl) fe_c) ?_)
    refine tl_step rfl (oj_val (y_nilCheck (fe_t rfl)) ?_)
    refine tl_step rfl (oj_val (y_fieldAddr (td := 4) Try.underlying148 rfl rfl Try.sizeOf4 (o' := o) rfl (fe_t rfl)) ?_)
    refine tl_step rfl (oj_stN1 0 0 Try.sizeOf4 (fe_t rfl) (fe_t rfl) rfl rfl (?_))
    refine tl_nil ?_
    refine tx_then ?_
    refine tr_seq ?_
    refine tr_region ?_
    refine tl_step rfl (oj_val (y_move (fe_t rfl)) ?_)
    refine tl_step rfl (oj_val (y_assign (fe_t rfl)) ?_)
    refine tl_nil ?_
    refine tx_then ?_
    refine tr_ret ?_
    refine tx_ret (res1 Try.results115 (rok_t rfl)) (fun w' hS => ?_)
    have hS' : St w0 w' (bag _ _ ((⟨b, o, _⟩ : Ent) :: l) :: T) := hS
    exact fin1 hS' (neg_is hr1 (by simp_all))

set_option maxRecDepth 100000 in
set_option maxHeartbeats 1000000 in
theorem absB {w0 w : World} {T : List Res} {H D : List Nat} {l : List Ent} {b o : Nat} {q : Nm} (hS : St w0 w (bag H D (⟨b, o, q⟩ :: l) :: T)) {b_x o_x : Nat} {x : Nm} {zx : Int} (mx : (⟨b_x, o_x, x⟩ : Ent) ∈ (⟨b, o, q⟩ : Ent) :: l) (hx : x.is zx) (lx : x.n ≤ 100000) :
    Calls Try.prog 135 #[.pointer (some ⟨b, o, none⟩), .pointer (some ⟨b_x, o_x, none⟩)] w fun e w' => ∃ r : B1, r.q.is ((zx.natAbs : Int)) ∧ e = .returned (.pointer (some ⟨b, o, none⟩)) ∧ St w0 w' (bag r.H r.D (⟨b, o, r.q⟩ :: l) :: T) := by
  refine calls_tr Try.func135 Try.ntmps135 rfl rfl hS ?_
  refine tr_seq ?_
  refine tr_region ?_
  refine tl_step rfl (oj_val (y_assign fe_c) ?_)
  refine tl_nil ?_
  refine tx_then ?_
  refine tr_seq ?_
  refine tr_region ?_
  refine tl_step rfl (oj_val (y_move (fe_t rfl)) ?_)
  refine tl_step rfl (oj_val (y_move (fe_t rfl)) ?_)
  refine tl_step rfl (oj_call2 Try.call116 fe_f (fel_cons (fe_t rfl) (fel_cons (fe_t rfl) fel_nil)) (fun w' hS => lift1 (p := fun n => n.is (zx)) 0 0 hS rfl rfl (fun T l' hm hS => setB hS (hm _ mx) hx lx)) (fun r1 hr1 => ?_))
  refine tl_nil ?_
  refine tx_then ?_
  refine tr_seq ?_
  refine tr_region ?_
  refine tl_step rfl (oj_val (y_move (fe_t rfl)) ?_)
  refine tl_step rfl (oj_val (y_nilCheck (fe_t rfl)) ?_)
  refine tl_step rfl (oj_val (y_fieldAddr (td := 4) Try.underlying148 rfl rfl Try.sizeOf4 (o' := o) rfl (fe_t rfl)) ?_)
  refine tl_step rfl (oj_stN1 0 0 Try.sizeOf4 (fe_t rfl) fe_c rfl rfl (?_))
  refine tl_nil ?_
  refine tx_then ?_
  refine tr_seq ?_
  refine tr_region ?_
  refine tl_step rfl (oj_val (y_move (fe_t rfl)) ?_)
  refine tl_step rfl (oj_val (y_assign (fe_t rfl)) ?_)
  refine tl_nil ?_
  refine tx_then ?_
  refine tr_ret ?_
  refine tx_ret (res1 Try.results135 (rok_t rfl)) (fun w' hS => ?_)
  have hS' : St w0 w' (bag _ _ ((⟨b, o, _⟩ : Ent) :: l) :: T) := hS
  exact fin1 hS' (abs_is hr1)

end Go.Proofs.Ytpknjfeiiaopgaa.Big

namespace Go.Proofs.Ytpknjfeiiaopgaa.Big
open Go.RowKit Go.Proofs.Ytpknjfeiiaopgaa.E

set_option maxRecDepth 100000 in
set_option maxHeartbeats 1000000 in
theorem sumE_ge (A A' : Option Addr) (c c' : Nat) (x y : List Int) (w : World) (hr : Rd w A (cU x)) (hr' : Rd w A' (cU y)) (hx : Dig x) (hy : Dig y) (n m : Nat) (hn : x.length = n) (hm : y.length = m) (lx : n ≤ 100000) (ly : m ≤ 100000) (hle : m ≤ n) :
    Calls Try.prog 129 #[.slice A n c, .slice A' m c'] w fun e w' => ∃ p : Option Addr × Nat × List Int, (Dig p.2.2 ∧ dval p.2.2 = dval x + dval y ∧ p.2.2.length = (n + 1) ∧ (n + 1) ≤ p.2.1) ∧ e = .returned (.slice p.1 (n + 1) p.2.1) ∧ St w w' [dig p.1 (n + 1) p.2.1 p.2.2] := by
  refine calls_tr Try.func129 Try.ntmps129 rfl rfl (St.refl _) ?_
  refine tr_seq ?_
  refine tr_region ?_
  refine tl_step rfl (oj_val (y_assign fe_c) ?_)
  refine tl_nil ?_
  refine tx_then ?_
  refine tr_seq ?_
  refine tr_seq ?_
  refine tr_region ?_
  refine tl_step rfl (oj_val (y_move (fe_t rfl)) ?_)
  refine tl_step rfl (oj_val (y_len Try.underlying146 (fe_t rfl)) ?_)
  refine tl_step rfl (oj_val (y_move (fe_t rfl)) ?_)
  refine tl_step rfl (oj_val (y_len Try.underlying146 (fe_t rfl)) ?_)
  refine tl_step rfl (oj_val (y_lss (fe_t rfl) (fe_t rfl)) ?_)
  refine tl_nil ?_
  refine tx_then ?_
  refine tr_condp (fe_t rfl) (fun hq1 => ?_) (fun hq2 => ?_)
  · exfalso; omega
  · refine tr_skip ?_
    refine tx_then ?_
    refine tr_seq ?_
    refine tr_region ?_
    refine tl_step rfl (oj_val (y_move (fe_t rfl)) ?_)
    refine tl_step rfl (oj_val (y_len Try.underlying146 (fe_t rfl)) ?_)
    refine tl_step rfl (oj_val (y_inc (fe_t rfl) fe_c (by omega)) ?_)
    refine tl_step rfl (oj_make (n := n + 1) (z := (.int .u32 0)) (bytes := 4) Try.underlying146 (by kernel_rfl) (fe_t rfl) (fe_t rfl) rfl ⟨by omega, by decide⟩ (fun g => ?_))
    refine tl_step rfl (oj_val (y_assign (fe_t rfl)) ?_)
    refine tl_nil ?_
    refine tx_then ?_
    refine tr_seq ?_
    refine tr_region ?_
    refine tl_step rfl (oj_val (y_assign fe_c) ?_)
    refine tl_nil ?_
    refine tx_then ?_
    refine tr_seq ?_
    refine tr_seq ?_
    refine tr_region ?_
    refine tl_step rfl (oj_val (y_move (fe_t rfl)) ?_)
    refine tl_step rfl (oj_val (y_len Try.underlying146 (fe_t rfl)) ?_)
    refine tl_step rfl (oj_val (y_move fe_c) ?_)
    refine tl_nil ?_
    refine tx_then ?_
    refine tr_block ?_
    refine tr_loop4 [6, 7, 8, 22, 23, 24, 25, 26, 27, 28, 29, 30, 31, 32, 33, 34, 35, 36, 37, 38, 39, 40, 41, 42, 43, 44, 45, 46, 47, 48, 49] (fun (k : Nat) (zs : List Int) (cc : Int) (vx : List Value) => [(22, .int .i64 (k : Int)), (6, .int .u64 cc)]) 0 (fun (k : Nat) (zs : List Int) (cc : Int) (vx : List Value) => [(0, vec 195 1 (.slice (some ⟨g, 0, none⟩) (n + 1) (n + 1)) (n + 1) vx)]) (fun (k : Nat) (zs : List Int) (cc : Int) (vx : List Value) => k ≤ n ∧ vx = cU zs ∧ SumInv x y zs k cc) (fun (k : Nat) (zs : List Int) (cc : Int) (vx : List Value) => n - k) (0) (List.replicate (x.length + 1) 0) (0) (List.replicate (n + 1) (.int .u32 0)) (cov_cons (by first | rfl | exact v_int (by omega) | exact v_bool (by simp [*])) (cov_cons (by first | rfl | exact v_int (by omega) | exact v_bool (by simp [*])) (cov_nil))) (fun w h => h) ?_ ?_
    · try dsimp only
      exact ⟨by omega, by simp [cU]; omega, sum_start _ _⟩
    intro k zs cc vx hp
    obtain ⟨hk, hvx, hinv⟩ := hp
    have hzl := hinv.2.2.1
    refine tr_seq ?_
    refine tr_region ?_
    refine tl_step rfl (oj_val (y_lss (fe_t rfl) (fe_t rfl)) ?_)
    refine tl_nil ?_
    refine tx_then ?_
    refine tr_seq ?_
    refine tr_condp (fe_t rfl) (fun hq3 => ?_) (fun hq4 => ?_)
    · refine tr_skip ?_
      refine tx_then ?_
      refine tr_seq ?_
      refine tr_block ?_
      refine tr_seq ?_
      refine tr_region ?_
      refine tl_step rfl (oj_val (y_move (fe_t rfl)) ?_)
      refine tl_step rfl (oj_val (y_index Try.underlying146 Try.sizeOf195 (fe_t rfl) (fe_t rfl) (rdl_out hr) (by rw [cU_len]; omega) (by decide) (by omega) (Nat.mul_one _)) ?_)
      refine tl_step rfl (oj_val (y_ld (v := .int .u32 (x[k]'(by omega))) Try.isAgg195 (fe_t rfl) (rdl_out hr) (cU_get (by omega))) ?_)
      refine tl_step rfl (oj_val (y_assign (fe_t rfl)) ?_)
      refine tl_step rfl (oj_val (y_assign (fe_t rfl)) ?_)
      refine tl_nil ?_
      refine tx_then ?_
      refine tr_seq ?_
      have hxi := hx.get (k := k) (by omega)
      have hc0 := hinv.1
      have hc1 := hinv.2.1
      refine tr_region ?_
      refine tl_step rfl (oj_val (y_move (fe_t rfl)) ?_)
      refine tl_step rfl (oj_val (y_move (fe_t rfl)) ?_)
      refine tl_step rfl (oj_val (y_convi Try.underlying195 Try.underlying117 (fe_t rfl) (IntWalk.u64_in _ (by omega))) ?_)
      refine tl_step rfl (oj_val (y_as (y_addk (fe_t rfl) (fe_t rfl)) (IntWalk.u64_in _ (by omega))) ?_)
      refine tl_step rfl (oj_val (y_assign (fe_t rfl)) ?_)
      refine tl_nil ?_
      refine tx_then ?_
      refine tr_seq ?_
      refine tr_seq ?_
      refine tr_region ?_
      refine tl_step rfl (oj_val (y_move (fe_t rfl)) ?_)
      refine tl_step rfl (oj_val (y_move (fe_t rfl)) ?_)
      refine tl_step rfl (oj_val (y_len Try.underlying146 (fe_t rfl)) ?_)
      refine tl_step rfl (oj_val (y_lss (fe_t rfl) (fe_t rfl)) ?_)
      refine tl_nil ?_
      refine tx_then ?_
      refine tr_condp (fe_t rfl) (fun hq5 => ?_) (fun hq6 => ?_)
      · have hyi := hy.get (k := k) (by omega)
        refine tr_region ?_
        refine tl_step rfl (oj_val (y_move (fe_t rfl)) ?_)
        refine tl_step rfl (oj_val (y_move (fe_t rfl)) ?_)
        refine tl_step rfl (oj_val (y_move (fe_t rfl)) ?_)
        refine tl_step rfl (oj_val (y_index Try.underlying146 Try.sizeOf195 (fe_t rfl) (fe_t rfl) (rdl_out hr') (by rw [cU_len]; omega) (by decide) (by omega) (Nat.mul_one _)) ?_)
        refine tl_step rfl (oj_val (y_ld (v := .int .u32 (y[k]'(by omega))) Try.isAgg195 (fe_t rfl) (rdl_out hr') (cU_get (by omega))) ?_)
        refine tl_step rfl (oj_val (y_convi Try.underlying195 Try.underlying117 (fe_t rfl) (IntWalk.u64_in _ (by omega))) ?_)
        refine tl_step rfl (oj_val (y_as (y_addk (fe_t rfl) (fe_t rfl)) (IntWalk.u64_in _ (by omega))) ?_)
        refine tl_step rfl (oj_val (y_assign (fe_t rfl)) ?_)
        refine tl_nil ?_
        refine tx_then ?_
        refine tr_seq ?_
        refine tr_region ?_
        refine tl_step rfl (oj_val (y_move (fe_t rfl)) ?_)
        refine tl_step rfl (oj_val (y_move (fe_t rfl)) ?_)
        refine tl_step rfl (oj_val (y_move (fe_t rfl)) ?_)
        refine tl_step rfl (oj_val (y_as (y_conv Try.underlying117 Try.underlying195 (fe_t rfl)) (wrap_lo _)) ?_)
        refine tl_step rfl (oj_val (y_index Try.underlying146 Try.sizeOf195 (fe_t rfl) (fe_t rfl) (rdl_vec 0 rfl) (by rw [hvx, cU_len]; omega) (by decide) (by omega) (Nat.mul_one _)) ?_)
        refine tl_step rfl (oj_storeE1 (i := 0) Try.sizeOf195 (fe_t rfl) (fe_t rfl) rfl rfl rfl (by omega) (?_))
        refine tl_nil ?_
        refine tx_then ?_
        refine tr_region ?_
        refine tl_step rfl (oj_val (y_move (fe_t rfl)) ?_)
        refine tl_step rfl (oj_val (y_as (y_shr (fe_t rfl) fe_c (by decide)) (shr32 (by omega))) ?_)
        refine tl_step rfl (oj_val (y_assign (fe_t rfl)) ?_)
        refine tl_nil ?_
        refine tx_in ?_
        refine tx_then ?_
        refine tr_region ?_
        refine tl_step rfl (oj_val (y_inc (fe_t rfl) fe_c (by omega)) ?_)
        refine tl_step rfl (oj_val (y_move (fe_t rfl)) ?_)
        refine tl_nil ?_
        apply tx_back4 (k + 1) (zs.set k ((cc + (x[k]'(by omega)) + (y[k]'(by omega))) % 4294967296)) ((cc + (x[k]'(by omega)) + (y[k]'(by omega))) / 4294967296) (_)
        · exact (cov_cons (by first | rfl | exact v_int (by omega) | exact v_bool (by simp [*])) (cov_cons (by first | rfl | exact v_int (by omega) | exact v_bool (by simp [*])) (cov_nil)))
        · repeat (first | exact over_nil | refine over_put rfl ?_ | refine over_drop rfl ?_)
        · exact fun w h => h.pick [0] _ rfl (by decide)
        · exact ⟨⟨by omega, by rw [hvx, cU, cU, List.map_set], sum_next hinv hx hy (by omega) (by rw [getD_lt (by omega)])⟩, by omega⟩
      · refine tr_skip ?_
        refine tx_then ?_
        refine tr_seq ?_
        refine tr_region ?_
        refine tl_step rfl (oj_val (y_move (fe_t rfl)) ?_)
        refine tl_step rfl (oj_val (y_move (fe_t rfl)) ?_)
        refine tl_step rfl (oj_val (y_move (fe_t rfl)) ?_)
        refine tl_step rfl (oj_val (y_as (y_conv Try.underlying117 Try.underlying195 (fe_t rfl)) (wrap_lo _)) ?_)
        refine tl_step rfl (oj_val (y_index Try.underlying146 Try.sizeOf195 (fe_t rfl) (fe_t rfl) (rdl_vec 0 rfl) (by rw [hvx, cU_len]; omega) (by decide) (by omega) (Nat.mul_one _)) ?_)
        refine tl_step rfl (oj_storeE1 (i := 0) Try.sizeOf195 (fe_t rfl) (fe_t rfl) rfl rfl rfl (by omega) (?_))
        refine tl_nil ?_
        refine tx_then ?_
        refine tr_region ?_
        refine tl_step rfl (oj_val (y_move (fe_t rfl)) ?_)
        refine tl_step rfl (oj_val (y_as (y_shr (fe_t rfl) fe_c (by decide)) (shr32 (by omega))) ?_)
        refine tl_step rfl (oj_val (y_assign (fe_t rfl)) ?_)
        refine tl_nil ?_
        refine tx_in ?_
        refine tx_then ?_
        refine tr_region ?_
        refine tl_step rfl (oj_val (y_inc (fe_t rfl) fe_c (by omega)) ?_)
        refine tl_step rfl (oj_val (y_move (fe_t rfl)) ?_)
        refine tl_nil ?_
        apply tx_back4 (k + 1) (zs.set k ((cc + (x[k]'(by omega))) % 4294967296)) ((cc + (x[k]'(by omega))) / 4294967296) (_)
        · exact (cov_cons (by first | rfl | exact v_int (by omega) | exact v_bool (by simp [*])) (cov_cons (by first | rfl | exact v_int (by omega) | exact v_bool (by simp [*])) (cov_nil)))
        · repeat (first | exact over_nil | refine over_put rfl ?_ | refine over_drop rfl ?_)
        · exact fun w h => h.pick [0] _ rfl (by decide)
        · exact ⟨⟨by omega, by rw [hvx, cU, cU, List.map_set], sum_next hinv hx hy (by omega) (by rw [getD_ge (by omega)]; omega)⟩, by omega⟩
    · refine tr_exit ?_
      refine tx_then_exit ?_
      refine tx_then_exit ?_
      refine tx_in_exit ?_
      refine tx_then ?_
      refine tr_seq ?_
      have hc0 := hinv.1
      have hc1 := hinv.2.1
      refine tr_region ?_
      refine tl_step rfl (oj_val (y_move (fe_t rfl)) ?_)
      refine tl_step rfl (oj_val (y_move (fe_t rfl)) ?_)
      refine tl_step rfl (oj_val (y_len Try.underlying146 (fe_t rfl)) ?_)
      refine tl_step rfl (oj_val (y_move (fe_t rfl)) ?_)
      refine tl_step rfl (oj_val (y_convi Try.underlying117 Try.underlying195 (fe_t rfl) (IntWalk.u32_in _ (by omega))) ?_)
      refine tl_step rfl (oj_val (y_index Try.underlying146 Try.sizeOf195 (fe_t rfl) (fe_t rfl) (rdl_vec 0 rfl) (by rw [hvx, cU_len]; omega) (by decide) (by omega) (Nat.mul_one _)) ?_)
      refine tl_step rfl (oj_storeE1 (i := 0) Try.sizeOf195 (fe_t rfl) (fe_t rfl) rfl rfl rfl (by omega) (?_))
      refine tl_nil ?_
      refine tx_then ?_
      refine tr_seq ?_
      refine tr_region ?_
      refine tl_step rfl (oj_val (y_move (fe_t rfl)) ?_)
      refine tl_step rfl (oj_val (y_assign (fe_t rfl)) ?_)
      refine tl_nil ?_
      refine tx_then ?_
      refine tr_ret ?_
      refine tx_ret (res1 Try.results129 (rok_t rfl)) (fun w' hS => ?_)
      have hke : k = x.length := by omega
      rw [hke] at hinv
      obtain ⟨e1, e2, e3⟩ := sum_end hinv (by omega)
      rw [hvx, show n = x.length by omega, show (cU zs).set x.length (.int .u32 cc) = cU (zs.set x.length cc) by rw [cU, cU, List.map_set]] at hS
      exact ⟨(some ⟨g, 0, none⟩, (n + 1), zs.set x.length cc), ⟨e1, by first | exact e2 | (dsimp only; omega), by dsimp only; omega, Nat.le_refl _⟩, rfl, by first | exact hS.pick [0] _ rfl (by decide) | (rw [show x.length = n by omega] at hS ⊢; exact hS.pick [0] _ rfl (by decide))⟩

set_option maxRecDepth 100000 in
set_option maxHeartbeats 1000000 in
theorem sumE_lt (A A' : Option Addr) (c c' : Nat) (x y : List Int) (w : World) (hr : Rd w A (cU x)) (hr' : Rd w A' (cU y)) (hx : Dig x) (hy : Dig y) (n m : Nat) (hn : x.length = n) (hm : y.length = m) (lx : n ≤ 100000) (ly : m ≤ 100000) (hle : n < m) :
    Calls Try.prog 129 #[.slice A n c, .slice A' m c'] w fun e w' => ∃ p : Option Addr × Nat × List Int, (Dig p.2.2 ∧ dval p.2.2 = dval x + dval y ∧ p.2.2.length = (m + 1) ∧ (m + 1) ≤ p.2.1) ∧ e = .returned (.slice p.1 (m + 1) p.2.1) ∧ St w w' [dig p.1 (m + 1) p.2.1 p.2.2] := by
  refine calls_tr Try.func129 Try.ntmps129 rfl rfl (St.refl _) ?_
  refine tr_seq ?_
  refine tr_region ?_
  refine tl_step rfl (oj_val (y_assign fe_c) ?_)
  refine tl_nil ?_
  refine tx_then ?_
  refine tr_seq ?_
  refine tr_seq ?_
  refine tr_region ?_
  refine tl_step rfl (oj_val (y_move (fe_t rfl)) ?_)
  refine tl_step rfl (oj_val (y_len Try.underlying146 (fe_t rfl)) ?_)
  refine tl_step rfl (oj_val (y_move (fe_t rfl)) ?_)
  refine tl_step rfl (oj_val (y_len Try.underlying146 (fe_t rfl)) ?_)
  refine tl_step rfl (oj_val (y_lss (fe_t rfl) (fe_t rfl)) ?_)
  refine tl_nil ?_
  refine tx_then ?_
  refine tr_condp (fe_t rfl) (fun hq1 => ?_) (fun hq2 => ?_)
  · refine tr_region ?_
    refine tl_step rfl (oj_val (y_move (fe_t rfl)) ?_)
    refine tl_step rfl (oj_val (y_move (fe_t rfl)) ?_)
    refine tl_step rfl (oj_val (y_assign (fe_t rfl)) ?_)
    refine tl_step rfl (oj_val (y_assign (fe_t rfl)) ?_)
    refine tl_nil ?_
    refine tx_then ?_
    refine tr_seq ?_
    refine tr_region ?_
    refine tl_step rfl (oj_val (y_move (fe_t rfl)) ?_)
    refine tl_step rfl (oj_val (y_len Try.underlying146 (fe_t rfl)) ?_)
    refine tl_step rfl (oj_val (y_inc (fe_t rfl) fe_c (by omega)) ?_)
    refine tl_step rfl (oj_make (n := m + 1) (z := (.int .u32 0)) (bytes := 4) Try.underlying146 (by kernel_rfl) (fe_t rfl) (fe_t rfl) rfl ⟨by omega, by decide⟩ (fun g => ?_))
    refine tl_step rfl (oj_val (y_assign (fe_t rfl)) ?_)
    refine tl_nil ?_
    refine tx_then ?_
    refine tr_seq ?_
    refine tr_region ?_
    refine tl_step rfl (oj_val (y_assign fe_c) ?_)
    refine tl_nil ?_
    refine tx_then ?_
    refine tr_seq ?_
    refine tr_seq ?_
    refine tr_region ?_
    refine tl_step rfl (oj_val (y_move (fe_t rfl)) ?_)
    refine tl_step rfl (oj_val (y_len Try.underlying146 (fe_t rfl)) ?_)
    refine tl_step rfl (oj_val (y_move fe_c) ?_)
    refine tl_nil ?_
    refine tx_then ?_
    refine tr_block ?_
    refine tr_loop4 [6, 7, 8, 22, 23, 24, 25, 26, 27, 28, 29, 30, 31, 32, 33, 34, 35, 36, 37, 38, 39, 40, 41, 42, 43, 44, 45, 46, 47, 48, 49] (fun (k : Nat) (zs : List Int) (cc : Int) (vx : List Value) => [(22, .int .i64 (k : Int)), (6, .int .u64 cc)]) 0 (fun (k : Nat) (zs : List Int) (cc : Int) (vx : List Value) => [(0, vec 195 1 (.slice (some ⟨g, 0, none⟩) (m + 1) (m + 1)) (m + 1) vx)]) (fun (k : Nat) (zs : List Int) (cc : Int) (vx : List Value) => k ≤ m ∧ vx = cU zs ∧ SumInv y x zs k cc) (fun (k : Nat) (zs : List Int) (cc : Int) (vx : List Value) => m - k) (0) (List.replicate (y.length + 1) 0) (0) (List.replicate (m + 1) (.int .u32 0)) (cov_cons (by first | rfl | exact v_int (by omega) | exact v_bool (by simp [*])) (cov_cons (by first | rfl | exact v_int (by omega) | exact v_bool (by simp [*])) (cov_nil))) (fun w h => h) ?_ ?_
    · try dsimp only
      exact ⟨by omega, by simp [cU]; omega, sum_start _ _⟩
    intro k zs cc vx hp
    obtain ⟨hk, hvx, hinv⟩ := hp
    have hzl := hinv.2.2.1
    refine tr_seq ?_
    refine tr_region ?_
    refine tl_step rfl (oj_val (y_lss (fe_t rfl) (fe_t rfl)) ?_)
    refine tl_nil ?_
    refine tx_then ?_
    refine tr_seq ?_
    refine tr_condp (fe_t rfl) (fun hq3 => ?_) (fun hq4 => ?_)
    · refine tr_skip ?_
      refine tx_then ?_
      refine tr_seq ?_
      refine tr_block ?_
      refine tr_seq ?_
      refine tr_region ?_
      refine tl_step rfl (oj_val (y_move (fe_t rfl)) ?_)
      refine tl_step rfl (oj_val (y_index Try.underlying146 Try.sizeOf195 (fe_t rfl) (fe_t rfl) (rdl_out hr') (by rw [cU_len]; omega) (by decide) (by omega) (Nat.mul_one _)) ?_)
      refine tl_step rfl (oj_val (y_ld (v := .int .u32 (y[k]'(by omega))) Try.isAgg195 (fe_t rfl) (rdl_out hr') (cU_get (by omega))) ?_)
      refine tl_step rfl (oj_val (y_assign (fe_t rfl)) ?_)
      refine tl_step rfl (oj_val (y_assign (fe_t rfl)) ?_)
      refine tl_nil ?_
      refine tx_then ?_
      refine tr_seq ?_
      have hxi := hy.get (k := k) (by omega)
      have hc0 := hinv.1
      have hc1 := hinv.2.1
      refine tr_region ?_
      refine tl_step rfl (oj_val (y_move (fe_t rfl)) ?_)
      refine tl_step rfl (oj_val (y_move (fe_t rfl)) ?_)
      refine tl_step rfl (oj_val (y_convi Try.underlying195 Try.underlying117 (fe_t rfl) (IntWalk.u64_in _ (by omega))) ?_)
      refine tl_step rfl (oj_val (y_as (y_addk (fe_t rfl) (fe_t rfl)) (IntWalk.u64_in _ (by omega))) ?_)
      refine tl_step rfl (oj_val (y_assign (fe_t rfl)) ?_)
      refine tl_nil ?_
      refine tx_then ?_
      refine tr_seq ?_
      refine tr_seq ?_
      refine tr_region ?_
      refine tl_step rfl (oj_val (y_move (fe_t rfl)) ?_)
      refine tl_step rfl (oj_val (y_move (fe_t rfl)) ?_)
      refine tl_step rfl (oj_val (y_len Try.underlying146 (fe_t rfl)) ?_)
      refine tl_step rfl (oj_val (y_lss (fe_t rfl) (fe_t rfl)) ?_)
      refine tl_nil ?_
      refine tx_then ?_
      refine tr_condp (fe_t rfl) (fun hq5 => ?_) (fun hq6 => ?_)
      · have hyi := hx.get (k := k) (by omega)
        refine tr_region ?_
        refine tl_step rfl (oj_val (y_move (fe_t rfl)) ?_)
        refine tl_step rfl (oj_val (y_move (fe_t rfl)) ?_)
        refine tl_step rfl (oj_val (y_move (fe_t rfl)) ?_)
        refine tl_step rfl (oj_val (y_index Try.underlying146 Try.sizeOf195 (fe_t rfl) (fe_t rfl) (rdl_out hr) (by rw [cU_len]; omega) (by decide) (by omega) (Nat.mul_one _)) ?_)
        refine tl_step rfl (oj_val (y_ld (v := .int .u32 (x[k]'(by omega))) Try.isAgg195 (fe_t rfl) (rdl_out hr) (cU_get (by omega))) ?_)
        refine tl_step rfl (oj_val (y_convi Try.underlying195 Try.underlying117 (fe_t rfl) (IntWalk.u64_in _ (by omega))) ?_)
        refine tl_step rfl (oj_val (y_as (y_addk (fe_t rfl) (fe_t rfl)) (IntWalk.u64_in _ (by omega))) ?_)
        refine tl_step rfl (oj_val (y_assign (fe_t rfl)) ?_)
        refine tl_nil ?_
        refine tx_then ?_
        refine tr_seq ?_
        refine tr_region ?_
        refine tl_step rfl (oj_val (y_move (fe_t rfl)) ?_)
        refine tl_step rfl (oj_val (y_move (fe_t rfl)) ?_)
        refine tl_step rfl (oj_val (y_move (fe_t rfl)) ?_)
        refine tl_step rfl (oj_val (y_as (y_conv Try.underlying117 Try.underlying195 (fe_t rfl)) (wrap_lo _)) ?_)
        refine tl_step rfl (oj_val (y_index Try.underlying146 Try.sizeOf195 (fe_t rfl) (fe_t rfl) (rdl_vec 0 rfl) (by rw [hvx, cU_len]; omega) (by decide) (by omega) (Nat.mul_one _)) ?_)
        refine tl_step rfl (oj_storeE1 (i := 0) Try.sizeOf195 (fe_t rfl) (fe_t rfl) rfl rfl rfl (by omega) (?_))
        refine tl_nil ?_
        refine tx_then ?_
        refine tr_region ?_
        refine tl_step rfl (oj_val (y_move (fe_t rfl)) ?_)
        refine tl_step rfl (oj_val (y_as (y_shr (fe_t rfl) fe_c (by decide)) (shr32 (by omega))) ?_)
        refine tl_step rfl (oj_val (y_assign (fe_t rfl)) ?_)
        refine tl_nil ?_
        refine tx_in ?_
        refine tx_then ?_
        refine tr_region ?_
        refine tl_step rfl (oj_val (y_inc (fe_t rfl) fe_c (by omega)) ?_)
        refine tl_step rfl (oj_val (y_move (fe_t rfl)) ?_)
        refine tl_nil ?_
        apply tx_back4 (k + 1) (zs.set k ((cc + (y[k]'(by omega)) + (x[k]'(by omega))) % 4294967296)) ((cc + (y[k]'(by omega)) + (x[k]'(by omega))) / 4294967296) (_)
        · exact (cov_cons (by first | rfl | exact v_int (by omega) | exact v_bool (by simp [*])) (cov_cons (by first | rfl | exact v_int (by omega) | exact v_bool (by simp [*])) (cov_nil)))
        · repeat (first | exact over_nil | refine over_put rfl ?_ | refine over_drop rfl ?_)
        · exact fun w h => h.pick [0] _ rfl (by decide)
        · exact ⟨⟨by omega, by rw [hvx, cU, cU, List.map_set], sum_next hinv hy hx (by omega) (by rw [getD_lt (by omega)])⟩, by omega⟩
      · refine tr_skip ?_
        refine tx_then ?_
        refine tr_seq ?_
        refine tr_region ?_
        refine tl_step rfl (oj_val (y_move (fe_t rfl)) ?_)
        refine tl_step rfl (oj_val (y_move (fe_t rfl)) ?_)
        refine tl_step rfl (oj_val (y_move (fe_t rfl)) ?_)
        refine tl_step rfl (oj_val (y_as (y_conv Try.underlying117 Try.underlying195 (fe_t rfl)) (wrap_lo _)) ?_)
        refine tl_step rfl (oj_val (y_index Try.underlying146 Try.sizeOf195 (fe_t rfl) (fe_t rfl) (rdl_vec 0 rfl) (by rw [hvx, cU_len]; omega) (by decide) (by omega) (Nat.mul_one _)) ?_)
        refine tl_step rfl (oj_storeE1 (i := 0) Try.sizeOf195 (fe_t rfl) (fe_t rfl) rfl rfl rfl (by omega) (?_))
        refine tl_nil ?_
        refine tx_then ?_
        refine tr_region ?_
        refine tl_step rfl (oj_val (y_move (fe_t rfl)) ?_)
        refine tl_step rfl (oj_val (y_as (y_shr (fe_t rfl) fe_c (by decide)) (shr32 (by omega))) ?_)
        refine tl_step rfl (oj_val (y_assign (fe_t rfl)) ?_)
        refine tl_nil ?_
        refine tx_in ?_
        refine tx_then ?_
        refine tr_region ?_
        refine tl_step rfl (oj_val (y_inc (fe_t rfl) fe_c (by omega)) ?_)
        refine tl_step rfl (oj_val (y_move (fe_t rfl)) ?_)
        refine tl_nil ?_
        apply tx_back4 (k + 1) (zs.set k ((cc + (y[k]'(by omega))) % 4294967296)) ((cc + (y[k]'(by omega))) / 4294967296) (_)
        · exact (cov_cons (by first | rfl | exact v_int (by omega) | exact v_bool (by simp [*])) (cov_cons (by first | rfl | exact v_int (by omega) | exact v_bool (by simp [*])) (cov_nil)))
        · repeat (first | exact over_nil | refine over_put rfl ?_ | refine over_drop rfl ?_)
        · exact fun w h => h.pick [0] _ rfl (by decide)
        · exact ⟨⟨by omega, by rw [hvx, cU, cU, List.map_set], sum_next hinv hy hx (by omega) (by rw [getD_ge (by omega)]; omega)⟩, by omega⟩
    · refine tr_exit ?_
      refine tx_then_exit ?_
      refine tx_then_exit ?_
      refine tx_in_exit ?_
      refine tx_then ?_
      refine tr_seq ?_
      have hc0 := hinv.1
      have hc1 := hinv.2.1
      refine tr_region ?_
      refine tl_step rfl (oj_val (y_move (fe_t rfl)) ?_)
      refine tl_step rfl (oj_val (y_move (fe_t rfl)) ?_)
      refine tl_step rfl (oj_val (y_len Try.underlying146 (fe_t rfl)) ?_)
      refine tl_step rfl (oj_val (y_move (fe_t rfl)) ?_)
      refine tl_step rfl (oj_val (y_convi Try.underlying117 Try.underlying195 (fe_t rfl) (IntWalk.u32_in _ (by omega))) ?_)
      refine tl_step rfl (oj_val (y_index Try.underlying146 Try.sizeOf195 (fe_t rfl) (fe_t rfl) (rdl_vec 0 rfl) (by rw [hvx, cU_len]; omega) (by decide) (by omega) (Nat.mul_one _)) ?_)
      refine tl_step rfl (oj_storeE1 (i := 0) Try.sizeOf195 (fe_t rfl) (fe_t rfl) rfl rfl rfl (by omega) (?_))
      refine tl_nil ?_
      refine tx_then ?_
      refine tr_seq ?_
      refine tr_region ?_
      refine tl_step rfl (oj_val (y_move (fe_t rfl)) ?_)
      refine tl_step rfl (oj_val (y_assign (fe_t rfl)) ?_)
      refine tl_nil ?_
      refine tx_then ?_
      refine tr_ret ?_
      refine tx_ret (res1 Try.results129 (rok_t rfl)) (fun w' hS => ?_)
      have hke : k = y.length := by omega
      rw [hke] at hinv
      obtain ⟨e1, e2, e3⟩ := sum_end hinv (by omega)
      rw [hvx, show m = y.length by omega, show (cU zs).set y.length (.int .u32 cc) = cU (zs.set y.length cc) by rw [cU, cU, List.map_set]] at hS
      exact ⟨(some ⟨g, 0, none⟩, (m + 1), zs.set y.length cc), ⟨e1, by first | exact e2 | (dsimp only; omega), by dsimp only; omega, Nat.le_refl _⟩, rfl, by first | exact hS.pick [0] _ rfl (by decide) | (rw [show y.length = m by omega] at hS ⊢; exact hS.pick [0] _ rfl (by decide))⟩
  · exfalso; omega

theorem wrap3 (a b : Int) : IntKind.u64.wrap (a % 18446744073709551616 - b) = (a - b) % 18446744073709551616 := by rw [wrap1]; omega
theorem less_lo (t : Int) : IntKind.u32.wrap (t % 18446744073709551616) = t % 4294967296 := by rw [wrap_lo]; omega
theorem less_hi {t : Int} (h0 : -8589934592 ≤ t) (h1 : t ≤ 8589934592) : (t % 18446744073709551616).fdiv (2 ^ (min (63 : Int).toNat IntKind.u64.bits)) = if t < 0 then 1 else 0 := by
  rw [show (2 : Int) ^ (min (63 : Int).toNat IntKind.u64.bits) = 9223372036854775808 from by decide, Int.fdiv_eq_ediv_of_nonneg _ (by omega)]
  split <;> omega
set_option maxRecDepth 100000 in
set_option maxHeartbeats 1000000 in
theorem lessE (A A' : Option Addr) (c c' : Nat) (x y : List Int) (w : World) (hr : Rd w A (cU x)) (hr' : Rd w A' (cU y)) (hx : Dig x) (hy : Dig y) (n m : Nat) (hn : x.length = n) (hm : y.length = m) (lx : n ≤ 100000) (hle : m ≤ n) (hv : dval y ≤ dval x) :
    Calls Try.prog 131 #[.slice A n c, .slice A' m c'] w fun e w' => ∃ p : Option Addr × Nat × List Int, (Dig p.2.2 ∧ dval p.2.2 = dval x - dval y ∧ p.2.2.length = n ∧ n ≤ p.2.1) ∧ e = .returned (.slice p.1 n p.2.1) ∧ St w w' [dig p.1 n p.2.1 p.2.2] := by
  refine calls_tr Try.func131 Try.ntmps131 rfl rfl (St.refl _) ?_
  refine tr_seq ?_
  refine tr_region ?_
  refine tl_step rfl (oj_val (y_assign fe_c) ?_)
  refine tl_nil ?_
  refine tx_then ?_
  refine tr_seq ?_
  refine tr_region ?_
  refine tl_step rfl (oj_val (y_move (fe_t rfl)) ?_)
  refine tl_step rfl (oj_val (y_len Try.underlying146 (fe_t rfl)) ?_)
  refine tl_step rfl (oj_make (n := n) (z := (.int .u32 0)) (bytes := 4) Try.underlying146 (by kernel_rfl) (fe_t rfl) (fe_t rfl) rfl ⟨by omega, by decide⟩ (fun g => ?_))
  refine tl_step rfl (oj_val (y_assign (fe_t rfl)) ?_)
  refine tl_nil ?_
  refine tx_then ?_
  refine tr_seq ?_
  refine tr_region ?_
  refine tl_step rfl (oj_val (y_assign fe_c) ?_)
  refine tl_nil ?_
  refine tx_then ?_
  refine tr_seq ?_
  refine tr_seq ?_
  refine tr_region ?_
  refine tl_step rfl (oj_val (y_move (fe_t rfl)) ?_)
  refine tl_step rfl (oj_val (y_len Try.underlying146 (fe_t rfl)) ?_)
  refine tl_step rfl (oj_val (y_move fe_c) ?_)
  refine tl_nil ?_
  refine tx_then ?_
  refine tr_block ?_
  refine tr_loop4 [6, 7, 8, 9, 15, 16, 17, 18, 19, 20, 21, 22, 23, 24, 25, 26, 27, 28, 29, 30, 31, 32, 33, 34, 35, 36, 37, 38, 39, 40, 41, 42] (fun (k : Nat) (zs : List Int) (cc : Int) (vx : List Value) => [(15, .int .i64 (k : Int)), (6, .int .u64 cc)]) 0 (fun (k : Nat) (zs : List Int) (cc : Int) (vx : List Value) => [(0, vec 195 1 (.slice (some ⟨g, 0, none⟩) n n) n vx)]) (fun (k : Nat) (zs : List Int) (cc : Int) (vx : List Value) => k ≤ n ∧ vx = cU zs ∧ LessInv x y zs k cc) (fun (k : Nat) (zs : List Int) (cc : Int) (vx : List Value) => n - k) (0) (List.replicate x.length 0) (0) (List.replicate n (.int .u32 0)) (cov_cons (by first | rfl | exact v_int (by omega) | exact v_bool (by simp [*])) (cov_cons (by first | rfl | exact v_int (by omega) | exact v_bool (by simp [*])) (cov_nil))) (fun w h => h) ?_ ?_
  · try dsimp only
    exact ⟨by omega, by simp [cU]; omega, less_start _ _⟩
  intro k zs cc vx hp
  obtain ⟨hk, hvx, hinv⟩ := hp
  have hzl := hinv.2.2.1
  refine tr_seq ?_
  refine tr_region ?_
  refine tl_step rfl (oj_val (y_lss (fe_t rfl) (fe_t rfl)) ?_)
  refine tl_nil ?_
  refine tx_then ?_
  refine tr_seq ?_
  refine tr_condp (fe_t rfl) (fun hq1 => ?_) (fun hq2 => ?_)
  · refine tr_skip ?_
    refine tx_then ?_
    refine tr_seq ?_
    refine tr_block ?_
    refine tr_seq ?_
    refine tr_region ?_
    refine tl_step rfl (oj_val (y_move (fe_t rfl)) ?_)
    refine tl_step rfl (oj_val (y_index Try.underlying146 Try.sizeOf195 (fe_t rfl) (fe_t rfl) (rdl_out hr) (by rw [cU_len]; omega) (by decide) (by omega) (Nat.mul_one _)) ?_)
    refine tl_step rfl (oj_val (y_ld (v := .int .u32 (x[k]'(by omega))) Try.isAgg195 (fe_t rfl) (rdl_out hr) (cU_get (by omega))) ?_)
    refine tl_step rfl (oj_val (y_assign (fe_t rfl)) ?_)
    refine tl_step rfl (oj_val (y_assign (fe_t rfl)) ?_)
    refine tl_nil ?_
    refine tx_then ?_
    refine tr_seq ?_
    have hxi := hx.get (k := k) (by omega)
    have hc0 := hinv.1
    have hc1 := hinv.2.1
    refine tr_region ?_
    refine tl_step rfl (oj_val (y_move (fe_t rfl)) ?_)
    refine tl_step rfl (oj_val (y_convi Try.underlying195 Try.underlying117 (fe_t rfl) (IntWalk.u64_in _ (by omega))) ?_)
    refine tl_step rfl (oj_val (y_move (fe_t rfl)) ?_)
    refine tl_step rfl (oj_val (y_as (y_subk (fe_t rfl) (fe_t rfl)) (wrap1 _)) ?_)
    refine tl_step rfl (oj_val (y_assign (fe_t rfl)) ?_)
    refine tl_nil ?_
    refine tx_then ?_
    refine tr_seq ?_
    refine tr_seq ?_
    refine tr_region ?_
    refine tl_step rfl (oj_val (y_move (fe_t rfl)) ?_)
    refine tl_step rfl (oj_val (y_move (fe_t rfl)) ?_)
    refine tl_step rfl (oj_val (y_len Try.underlying146 (fe_t rfl)) ?_)
    refine tl_step rfl (oj_val (y_lss (fe_t rfl) (fe_t rfl)) ?_)
    refine tl_nil ?_
    refine tx_then ?_
    refine tr_condp (fe_t rfl) (fun hq3 => ?_) (fun hq4 => ?_)
    · have hyi := hy.get (k := k) (by omega)
      refine tr_region ?_
      refine tl_step rfl (oj_val (y_move (fe_t rfl)) ?_)
      refine tl_step rfl (oj_val (y_move (fe_t rfl)) ?_)
      refine tl_step rfl (oj_val (y_move (fe_t rfl)) ?_)
      refine tl_step rfl (oj_val (y_index Try.underlying146 Try.sizeOf195 (fe_t rfl) (fe_t rfl) (rdl_out hr') (by rw [cU_len]; omega) (by decide) (by omega) (Nat.mul_one _)) ?_)
      refine tl_step rfl (oj_val (y_ld (v := .int .u32 (y[k]'(by omega))) Try.isAgg195 (fe_t rfl) (rdl_out hr') (cU_get (by omega))) ?_)
      refine tl_step rfl (oj_val (y_convi Try.underlying195 Try.underlying117 (fe_t rfl) (IntWalk.u64_in _ (by omega))) ?_)
      refine tl_step rfl (oj_val (y_as (y_subk (fe_t rfl) (fe_t rfl)) (wrap3 _ _)) ?_)
      refine tl_step rfl (oj_val (y_assign (fe_t rfl)) ?_)
      refine tl_nil ?_
      refine tx_then ?_
      refine tr_seq ?_
      refine tr_region ?_
      refine tl_step rfl (oj_val (y_move (fe_t rfl)) ?_)
      refine tl_step rfl (oj_val (y_move (fe_t rfl)) ?_)
      refine tl_step rfl (oj_val (y_move (fe_t rfl)) ?_)
      refine tl_step rfl (oj_val (y_as (y_conv Try.underlying117 Try.underlying195 (fe_t rfl)) (less_lo _)) ?_)
      refine tl_step rfl (oj_val (y_index Try.underlying146 Try.sizeOf195 (fe_t rfl) (fe_t rfl) (rdl_vec 0 rfl) (by rw [hvx, cU_len]; omega) (by decide) (by omega) (Nat.mul_one _)) ?_)
      refine tl_step rfl (oj_storeE1 (i := 0) Try.sizeOf195 (fe_t rfl) (fe_t rfl) rfl rfl rfl (by omega) (?_))
      refine tl_nil ?_
      refine tx_then ?_
      refine tr_region ?_
      refine tl_step rfl (oj_val (y_move (fe_t rfl)) ?_)
      refine tl_step rfl (oj_val (y_as (y_shr (fe_t rfl) fe_c (by decide)) (less_hi (by omega) (by omega))) ?_)
      refine tl_step rfl (oj_val (y_assign (fe_t rfl)) ?_)
      refine tl_nil ?_
      refine tx_in ?_
      refine tx_then ?_
      refine tr_region ?_
      refine tl_step rfl (oj_val (y_inc (fe_t rfl) fe_c (by omega)) ?_)
      refine tl_step rfl (oj_val (y_move (fe_t rfl)) ?_)
      refine tl_nil ?_
      apply tx_back4 (k + 1) (zs.set k (((x[k]'(by omega)) - cc - (y[k]'(by omega))) % 4294967296)) ((if (x[k]'(by omega)) - cc - (y[k]'(by omega)) < 0 then 1 else 0)) (_)
      · exact (cov_cons (by first | rfl | exact v_int (by omega) | exact v_bool (by simp [*])) (cov_cons (by first | rfl | exact v_int (by omega) | exact v_bool (by simp [*])) (cov_nil)))
      · repeat (first | exact over_nil | refine over_put rfl ?_ | refine over_drop rfl ?_)
      · exact fun w h => h.pick [0] _ rfl (by decide)
      · refine ⟨⟨by omega, by rw [hvx, cU, cU, List.map_set], less_next hinv (by omega) (by rw [getD_lt (by omega)]) (by omega) (by split <;> omega) (by split <;> omega)⟩, by omega⟩
    · refine tr_skip ?_
      refine tx_then ?_
      refine tr_seq ?_
      refine tr_region ?_
      refine tl_step rfl (oj_val (y_move (fe_t rfl)) ?_)
      refine tl_step rfl (oj_val (y_move (fe_t rfl)) ?_)
      refine tl_step rfl (oj_val (y_move (fe_t rfl)) ?_)
      refine tl_step rfl (oj_val (y_as (y_conv Try.underlying117 Try.underlying195 (fe_t rfl)) (less_lo _)) ?_)
      refine tl_step rfl (oj_val (y_index Try.underlying146 Try.sizeOf195 (fe_t rfl) (fe_t rfl) (rdl_vec 0 rfl) (by rw [hvx, cU_len]; omega) (by decide) (by omega) (Nat.mul_one _)) ?_)
      refine tl_step rfl (oj_storeE1 (i := 0) Try.sizeOf195 (fe_t rfl) (fe_t rfl) rfl rfl rfl (by omega) (?_))
      refine tl_nil ?_
      refine tx_then ?_
      refine tr_region ?_
      refine tl_step rfl (oj_val (y_move (fe_t rfl)) ?_)
      refine tl_step rfl (oj_val (y_as (y_shr (fe_t rfl) fe_c (by decide)) (less_hi (by omega) (by omega))) ?_)
      refine tl_step rfl (oj_val (y_assign (fe_t rfl)) ?_)
      refine tl_nil ?_
      refine tx_in ?_
      refine tx_then ?_
      refine tr_region ?_
      refine tl_step rfl (oj_val (y_inc (fe_t rfl) fe_c (by omega)) ?_)
      refine tl_step rfl (oj_val (y_move (fe_t rfl)) ?_)
      refine tl_nil ?_
      apply tx_back4 (k + 1) (zs.set k (((x[k]'(by omega)) - cc) % 4294967296)) ((if (x[k]'(by omega)) - cc < 0 then 1 else 0)) (_)
      · exact (cov_cons (by first | rfl | exact v_int (by omega) | exact v_bool (by simp [*])) (cov_cons (by first | rfl | exact v_int (by omega) | exact v_bool (by simp [*])) (cov_nil)))
      · repeat (first | exact over_nil | refine over_put rfl ?_ | refine over_drop rfl ?_)
      · exact fun w h => h.pick [0] _ rfl (by decide)
      · refine ⟨⟨by omega, by rw [hvx, cU, cU, List.map_set], less_next hinv (by omega) (by rw [getD_ge (by omega)]) (by omega) (by split <;> omega) (by split <;> omega)⟩, by omega⟩
  · refine tr_exit ?_
    refine tx_then_exit ?_
    refine tx_then_exit ?_
    refine tx_in_exit ?_
    refine tx_then ?_
    refine tr_seq ?_
    refine tr_region ?_
    refine tl_step rfl (oj_val (y_move (fe_t rfl)) ?_)
    refine tl_step rfl (oj_val (y_assign (fe_t rfl)) ?_)
    refine tl_nil ?_
    refine tx_then ?_
    refine tr_ret ?_
    refine tx_ret (res1 Try.results131 (rok_t rfl)) (fun w' hS => ?_)
    have hke : k = x.length := by omega
    rw [hke] at hinv
    obtain ⟨e1, e2, e3⟩ := less_end hinv (by omega) hv
    rw [hvx] at hS
    exact ⟨(some ⟨g, 0, none⟩, n, zs), ⟨e1, e2, by dsimp only; omega, Nat.le_refl _⟩, rfl, hS.pick [0] _ rfl (by decide)⟩

end Go.Proofs.Ytpknjfeiiaopgaa.Big
