/- bits.Mul64, bits.Mul, slices.Repeat. -/
import Derived.Test.YtoibebmhfcjpfaaGreatDoorZfEV
import Derived.Test.YtoibebmhfcjpfaaGreatDoorZfEM
import Derived.Laws.BitsAllLaws
namespace Go.Proofs.YtoibebmhfcjpfaaGreatDoor.Edf
open Go.RowKit Go.Proofs.YtoibebmhfcjpfaaGreatDoor.E Go.Proofs.YtoibebmhfcjpfaaGreatDoor.Big

theorem u64_wrap (v : Int) : IntKind.u64.wrap v = v % 18446744073709551616 := by simp [IntKind.wrap, IntKind.signed, IntKind.bits]
theorem u64_maskw (x : Int) (h0 : 0 ≤ x) (h1 : x < 18446744073709551616) {P : Program} (w : World) : (Op.intBits .and .u64 x 4294967295).run P w = .ok (.int .u64 (x % 4294967296)) w := by
  have e : bits .and .u64 x 4294967295 = x % 4294967296 := by
    rw [u64_and x 4294967295 h0 h1 (by omega) (by omega), show (4294967295 : Int).toNat = 2 ^ 32 - 1 from rfl, Nat.and_two_pow_sub_one_eq_mod]
    omega
  simp only [Op.intBits]
  first | (rw [e]; rfl) | (simp [bits] at e ⊢; exact e)
theorem dprod {a b : Int} (ha : 0 ≤ a ∧ a ≤ 4294967295) (hb : 0 ≤ b ∧ b ≤ 4294967295) : 0 ≤ a * b ∧ a * b ≤ 18446744065119617025 :=
  ⟨Int.mul_nonneg ha.1 hb.1, by have := Int.mul_le_mul ha.2 hb.2 hb.1 (by decide); omega⟩
theorem mul_split (x y : Int) : x * y = 18446744073709551616 * (x / 4294967296 * (y / 4294967296)) + 4294967296 * (x / 4294967296 * (y % 4294967296) + x % 4294967296 * (y / 4294967296)) + x % 4294967296 * (y % 4294967296) := by
  have hx := Int.mul_ediv_add_emod x 4294967296
  have hy := Int.mul_ediv_add_emod y 4294967296
  generalize x / 4294967296 = a at *
  generalize x % 4294967296 = b at *
  generalize y / 4294967296 = c at *
  generalize y % 4294967296 = d at *
  subst hx hy
  grind
theorem mul_hi (x y : Int) :
    x / 4294967296 * (y / 4294967296) + (x / 4294967296 * (y % 4294967296) + x % 4294967296 * (y % 4294967296) / 4294967296) / 4294967296 + ((x / 4294967296 * (y % 4294967296) + x % 4294967296 * (y % 4294967296) / 4294967296) % 4294967296 + x % 4294967296 * (y / 4294967296)) / 4294967296 = x * y / 18446744073709551616 := by
  have h := mul_split x y
  generalize x / 4294967296 * (y / 4294967296) = p at *
  generalize x / 4294967296 * (y % 4294967296) = q at *
  generalize x % 4294967296 * (y / 4294967296) = r at *
  generalize x % 4294967296 * (y % 4294967296) = s at *
  generalize x * y = t at *
  omega

set_option maxRecDepth 100000 in
set_option maxHeartbeats 1000000 in
theorem mul64E {x y : Int} (hx : 0 ≤ x ∧ x ≤ 18446744073709551615) (hy : 0 ≤ y ∧ y ≤ 18446744073709551615) (w : World) :
    Calls Tryz.prog 19 #[.int .u64 x, .int .u64 y] w fun e w' => e = .returned (.tuple #[.int .u64 (x * y / 18446744073709551616), .int .u64 (x * y % 18446744073709551616)]) ∧ St w w' [] := by
  have e0 : 0 ≤ x % 4294967296 ∧ x % 4294967296 ≤ 4294967295 := by omega
  have e1 : 0 ≤ x / 4294967296 ∧ x / 4294967296 ≤ 4294967295 := by omega
  have f0 : 0 ≤ y % 4294967296 ∧ y % 4294967296 ≤ 4294967295 := by omega
  have f1 : 0 ≤ y / 4294967296 ∧ y / 4294967296 ≤ 4294967295 := by omega
  have p00 := dprod e0 f0
  have p10 := dprod e1 f0
  have p01 := dprod e0 f1
  have p11 := dprod e1 f1
  refine calls_tr Tryz.func19 Tryz.ntmps19 rfl rfl (St.refl _) ?_
  refine tr_seq ?_
  refine tr_region ?_
  refine tl_step rfl (oj_val (y_assign fe_c) ?_)
  refine tl_step rfl (oj_val (y_assign fe_c) ?_)
  refine tl_nil ?_
  refine tx_then ?_
  refine tr_seq ?_
  refine tr_region ?_
  refine tl_step rfl (oj_val (y_move (fe_t rfl)) ?_)
  refine tl_step rfl (oj_val (y_bits (.inl rfl) (fe_t rfl) fe_c (fun w => u64_maskw _ (by omega) (by omega) w)) ?_)
  refine tl_step rfl (oj_val (y_assign (fe_t rfl)) ?_)
  refine tl_nil ?_
  refine tx_then ?_
  refine tr_seq ?_
  refine tr_region ?_
  refine tl_step rfl (oj_val (y_move (fe_t rfl)) ?_)
  refine tl_step rfl (oj_val (y_as (y_shr (fe_t rfl) fe_c (by decide)) (shr32 (by omega))) ?_)
  refine tl_step rfl (oj_val (y_assign (fe_t rfl)) ?_)
  refine tl_nil ?_
  refine tx_then ?_
  refine tr_seq ?_
  refine tr_region ?_
  refine tl_step rfl (oj_val (y_move (fe_t rfl)) ?_)
  refine tl_step rfl (oj_val (y_bits (.inl rfl) (fe_t rfl) fe_c (fun w => u64_maskw _ (by omega) (by omega) w)) ?_)
  refine tl_step rfl (oj_val (y_assign (fe_t rfl)) ?_)
  refine tl_nil ?_
  refine tx_then ?_
  refine tr_seq ?_
  refine tr_region ?_
  refine tl_step rfl (oj_val (y_move (fe_t rfl)) ?_)
  refine tl_step rfl (oj_val (y_as (y_shr (fe_t rfl) fe_c (by decide)) (shr32 (by omega))) ?_)
  refine tl_step rfl (oj_val (y_assign (fe_t rfl)) ?_)
  refine tl_nil ?_
  refine tx_then ?_
  refine tr_seq ?_
  refine tr_region ?_
  refine tl_step rfl (oj_val (y_move (fe_t rfl)) ?_)
  refine tl_step rfl (oj_val (y_move (fe_t rfl)) ?_)
  refine tl_step rfl (oj_val (y_as (y_mulk (fe_t rfl) (fe_t rfl)) (IntWalk.u64_in _ (by omega))) ?_)
  refine tl_step rfl (oj_val (y_assign (fe_t rfl)) ?_)
  refine tl_nil ?_
  refine tx_then ?_
  refine tr_seq ?_
  refine tr_region ?_
  refine tl_step rfl (oj_val (y_move (fe_t rfl)) ?_)
  refine tl_step rfl (oj_val (y_move (fe_t rfl)) ?_)
  refine tl_step rfl (oj_val (y_as (y_mulk (fe_t rfl) (fe_t rfl)) (IntWalk.u64_in _ (by omega))) ?_)
  refine tl_step rfl (oj_val (y_move (fe_t rfl)) ?_)
  refine tl_step rfl (oj_val (y_as (y_shr (fe_t rfl) fe_c (by decide)) (shr32 (by omega))) ?_)
  refine tl_step rfl (oj_val (y_as (y_addk (fe_t rfl) (fe_t rfl)) (IntWalk.u64_in _ (by omega))) ?_)
  refine tl_step rfl (oj_val (y_assign (fe_t rfl)) ?_)
  refine tl_nil ?_
  refine tx_then ?_
  refine tr_seq ?_
  refine tr_region ?_
  refine tl_step rfl (oj_val (y_move (fe_t rfl)) ?_)
  refine tl_step rfl (oj_val (y_bits (.inl rfl) (fe_t rfl) fe_c (fun w => u64_maskw _ (by omega) (by omega) w)) ?_)
  refine tl_step rfl (oj_val (y_assign (fe_t rfl)) ?_)
  refine tl_nil ?_
  refine tx_then ?_
  refine tr_seq ?_
  refine tr_region ?_
  refine tl_step rfl (oj_val (y_move (fe_t rfl)) ?_)
  refine tl_step rfl (oj_val (y_as (y_shr (fe_t rfl) fe_c (by decide)) (shr32 (by omega))) ?_)
  refine tl_step rfl (oj_val (y_assign (fe_t rfl)) ?_)
  refine tl_nil ?_
  refine tx_then ?_
  refine tr_seq ?_
  refine tr_region ?_
  refine tl_step rfl (oj_val (y_move (fe_t rfl)) ?_)
  refine tl_step rfl (oj_val (y_move (fe_t rfl)) ?_)
  refine tl_step rfl (oj_val (y_move (fe_t rfl)) ?_)
  refine tl_step rfl (oj_val (y_as (y_mulk (fe_t rfl) (fe_t rfl)) (IntWalk.u64_in _ (by omega))) ?_)
  refine tl_step rfl (oj_val (y_as (y_addk (fe_t rfl) (fe_t rfl)) (IntWalk.u64_in _ (by omega))) ?_)
  refine tl_step rfl (oj_val (y_assign (fe_t rfl)) ?_)
  refine tl_nil ?_
  refine tx_then ?_
  refine tr_seq ?_
  refine tr_region ?_
  refine tl_step rfl (oj_val (y_move (fe_t rfl)) ?_)
  refine tl_step rfl (oj_val (y_move (fe_t rfl)) ?_)
  refine tl_step rfl (oj_val (y_as (y_mulk (fe_t rfl) (fe_t rfl)) (IntWalk.u64_in _ (by omega))) ?_)
  refine tl_step rfl (oj_val (y_move (fe_t rfl)) ?_)
  refine tl_step rfl (oj_val (y_as (y_addk (fe_t rfl) (fe_t rfl)) (IntWalk.u64_in _ (by omega))) ?_)
  refine tl_step rfl (oj_val (y_move (fe_t rfl)) ?_)
  refine tl_step rfl (oj_val (y_as (y_shr (fe_t rfl) fe_c (by decide)) (shr32 (by omega))) ?_)
  refine tl_step rfl (oj_val (y_as (y_addk (fe_t rfl) (fe_t rfl)) (IntWalk.u64_in _ (by omega))) ?_)
  refine tl_step rfl (oj_val (y_assign (fe_t rfl)) ?_)
  refine tl_nil ?_
  refine tx_then ?_
  refine tr_seq ?_
  refine tr_region ?_
  refine tl_step rfl (oj_val (y_move (fe_t rfl)) ?_)
  refine tl_step rfl (oj_val (y_move (fe_t rfl)) ?_)
  refine tl_step rfl (oj_val (y_as (y_mulk (fe_t rfl) (fe_t rfl)) (u64_wrap _)) ?_)
  refine tl_step rfl (oj_val (y_assign (fe_t rfl)) ?_)
  refine tl_nil ?_
  refine tx_then ?_
  refine tr_ret ?_
  refine tx_ret (res2 Tryz.results19 (rok_t rfl) (rok_t rfl)) (fun w' hS => ?_)
  exact ⟨by rw [mul_hi], hS.pick [] _ rfl (by decide)⟩

set_option maxRecDepth 100000 in
set_option maxHeartbeats 1000000 in
theorem bmulE {x y : Int} (hx : 0 ≤ x ∧ x ≤ 18446744073709551615) (hy : 0 ≤ y ∧ y ≤ 18446744073709551615) (w : World) :
    Calls Tryz.prog 11 #[.int .u64 x, .int .u64 y] w fun e w' => e = .returned (.tuple #[.int .u64 (x * y / 18446744073709551616), .int .u64 (x * y % 18446744073709551616)]) ∧ St w w' [] := by
  refine calls_tr Tryz.func11 Tryz.ntmps11 rfl rfl (St.refl _) ?_
  refine tr_seq ?_
  refine tr_region ?_
  refine tl_step rfl (oj_val (y_assign fe_c) ?_)
  refine tl_step rfl (oj_val (y_assign fe_c) ?_)
  refine tl_nil ?_
  refine tx_then ?_
  refine tr_seq ?_
  refine tr_condf fe_c ?_
  refine tr_skip ?_
  refine tx_then ?_
  refine tr_seq ?_
  refine tr_region ?_
  refine tl_step rfl (oj_val (y_move (fe_t rfl)) ?_)
  refine tl_step rfl (oj_val (y_move (fe_t rfl)) ?_)
  refine tl_step rfl (oj_callv Tryz.call19 fe_f (fel_cons (fe_t rfl) (fel_cons (fe_t rfl) fel_nil)) (fun w' hS => mul64E hx hy w') ?_)
  refine tl_step rfl (oj_val (y_move (fe_t rfl)) ?_)
  refine tl_step rfl (oj_val (y_extract (fe_t rfl) rfl) ?_)
  refine tl_step rfl (oj_val (y_extract (fe_t rfl) rfl) ?_)
  refine tl_step rfl (oj_val (y_assign (fe_t rfl)) ?_)
  refine tl_step rfl (oj_val (y_assign (fe_t rfl)) ?_)
  refine tl_nil ?_
  refine tx_then ?_
  refine tr_seq ?_
  refine tr_region ?_
  refine tl_step rfl (oj_val (y_move (fe_t rfl)) ?_)
  refine tl_step rfl (oj_val (y_move (fe_t rfl)) ?_)
  refine tl_step rfl (oj_val (y_assign (fe_t rfl)) ?_)
  refine tl_step rfl (oj_val (y_assign (fe_t rfl)) ?_)
  refine tl_nil ?_
  refine tx_then ?_
  refine tr_ret ?_
  refine tx_ret (res2 Tryz.results11 (rok_t rfl) (rok_t rfl)) (fun w' hS => ?_)
  exact ⟨rfl, hS.pick [] _ rfl (by decide)⟩

theorem rep_first (v : Int) (n : Nat) : (List.replicate n (Value.int .i64 0)).take 0 ++ [(.int .i64 v)].take (min 1 n) ++ (List.replicate n (Value.int .i64 0)).drop (0 + min 1 n) = cI (List.replicate (min 1 n) v ++ List.replicate (n - min 1 n) 0) := by
  rcases Nat.eq_zero_or_pos n with rfl | h
  · rfl
  · rw [show min 1 n = 1 by omega]
    simp [cI]
theorem rep_next {v : Int} {n k : Nat} {vx : List Value} (hk : k ≤ n) (h : vx = cI (List.replicate k v ++ List.replicate (n - k) 0)) : vx.take k ++ vx.take (min k (n - k)) ++ vx.drop (k + min k (n - k)) = cI (List.replicate (k + min k (n - k)) v ++ List.replicate (n - (k + min k (n - k))) 0) := by
  subst h
  have e1 : ∀ j, j ≤ k → (cI (List.replicate k v ++ List.replicate (n - k) 0)).take j = cI (List.replicate j v) := fun j hj => by
    simp only [cI, List.map_append, List.map_replicate]
    rw [List.take_append_of_le_length (by simp; omega), List.take_replicate, Nat.min_eq_left hj]
  rw [e1 k (Nat.le_refl _), e1 (min k (n - k)) (Nat.min_le_left _ _)]
  have e2 : (cI (List.replicate k v ++ List.replicate (n - k) 0)).drop (k + min k (n - k)) = cI (List.replicate (n - (k + min k (n - k))) 0) := by
    simp only [cI, List.map_append, List.map_replicate]
    rw [List.drop_append, List.drop_of_length_le (by simp), List.nil_append, List.length_replicate, Nat.add_sub_cancel_left, List.drop_replicate]
    congr 1
    omega
  rw [e2]
  simp only [cI, ← List.map_append, ← List.append_assoc, List.replicate_append_replicate]
set_option maxRecDepth 100000 in
set_option maxHeartbeats 2000000 in
theorem repeatE (A : Option Addr) (c n : Nat) (v : Int) (w : World) (hr : Rd w A [(.int .i64 v)]) (hn : n ≤ 1000000) :
    Calls Tryz.prog 6 #[.slice A 1 c, .int .i64 (n : Int)] w fun e w' => ∃ g : Nat, True ∧ e = .returned (.slice (some ⟨g, 0, none⟩) n n) ∧ St w w' [vec 3 1 (.slice (some ⟨g, 0, none⟩) n n) n (cI (List.replicate n v))] := by
  refine calls_tr Tryz.func6 Tryz.ntmps6 rfl rfl (St.refl _) ?_
  refine tr_seq ?_
  refine tr_region ?_
  refine tl_step rfl (oj_val (y_assign fe_c) ?_)
  refine tl_nil ?_
  refine tx_then ?_
  refine tr_seq ?_
  refine tr_seq ?_
  refine tr_region ?_
  refine tl_step rfl (oj_val (y_move (fe_t rfl)) ?_)
  refine tl_step rfl (oj_val (y_lss (fe_t rfl) fe_c) ?_)
  refine tl_nil ?_
  refine tx_then ?_
  refine tr_condp (fe_t rfl) (fun hq1 => ?_) (fun hq2 => ?_)
  · exfalso; omega
  · try (exfalso; omega)
    all_goals
      refine tr_skip ?_
      refine tx_then ?_
      refine tr_seq ?_
      refine tr_region ?_
      refine tl_step rfl (oj_val (y_move (fe_t rfl)) ?_)
      refine tl_step rfl (oj_val (y_len Tryz.underlying22 (fe_t rfl)) ?_)
      refine tl_step rfl (oj_val (y_convi Tryz.underlying3 Tryz.underlying43 (fe_t rfl) (IntWalk.u64_in _ (by omega))) ?_)
      refine tl_step rfl (oj_val (y_move (fe_t rfl)) ?_)
      refine tl_step rfl (oj_val (y_convi Tryz.underlying3 Tryz.underlying43 (fe_t rfl) (IntWalk.u64_in _ (by omega))) ?_)
      refine tl_step rfl (oj_callv Tryz.call11 fe_f (fel_cons (fe_t rfl) (fel_cons (fe_t rfl) fel_nil)) (fun w' hS => bmulE (x := ((1 : Nat) : Int)) (y := (n : Int)) (by omega) (by omega) w') ?_)
      refine tl_step rfl (oj_val (y_move (fe_t rfl)) ?_)
      refine tl_step rfl (oj_val (y_extract (fe_t rfl) rfl) ?_)
      refine tl_step rfl (oj_val (y_extract (fe_t rfl) rfl) ?_)
      refine tl_step rfl (oj_val (y_assign (fe_t rfl)) ?_)
      refine tl_step rfl (oj_val (y_assign (fe_t rfl)) ?_)
      refine tl_nil ?_
      refine tx_then ?_
      refine tr_seq ?_
      refine tr_seq ?_
      refine tr_region ?_
      refine tl_step rfl (oj_val (y_move (fe_t rfl)) ?_)
      refine tl_step rfl (oj_val (y_gtr (fe_t rfl) fe_c) ?_)
      refine tl_step rfl (oj_val (y_move (fe_t rfl)) ?_)
      refine tl_splitp (d := 23) rfl (fun hq3 => ?_) (fun hq4 => ?_)
      · try (exfalso; omega)
        all_goals
          refine tl_skip rfl rfl rfl rfl ?_
          refine tl_skip rfl rfl rfl rfl ?_
          refine tl_step rfl (oj_val (y_pickt (fe_t rfl) fe_c) ?_)
          refine tl_nil ?_
          refine tx_then ?_
          exfalso; omega
      · try (exfalso; omega)
        all_goals
          refine tl_want rfl rfl rfl (oj_val (y_move (fe_t rfl)) ?_)
          refine tl_want rfl rfl rfl (oj_val (y_gtr (fe_t rfl) fe_c) ?_)
          refine tl_step rfl (oj_val (y_pickf (fe_t rfl) (fe_t rfl)) ?_)
          refine tl_nil ?_
          refine tx_then ?_
          refine tr_condp (fe_t rfl) (fun hq5 => ?_) (fun hq6 => ?_)
          · exfalso; omega
          · try (exfalso; omega)
            all_goals
              refine tr_skip ?_
              refine tx_then ?_
              refine tr_seq ?_
              refine tr_region ?_
              refine tl_step rfl (oj_val (y_move (fe_t rfl)) ?_)
              refine tl_step rfl (oj_val (y_convi Tryz.underlying43 Tryz.underlying3 (fe_t rfl) (IntWalk.i64_in _ (by omega))) ?_)
              refine tl_step rfl (oj_make (n := n) (z := (.int .i64 0)) (bytes := 8) Tryz.underlying22 (by kernel_rfl) (fe_i (by omega) rfl) (fe_i (by omega) rfl) rfl ⟨by omega, by decide⟩ (fun g => ?_))
              refine tl_step rfl (oj_val (y_assign (fe_t rfl)) ?_)
              refine tl_nil ?_
              refine tx_then ?_
              refine tr_seq ?_
              refine tr_region ?_
              refine tl_step rfl (oj_val (y_move (fe_t rfl)) ?_)
              refine tl_step rfl (oj_val (y_move (fe_t rfl)) ?_)
              refine tl_step rfl (oj_copy 0 Tryz.underlying22 (by kernel_rfl) (fe_t rfl) (fe_t rfl) rfl ((rdl_out hr)) (by simp) (by omega) (by omega) (by first | exact oneI | exact fun u hu => List.all_eq_true.1 (show List.all _ (fun x => x.oneCell') = true from rfl) u hu | (intro u hu; revert u hu; simp [Value.oneCell', cI])) (?_))
              refine tl_step rfl (oj_val (y_assign (fe_t rfl)) ?_)
              refine tl_nil ?_
              refine tx_then ?_
              refine tr_seq ?_
              refine tr_block ?_
              refine tr_loop2 [8, 34, 35, 36, 37, 38, 39, 40, 41, 42, 43, 44, 45, 46] (fun (k : Nat) (vx : List Value) => [(8, .int .i64 (k : Int))]) 0 (fun (k : Nat) (vx : List Value) => [(0, vec 3 1 (.slice (some ⟨g, 0, none⟩) n n) n vx)]) (fun (k : Nat) (vx : List Value) => k ≤ n ∧ (k = n ∨ 1 ≤ k) ∧ vx = cI (List.replicate k v ++ List.replicate (n - k) 0)) (fun (k : Nat) (vx : List Value) => n - k) (min 1 n) (_) (cov_cons (by first | rfl | exact v_int (by omega) | exact v_bool (by simp [*])) (cov_nil)) (fun w h => h) ?_ ?_
              · try dsimp only
                exact ⟨by omega, by omega, rep_first v n⟩
              intro k vx hp
              obtain ⟨hk, hk1, hvx⟩ := hp
              have hvl : vx.length = n := by rw [hvx]; simp [cI]; omega
              refine tr_seq ?_
              refine tr_seq ?_
              refine tr_region ?_
              refine tl_step rfl (oj_val (y_move (fe_t rfl)) ?_)
              refine tl_step rfl (oj_val (y_move (fe_t rfl)) ?_)
              refine tl_step rfl (oj_val (y_len Tryz.underlying22 (fe_t rfl)) ?_)
              refine tl_step rfl (oj_val (y_lss (fe_t rfl) (fe_t rfl)) ?_)
              refine tl_nil ?_
              refine tx_then ?_
              refine tr_condp (fe_t rfl) (fun hq7 => ?_) (fun hq8 => ?_)
              · try (exfalso; omega)
                all_goals
                  refine tr_skip ?_
                  refine tx_then ?_
                  refine tr_block ?_
                  refine tr_draw (sel _ []) (fun w h => h.sel _ rfl (by decide)) rfl ?_
                  refine ta_float (i := 0) rfl (by kernel_rfl) (wants_none rfl) (yq_of (y_move (fe_t rfl))) ?_
                  refine ta_float (i := 1) rfl (by kernel_rfl) (wants_none rfl) (yq_of (y_move (fe_t rfl))) ?_
                  refine ta_float (i := 2) rfl (by kernel_rfl) (wants_none rfl) (yq_of (y_move (fe_t rfl))) ?_
                  refine ta_float (i := 3) rfl (by kernel_rfl) (wants_none rfl) (yq_of (y_cutS Tryz.underlying22 Tryz.sizeOf3 (fe_t rfl) (fe_t rfl) (by omega))) ?_
                  refine ta_float (i := 4) rfl (by kernel_rfl) (wants_none rfl) (yq_of (y_move (fe_t rfl))) ?_
                  refine ta_float (i := 5) rfl (by kernel_rfl) (wants_none rfl) (yq_of (y_move (fe_t rfl))) ?_
                  refine ta_float (i := 6) rfl (by kernel_rfl) (wants_none rfl) (yq_of (y_cutH Tryz.underlying22 Tryz.sizeOf3 (fe_t rfl) (fe_t rfl) (by omega))) ?_
                  refine ta_one (i := 7) rfl (by kernel_rfl) (wants_none rfl) (oj_copy 0 Tryz.underlying22 (by kernel_rfl) (fe_t rfl) (fe_t rfl) rfl ((rdl_vec 0 rfl)) (by omega) (by omega) (by omega) (by rw [hvx]; exact oneI) (⟨fun w h => h.pick [] _ rfl (by decide), ?_⟩))
                  refine ta_float (i := 8) rfl (by kernel_rfl) (wants_none rfl) (yq_of (y_add (fe_t rfl) (fe_t rfl) (by omega))) ?_
                  refine ta_float (i := 9) rfl (by kernel_rfl) (wants_none rfl) (yq_of (y_assign (fe_t rfl))) ?_
                  refine ta_done (by kernel_rfl) ?_
                  refine tx_in ?_
                  apply tx_back2 (k + min k (n - k)) (_)
                  · exact (cov_cons (by first | rfl | exact v_int (by omega) | exact v_bool (by simp [*])) (cov_nil))
                  · repeat (first | exact over_nil | refine over_put rfl ?_ | refine over_drop rfl ?_)
                  · exact fun w h => h.pick [0] _ rfl (by decide)
                  · exact ⟨⟨by omega, by omega, rep_next hk hvx⟩, by omega⟩
              · try (exfalso; omega)
                all_goals
                  refine tr_exit ?_
                  refine tx_then_exit ?_
                  refine tx_then_exit ?_
                  refine tx_in_exit ?_
                  refine tx_then ?_
                  refine tr_seq ?_
                  refine tr_region ?_
                  refine tl_step rfl (oj_val (y_move (fe_t rfl)) ?_)
                  refine tl_step rfl (oj_val (y_assign (fe_t rfl)) ?_)
                  refine tl_nil ?_
                  refine tx_then ?_
                  refine tr_ret ?_
                  refine tx_ret (res1 Tryz.results6 (rok_t rfl)) (fun w' hS => ?_)
                  obtain rfl : k = n := by omega
                  exact ⟨g, trivial, rfl, by rw [show cI (List.replicate k v) = vx by rw [hvx]; simp]; exact hS.pick [0] _ rfl (by decide)⟩

end Go.Proofs.YtoibebmhfcjpfaaGreatDoor.Edf
