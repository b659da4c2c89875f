/- Numbers in two words. -/
import Derived.Test.YtcpdelkamckmfaaWdC
namespace Go.Proofs.Ytcpdelkamckmfaa.Frac
open Go.RowKit Go.Proofs.Ytcpdelkamckmfaa.E Go.Proofs.Ytcpdelkamckmfaa.Big

theorem sm_big {z : Int} (h0 : -680564733841876926926749214863536422912 < z) (h1 : z < 680564733841876926926749214863536422912) : Sm z := by
  have := pw_mono (show 5 ≤ 1000 by omega)
  have h5 : pw 5 = 1461501637330902918203684832716283019655932542976 := rfl
  unfold Sm
  constructor <;> omega
theorem awide_eq (z : Int) : (Value.tuple #[.agg #[.int .u64 (((z % (1 * 340282366920938463463374607431768211456)) / 18446744073709551616).natAbs : Int), .int .u64 (((z % (1 * 340282366920938463463374607431768211456)) % 18446744073709551616).natAbs : Int)], .bool (decide (cmp (z % (1 * 340282366920938463463374607431768211456)) z ≠ 0))]) = .tuple #[wr z, .bool (wo z)] := by
  have g := cmp_cases (z % (1 * 340282366920938463463374607431768211456)) z
  have e1 : (((z % (1 * 340282366920938463463374607431768211456)) / 18446744073709551616).natAbs : Int) = z / 18446744073709551616 % 18446744073709551616 := by omega
  have e2 : (((z % (1 * 340282366920938463463374607431768211456)) % 18446744073709551616).natAbs : Int) = z % 18446744073709551616 := by omega
  have e3 : decide (cmp (z % (1 * 340282366920938463463374607431768211456)) z ≠ 0) = decide (¬ (0 ≤ z ∧ z < 340282366920938463463374607431768211456)) := decide_eq_decide.2 (by generalize cmp (z % (1 * 340282366920938463463374607431768211456)) z = c at *; omega)
  rw [e1, e2, e3]
  rfl

set_option maxRecDepth 100000 in
set_option maxHeartbeats 4000000 in
theorem awideE {w0 w : World} {T : List Res} {H D : List Nat} {l : List Ent} (hS : St w0 w (bag H D l :: T)) {b_x o_x : Nat} {x : Nm} {zx : Int} (mx : (⟨b_x, o_x, x⟩ : Ent) ∈ l) (hx : x.is zx) (h0 : -680564733841876926926749214863536422912 < zx) (h1 : zx < 680564733841876926926749214863536422912) :
    Calls Try.prog 40 #[.pointer (some ⟨b_x, o_x, none⟩)] w fun e w' => ∃ r : BG, True ∧ e = .returned (.tuple #[wr zx, .bool (wo zx)]) ∧ St w0 w' (bag r.H r.D l :: T) := by
  have sx : Sm zx := sm_big h0 h1
  have sM : Sm ((1) * 340282366920938463463374607431768211456) := sm_big (by omega) (by omega)
  refine calls_tr Try.func40 Try.ntmps40 rfl rfl hS ?_
  refine tr_seq ?_
  refine tr_region ?_
  refine tl_step rfl (oj_alloc Try.zeroValue54 (fun b1 => ?_))
  refine tl_step rfl (oj_val (y_assign fe_c) ?_)
  refine tl_nil ?_
  refine tx_then ?_
  refine tr_seq ?_
  refine tr_region ?_
  refine tl_step rfl (oj_allocN 1 Try.zeroValue35 rfl (fun b_n H_n => ?_))
  refine tl_step rfl (oj_call2 Try.call111 fe_f (fel_cons fe_c fel_nil) (fun w' hS => lift 1 hS rfl (fun T hS => newB hS 1 (by omega) (by omega))) (fun r1 hr1 => ?_))
  refine tl_step rfl (oj_call2 Try.call118 fe_f (fel_cons (fe_t rfl) (fel_cons (fe_t rfl) (fel_cons fe_c fel_nil))) (fun w' hS => lift1 (p := fun n_ => n_.is ((1) * 340282366920938463463374607431768211456)) 1 1 hS rfl rfl (fun T l' hm hS => lsh128 hS (hm _ (pget_mem 0 rfl)) hr1 (Nat.le_trans (nm_sm hr1 (sm_of (by omega) (by omega))) (by decide)))) (fun r2 hr2 => ?_))
  refine tl_step rfl (oj_val (y_assign (fe_t rfl)) ?_)
  refine tl_nil ?_
  refine tx_then ?_
  refine tr_seq ?_
  refine tr_region ?_
  refine tl_step rfl (oj_allocN 1 Try.zeroValue35 rfl (fun b_m H_m => ?_))
  refine tl_step rfl (oj_val (y_move (fe_t rfl)) ?_)
  refine tl_step rfl (oj_val (y_move (fe_t rfl)) ?_)
  refine tl_step rfl (oj_call2 Try.call121 fe_f (fel_cons (fe_t rfl) (fel_cons (fe_t rfl) (fel_cons (fe_t rfl) fel_nil))) (fun w' hS => lift1 (p := fun n_ => n_.is (zx % ((1) * 340282366920938463463374607431768211456))) 1 0 hS rfl rfl (fun T l' hm hS => modB hS (hm _ (List.mem_cons_of_mem _ (List.mem_cons_of_mem _ (List.mem_cons_of_mem _ mx)))) (hm _ (pget_mem 2 rfl)) hx hr2 (by omega) sx sM)) (fun r3 hr3 => ?_))
  refine tl_step rfl (oj_val (y_assign (fe_t rfl)) ?_)
  refine tl_nil ?_
  refine tx_then ?_
  refine tr_seq ?_
  refine tr_region ?_
  refine tl_step rfl (oj_allocN 1 Try.zeroValue35 rfl (fun b_p H_p => ?_))
  refine tl_step rfl (oj_val (y_move (fe_t rfl)) ?_)
  refine tl_step rfl (oj_allocN 1 Try.zeroValue35 rfl (fun b_j H_j => ?_))
  refine tl_step rfl (oj_call2 Try.call116 fe_f (fel_cons (fe_t rfl) (fel_cons fe_c fel_nil)) (fun w' hS => lift1 (p := fun n_ => n_.is (18446744073709551615)) 1 0 hS rfl rfl (fun T l' hm hS => setuB hS 18446744073709551615 (by omega) (by omega))) (fun r4 hr4 => ?_))
  refine tl_step rfl (oj_call2 Try.call122 fe_f (fel_cons (fe_t rfl) (fel_cons (fe_t rfl) (fel_cons (fe_t rfl) fel_nil))) (fun w' hS => lift1 (p := fun n_ => n_.is ((zx % ((1) * 340282366920938463463374607431768211456)) % 18446744073709551616)) 1 1 hS rfl rfl (fun T l' hm hS => andB hS (hm _ (pget_mem 2 rfl)) (hm _ (pget_mem 0 rfl)) hr3 hr4 (Nat.le_trans (nm_sm hr3 (sm_of (by omega) (by omega))) (by decide)) (by omega))) (fun r5 hr5 => ?_))
  refine tl_step rfl (oj_val (y_assign (fe_t rfl)) ?_)
  refine tl_nil ?_
  refine tx_then ?_
  refine tr_seq ?_
  refine tr_region ?_
  refine tl_step rfl (oj_allocN 1 Try.zeroValue35 rfl (fun b_k H_k => ?_))
  refine tl_step rfl (oj_val (y_move (fe_t rfl)) ?_)
  refine tl_step rfl (oj_call2 Try.call123 fe_f (fel_cons (fe_t rfl) (fel_cons (fe_t rfl) (fel_cons fe_c fel_nil))) (fun w' hS => lift1 (p := fun n_ => n_.is ((zx % ((1) * 340282366920938463463374607431768211456)) / 18446744073709551616)) 1 0 hS rfl rfl (fun T l' hm hS => rsh64 hS (hm _ (pget_mem 3 rfl)) hr3 (Nat.le_trans (nm_sm hr3 (sm_of (by omega) (by omega))) (by decide)) (by omega))) (fun r6 hr6 => ?_))
  refine tl_step rfl (oj_callv Try.call31 fe_f (fel_cons (fe_t rfl) fel_nil) (fun w' hS => of_eq (uint_any _ _ _ _ (bag_int hS 1 rfl (pget_mem 0 rfl) hr6) (by omega) (by omega))) ?_)
  refine tl_step rfl (oj_val (y_move (fe_t rfl)) ?_)
  refine tl_step rfl (oj_callv Try.call31 fe_f (fel_cons (fe_t rfl) fel_nil) (fun w' hS => of_eq (uint_any _ _ _ _ (bag_int hS 1 rfl (pget_mem 2 rfl) hr5) (by omega) (by omega))) ?_)
  refine tl_step rfl (oj_val ((fun {u0 u1} hx hb => y_build (is := [0, 1]) (vs := [u0, u1]) (cs := [u0, u1]) rfl hx hb) (fel_cons (fe_t rfl) (fel_cons (fe_t rfl) fel_nil)) (by kernel_rfl)) ?_)
  refine tl_step rfl (oj_val (y_move (fe_t rfl)) ?_)
  refine tl_step rfl (oj_val (y_move (fe_t rfl)) ?_)
  refine tl_step rfl (oj_callv Try.call44 fe_f (fel_cons (fe_t rfl) (fel_cons (fe_t rfl) fel_nil)) (fun w' hS => of_drn (cmp_any _ _ _ _ _ _ _ (bag_int hS 1 rfl (pget_mem 3 rfl) hr3) (bag_int hS 1 rfl (List.mem_cons_of_mem _ (List.mem_cons_of_mem _ (List.mem_cons_of_mem _ (List.mem_cons_of_mem _ (List.mem_cons_of_mem _ (List.mem_cons_of_mem _ mx)))))) hx) (sm_of (by omega) (by omega)) sx)) ?_)
  refine tl_step rfl (oj_val (y_neq (fe_t rfl) fe_c) ?_)
  refine tl_step rfl (oj_storeW 0 Try.sizeOf54 (fe_t rfl) (fe_t rfl) rfl rfl rfl rfl rfl (?_))
  refine tl_step rfl (oj_val (y_assign (fe_t rfl)) ?_)
  refine tl_nil ?_
  refine tx_then ?_
  refine tr_ret ?_
  refine tx_ret (res2 Try.results40 (rok_b 0 Try.isAgg54 Try.sizeOf54 rfl rfl rfl) (rok_t rfl)) (fun w' hS => ?_)
  have hS := St.bagpick (es := [_, _, _, _, _, _]) 1 hS rfl [] rfl (by decide)
  have hS := pickT (l := [_, _]) hS [1] rfl (by decide)
  have hS' : St w0 w' (bag _ _ (l) :: T) := hS
  exact finG hS' (by rw [← awide_eq] <;> rfl)

end Go.Proofs.Ytcpdelkamckmfaa.Frac
