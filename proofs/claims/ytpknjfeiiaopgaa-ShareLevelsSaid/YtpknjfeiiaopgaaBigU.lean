/- Walks: Uint64, Int64. -/
import Derived.Test.YtpknjfeiiaopgaaBigC
import Derived.Laws.BitsAllLaws
namespace Go.Proofs.Ytpknjfeiiaopgaa.Big
open Go.RowKit

theorem or_dig {v x : Int} (h0 : 0 ≤ v) (h1 : v < 4294967296) (h2 : 0 ≤ x) (h3 : x < 4294967296) : bits .or .u64 (v * 4294967296) x = x + 4294967296 * v := by
  rw [u64_or _ _ (by omega) (by omega) h2 (by omega)]
  obtain ⟨a, rfl⟩ := Int.eq_ofNat_of_zero_le h0
  obtain ⟨b, rfl⟩ := Int.eq_ofNat_of_zero_le h2
  have h4 : ((a : Int) * 4294967296).toNat = a <<< 32 := by rw [Nat.shiftLeft_eq]; omega
  rw [h4, Int.toNat_natCast, ← Nat.shiftLeft_add_eq_or_of_lt (by omega), Nat.shiftLeft_eq]
  omega

set_option maxHeartbeats 2000000 in
theorem uint_raw (b o : Nat) (neg : Bool) (ds : List Int) (w : World) (h : RawAt w b o neg ds) (hl : ds.length ≤ 2) :
    Calls Try.prog 132 #[.pointer (some ⟨b, o, none⟩)] w fun e w' => e = .returned (.int .u64 (dval ds)) ∧ w = w' := by
  obtain ⟨A, c, c0, c1, hc, hr⟩ := h.ex
  have Hd := Lib.hid h.dig
  obtain ⟨n, Hn⟩ : ∃ n, Hid (ds.length = n) := ⟨_, Lib.hid rfl⟩
  rw [Hn.out] at c1 hc hl
  have Hr := Lib.hid hr
  clear h hr
  go_enter Try.func132, Try.ntmps132
  go_wp2_with fail
  go_loop [3, 4] (fun v i => ∃ k : Nat, k ≤ n ∧ i = .int .i64 ((k : Int) - 1) ∧ v = .int .u64 (dval (ds.drop k))) (fun _ i => (intOf i + 1).toNat)
  case atStart => exact ⟨n, by omega, by simp [go_sem] <;> omega, by rw [List.drop_eq_nil_of_le (by have := Hn.out; omega)]; rfl⟩
  case round =>
    obtain ⟨k, hk, rfl, rfl⟩ := hrel
    match k with
    | 0 =>
      simp only [Int.ofNat_zero, Int.zero_sub, List.drop_zero]
      go_wp2_with fail
      go_ret
      exact ⟨rfl, rfl⟩
    | k + 1 =>
      have l1 : k < ds.length := by have := Hn.out; omega
      obtain ⟨g, off, rfl, hcell⟩ := Hr.out.at_ l1
      obtain ⟨v, Hv⟩ : ∃ v, Hid (dval (ds.drop (k + 1)) = v) := ⟨_, Lib.hid rfl⟩
      have hv0 : 0 ≤ v := by rw [← Hv.out]; exact dval_nonneg (Hd.out.drop _)
      obtain ⟨hx0, hx1⟩ := Hd.out.get l1
      have hv1 : v < 4294967296 := by
        have h1 := dval_lt (Hd.out.drop (k + 1))
        rw [Hv.out, List.length_drop] at h1
        have h2 := pw_mono (show ds.length - (k + 1) ≤ 1 by have := Hn.out; omega)
        have h3 : pw 1 = 4294967296 := rfl
        omega
      have HS : Hid (dval (ds.drop k) = ds[k] + 4294967296 * v) := Lib.hid (by rw [List.drop_eq_getElem_cons l1, dval, Hv.out])
      have HO := Lib.hid (or_dig hv0 hv1 hx0 hx1)
      rw [Hv.out]
      simp only [show ((k + 1 : Nat) : Int) - 1 = (k : Int) from by omega]
      go_wp2_with fail
      go_round
      case rel => exact ⟨k, by omega, rfl, val_int (by rw [HS.out, ← HO.out])⟩
      case measure => first | (simp [intOf]; done) | (simp [intOf]; omega)

theorem len2 {neg : Bool} {ds : List Int} (h0 : -18446744073709551616 < sg neg (dval ds)) (h1 : sg neg (dval ds) < 18446744073709551616) (ht : Trim ds) (hd : Dig ds) : ds.length ≤ 2 := by
  refine ht.len hd ?_
  have h3 : pw 2 = 18446744073709551616 := by simp [pw]
  cases neg <;> simp only [sg, if_true, Bool.false_eq_true, if_false] at h0 h1 <;> omega

theorem uint_any (b o : Nat) (z : Int) (w : World) (h : IntAt w b o z) (h0 : -18446744073709551616 < z) (h1 : z < 18446744073709551616) :
    Calls Try.prog 132 #[.pointer (some ⟨b, o, none⟩)] w fun e w' => e = .returned (.int .u64 (z.natAbs : Int)) ∧ w = w' := by
  obtain ⟨neg, ds, h2, h3, h4, rfl⟩ := h.ex
  rw [sg_abs h2.dig]
  exact uint_raw b o neg ds w h2 (len2 h0 h1 h3 h2.dig)

set_option maxHeartbeats 2000000 in
theorem int64_any (b o : Nat) (z : Int) (w : World) (h : IntAt w b o z) (h0 : -9223372036854775808 ≤ z) (h1 : z ≤ 9223372036854775807) :
    Calls Try.prog 106 #[.pointer (some ⟨b, o, none⟩)] w fun e w' => e = .returned (.int .i64 z) ∧ w = w' := by
  have HU := Lib.hid (uint_any b o z w h (by omega) (by omega))
  obtain ⟨neg, ds, h2, h3, h4, h5⟩ := h.ex
  obtain ⟨A, c, c0, c1, hc, hr⟩ := h2.ex
  have hd := dval_nonneg h2.dig
  have hp := h3.pos h2.dig
  cases neg
  · have e0 : z = (z.natAbs : Int) := by simp only [sg, Bool.false_eq_true, if_false] at h5; omega
    have hz0 : (0 : Int) ≤ z.natAbs := by omega
    have hz1 : (z.natAbs : Int) ≤ 9223372036854775807 := by omega
    have E0 := Lib.hid e0
    clear e0 h h2 h3 h4 h5 hc hr hd hp h0 h1
    generalize (z.natAbs : Int) = u at HU hz0 hz1 E0
    go_enter Try.func106, Try.ntmps106
    go_wp2_with fail
    refine HU.out.mono ?_
    rintro e w' ⟨rfl, rfl⟩
    go_wp2_with fail
    go_ret
    exact ⟨ret_int E0.out.symm, rfl⟩
  · have hpos := hp.2 (h4 rfl)
    simp only [sg, if_true] at h5
    have e0 : z = -(z.natAbs : Int) := by omega
    have hz0 : (1 : Int) ≤ z.natAbs := by omega
    have hz1 : (z.natAbs : Int) ≤ 9223372036854775808 := by omega
    have E0 := Lib.hid e0
    clear e0 h h2 h3 h4 h5 hc hr hd hp h0 h1 hpos
    generalize (z.natAbs : Int) = u at HU hz0 hz1 E0
    go_enter Try.func106, Try.ntmps106
    go_wp2_with fail
    refine HU.out.mono ?_
    rintro e w' ⟨rfl, rfl⟩
    go_wp2_with fail
    go_ret
    exact ⟨ret_int (by rw [E0.out]; simp [wrap64]; omega), rfl⟩
end Go.Proofs.Ytpknjfeiiaopgaa.Big
