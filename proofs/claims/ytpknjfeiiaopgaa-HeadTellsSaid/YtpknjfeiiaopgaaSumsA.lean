/- Walks of package sums and its reference: what each function returns. -/
import Derived.Test.YtpknjfeiiaopgaaMem
import Derived.Outline
namespace Go.Proofs.Ytpknjfeiiaopgaa
open Go.RowKit

/-- The sum of sixteen bits that a number stands for. -/
def foldI (n : Int) : Int := if n = 0 then 0 else (n - 1) % 65535 + 1

theorem foldI_bd (n : Int) : 0 ≤ foldI n ∧ foldI n ≤ 65535 := by unfold foldI; split <;> omega
theorem foldI_small {n : Int} (h : 0 ≤ n) (h' : n ≤ 65535) : foldI n = n := by unfold foldI; split <;> omega
theorem foldI_step {n : Int} (h : 65535 < n) : foldI (n / 65536 + n % 65536) = foldI n := by
  unfold foldI
  rw [if_neg (by omega), if_neg (by omega)]
  omega
theorem foldI_add {n x : Int} (h : 0 ≤ n) (hx : 0 ≤ x) (hx' : x ≤ 65535) : foldI (n + x) = if 65535 < foldI n + x then foldI n + x - 65535 else foldI n + x := by
  unfold foldI
  by_cases h0 : n = 0
  · subst h0
    simp only [Int.zero_add, if_true]
    by_cases hx0 : x = 0 <;> simp only [hx0, if_true, if_false] <;> split <;> omega
  · rw [if_neg (by omega), if_neg h0]
    split <;> omega

theorem and_low {n : Int} (h : 0 ≤ n) (h' : n < 18446744073709551616) : bits BinOp.and IntKind.u64 n 65535 = n % 65536 := by
  rw [u64_and n 65535 h h' (by omega) (by omega), show (65535 : Int).toNat = 65535 from rfl, nat_mask16]
  omega

/-- What bytes sum up to, before it is folded. -/
def wsum : List Int → Int
  | [] => 0
  | [a] => 256 * a
  | a :: b :: t => 256 * a + b + wsum t

theorem wsum_snoc : ∀ (l : List Int) (z : Int), wsum (l ++ [z]) = wsum l + (if l.length % 2 = 0 then 256 * z else z)
  | [], z => by simp [wsum]
  | [a], z => by simp [wsum]
  | a :: b :: t, z => by
    simp only [List.cons_append, wsum, wsum_snoc t z, List.length_cons]
    have e : (t.length + 1 + 1) % 2 = t.length % 2 := by omega
    simp only [e]
    omega

theorem wsum_bd : ∀ (l : List Int), (∀ z ∈ l, 0 ≤ z ∧ z ≤ 255) → 0 ≤ wsum l ∧ wsum l ≤ 65535 * l.length
  | [], _ => by simp [wsum]
  | [a], h => by have := h a (by simp); simp [wsum]; omega
  | a :: b :: t, h => by
    have h1 := h a (by simp)
    have h2 := h b (by simp)
    have h3 := wsum_bd t (fun z hz => h z (by simp [hz]))
    simp only [wsum, List.length_cons]
    omega

theorem take_succ_snoc (zs : List Int) (k : Nat) (h : k < zs.length) : zs.take (k + 1) = zs.take k ++ [zs[k]] :=
  List.take_succ_eq_append_getElem h

theorem wsum_take (zs : List Int) (k : Nat) (h : k < zs.length) : wsum (zs.take (k + 1)) = wsum (zs.take k) + (if k % 2 = 0 then 256 * zs[k] else zs[k]) := by
  rw [take_succ_snoc zs k h, wsum_snoc, List.length_take_of_le (by omega)]

set_option maxHeartbeats 400000 in
theorem fold_any (n : Int) (h0 : 0 ≤ n) (hn : n < 18446744073709551616) (w : World) :
    Calls Try.prog 95 #[.int .u64 n] w fun e w' => e = .returned (.int .u16 (foldI n)) ∧ w = w' := by
  go_enter Try.func95, Try.ntmps95
  go_wp2
  go_loop [0] (fun t => ∃ m : Int, 0 ≤ m ∧ m ≤ n ∧ foldI m = foldI n ∧ t = .int .u64 m) (fun t => (intOf t).toNat)
  case atStart => exact ⟨n, h0, Int.le_refl _, rfl, rfl⟩
  case round =>
    obtain ⟨m, hm0, hm, hf, rfl⟩ := hrel
    have ha := and_low hm0 (by omega)
    have Hf := Lib.hid hf; clear hf
    go_wp2
    · go_round
      case rel => exact ⟨m / 65536 + m % 65536, by omega, by omega, by rw [← Hf.out]; exact foldI_step (by omega), rfl⟩
      case measure => simp [intOf]; omega
    · go_ret
      exact ⟨ret_int (by rw [← Hf.out, foldI_small hm0 (by omega)]), rfl⟩



theorem getElem_hid (zs : List Int) (k : Nat) (h : k < zs.length) (hz : ∀ z ∈ zs, 0 ≤ z ∧ z ≤ 255) : ∃ x, 0 ≤ x ∧ x ≤ 255 ∧ Hid (zs[k] = x) :=
  ⟨zs[k], (hz _ (List.getElem_mem h)).1, (hz _ (List.getElem_mem h)).2, Lib.hid rfl⟩

set_option maxHeartbeats 400000 in
theorem of_any (A : Option Addr) (n c : Nat) (zs : List Int) (w : World) (hr : RdI .u8 w A zs) (hn : zs.length = n) (hz : ∀ z ∈ zs, 0 ≤ z ∧ z ≤ 255) (hm : n ≤ 140737488355328) :
    Calls Try.prog 60 #[.slice A n c] w fun e w' => e = .returned (.int .u16 (foldI (wsum zs))) ∧ w = w' := by
  have Hn := Lib.hid hn; clear hn
  go_enter Try.func60, Try.ntmps60
  go_wp2
  go_loop [3, 4] (fun s i => ∃ k : Nat, k ≤ n + 1 ∧ k % 2 = 0 ∧ i = .int .i64 k ∧ s = .int .u64 (wsum (zs.take k))) (fun _ i => n + 1 - (intOf i).toNat)
  case atStart => exact ⟨0, by omega, rfl, rfl, rfl⟩
  case round =>
    obtain ⟨k, hk, hk2, rfl, rfl⟩ := hrel
    have Hk2 := Lib.hid hk2; clear hk2
    have hbd := wsum_bd (zs.take k) (fun z hz' => hz z (List.mem_of_mem_take hz'))
    have hlen : (zs.take k).length ≤ n := by have := Hn.out; rw [List.length_take]; omega
    obtain ⟨s, hs⟩ : ∃ s, s = wsum (zs.take k) := ⟨_, rfl⟩
    rw [← hs] at hbd ⊢
    obtain ⟨hb0, hb1⟩ := hbd
    have Hs := Lib.hid hs; clear hs
    by_cases hlt : k < n
    · have hl : k < zs.length := by have := Hn.out; omega
      obtain ⟨b, off, rfl, hc⟩ := hr.at_ hl
      obtain ⟨x, hx0, hx1, Hx⟩ := getElem_hid zs k hl hz
      rw [Hx.out] at hc
      by_cases hlt2 : k + 1 < n
      · have hl2 : k + 1 < zs.length := by have := Hn.out; omega
        obtain ⟨b', off', hA, hc2⟩ := hr.at_ hl2
        cases hA
        obtain ⟨y, hy0, hy1, Hy⟩ := getElem_hid zs (k + 1) hl2 hz
        rw [Hy.out] at hc2
        have hb2 : s ≤ 65535 * 140737488355328 := by omega
        clear hb1 hlen
        go_wp2
        go_round
        case rel => exact ⟨k + 2, by omega, by have := Hk2.out; omega, by go_num, by
          rw [wsum_take zs (k + 1) hl2, wsum_take zs k hl, ← Hs.out, Hx.out, Hy.out, if_pos Hk2.out, if_neg (by have := Hk2.out; omega)]; go_num⟩
        case measure => simp [intOf]; omega
      · have hb2 : s ≤ 65535 * 140737488355328 := by omega
        clear hb1 hlen
        go_wp2
        go_round
        case rel => exact ⟨k + 2, by omega, by have := Hk2.out; omega, by go_num, by
          rw [List.take_of_length_le (by have := Hn.out; omega), ← List.take_of_length_le (l := zs) (i := k + 1) (by have := Hn.out; omega), wsum_take zs k hl, ← Hs.out, Hx.out, if_pos Hk2.out]; go_num⟩
        case measure => simp [intOf]; omega
    · have hb2 : s < 18446744073709551616 := by omega
      clear hb1 hlen
      go_wp2_with (go_at_call 95; refine (fold_any _ (by omega) (by omega) _).mono ?_; rintro e w' ⟨rfl, rfl⟩)
      go_ret
      exact ⟨ret_int (by rw [Hs.out, List.take_of_length_le (by have := Hn.out; omega)]), rfl⟩

theorem xor16 {x : Int} (h0 : 0 ≤ x) (h1 : x ≤ 65535) : bits BinOp.xor IntKind.u16 IntKind.u16.max x = 65535 - x := by
  obtain ⟨m, rfl⟩ := Int.eq_ofNat_of_zero_le h0
  show IntKind.u16.wrap ((BitVec.ofInt 16 IntKind.u16.max ^^^ BitVec.ofInt 16 (m : Int)).toNat : Int) = _
  rw [show BitVec.ofInt 16 IntKind.u16.max = BitVec.allOnes 16 from rfl, BitVec.allOnes_xor, BitVec.toNat_not, ofInt_u16 m (by omega), IntKind.wrap_u16]
  omega
theorem u16_sg : IntKind.u16.signed = false := rfl

set_option maxHeartbeats 400000 in
theorem check_any (A : Option Addr) (n c : Nat) (zs : List Int) (w : World) (hr : RdI .u8 w A zs) (hn : zs.length = n) (hz : ∀ z ∈ zs, 0 ≤ z ∧ z ≤ 255) (hm : n ≤ 140737488355328) :
    Calls Try.prog 53 #[.slice A n c] w fun e w' => e = .returned (.int .u16 (65535 - foldI (wsum zs))) ∧ w = w' := by
  have h := of_any A n c zs w hr hn hz hm
  have hb := foldI_bd (wsum zs)
  generalize foldI (wsum zs) = s at h hb ⊢
  obtain ⟨hb0, hb1⟩ := hb
  have H := Lib.hid h
  clear h hr hn hz
  have hx := xor16 hb0 hb1
  have hsg := u16_sg
  go_enter Try.func53, Try.ntmps53
  go_wp2_with (go_at_call 60; refine H.out.mono ?_; rintro e w' ⟨rfl, rfl⟩)
  go_ret
  exact ⟨rfl, rfl⟩



def sameI (x y : Int) : Bool := x == y || (x % 65535 == 0 && y % 65535 == 0)



def zeroI (x : Int) : Bool := x == 0 || x == 65535





set_option maxHeartbeats 400000 in
theorem dof_any (A : Option Addr) (n c : Nat) (zs : List Int) (w : World) (hr : RdI .u8 w A zs) (hn : zs.length = n) (hz : ∀ z ∈ zs, 0 ≤ z ∧ z ≤ 255) (hm : n ≤ 140737488355328) :
    Calls Try.prog 56 #[.slice A n c] w fun e w' => e = .returned (.int .i64 (foldI (wsum zs))) ∧ w = w' := by
  have Hn := Lib.hid hn; clear hn
  go_enter Try.func56, Try.ntmps56
  go_wp2
  go_loop [3, 9] (fun s i => ∃ k : Nat, k ≤ n ∧ i = .int .i64 k ∧ s = .int .i64 (foldI (wsum (zs.take k)))) (fun _ i => n - (intOf i).toNat)
  case atStart => exact ⟨0, by omega, rfl, rfl⟩
  case round =>
    obtain ⟨k, hk, rfl, rfl⟩ := hrel
    obtain ⟨s, hs⟩ : ∃ s, s = foldI (wsum (zs.take k)) := ⟨_, rfl⟩
    have hbd := foldI_bd (wsum (zs.take k))
    rw [← hs] at hbd ⊢
    obtain ⟨hb0, hb1⟩ := hbd
    have Hs := Lib.hid hs; clear hs
    by_cases hlt : k < n
    · have hl : k < zs.length := by have := Hn.out; omega
      obtain ⟨b, off, rfl, hc⟩ := hr.at_ hl
      obtain ⟨x, hx0, hx1, Hx⟩ := getElem_hid zs k hl hz
      rw [Hx.out] at hc
      have hw0 := (wsum_bd (zs.take k) (fun z hz' => hz z (List.mem_of_mem_take hz'))).1
      have Hstep : Hid (foldI (wsum (zs.take (k + 1))) = if 65535 < s + (if k % 2 = 0 then 256 * x else x) then s + (if k % 2 = 0 then 256 * x else x) - 65535 else s + (if k % 2 = 0 then 256 * x else x)) := by
        apply Lib.hid
        rw [wsum_take zs k hl, Hx.out, foldI_add hw0 (by split <;> omega) (by split <;> omega), ← Hs.out]
      clear hw0
      by_cases hk2 : k % 2 = 0
      · have e2 : ((k : Int) % 2 == 0) = true := by simp; omega
        have Hk2 := Lib.hid hk2; clear hk2
        go_wp2
        all_goals
          go_round
          case rel => exact ⟨k + 1, by omega, by go_num, by rw [Hstep.out, if_pos Hk2.out]; first | exact val_int (by rw [if_pos (by omega)] <;> omega) | exact val_int (by rw [if_neg (by omega)] <;> omega)⟩
          case measure => simp [intOf]; omega
      · have e2 : ((k : Int) % 2 == 0) = false := by simp; omega
        have Hk2 := Lib.hid hk2; clear hk2
        go_wp2
        all_goals
          go_round
          case rel => exact ⟨k + 1, by omega, by go_num, by rw [Hstep.out, if_neg Hk2.out]; first | exact val_int (by rw [if_pos (by omega)] <;> omega) | exact val_int (by rw [if_neg (by omega)] <;> omega)⟩
          case measure => simp [intOf]; omega
    · go_wp2
      go_ret
      exact ⟨ret_int (by rw [Hs.out, List.take_of_length_le (by have := Hn.out; omega)]), rfl⟩
end Go.Proofs.Ytpknjfeiiaopgaa
