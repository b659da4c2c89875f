/- Walks: trim, SetUint64, SetInt64, NewInt. -/
import Derived.Test.YtpknjfeiiaopgaaBigW
import Derived.Outline
import Derived.BigQuiet
import Derived.Deep.QuietTactic
namespace Go.Proofs.Ytpknjfeiiaopgaa.Big
open Go.RowKit

theorem trim_take {ds : List Int} {k : Nat} (hk : k ≤ ds.length) (h : k = 0 ∨ ∃ hl : k - 1 < ds.length, ds[k - 1] ≠ 0) : Trim (ds.take k) := by
  intro hp
  rw [List.length_take, Nat.min_eq_left hk] at hp
  rcases h with rfl | ⟨hl, h⟩
  · omega
  · simp only [List.length_take, Nat.min_eq_left hk, List.getElem_take]
    exact h

theorem trim_done {w : World} {b o : Nat} {neg : Bool} {ds : List Int} {A : Option Addr} {c k : Nat} (h : RawAt w b o neg ds) (h1 : w.cell? ⟨b, o + 1, none⟩ = some (.slice A ds.length c)) (hc : ds.length ≤ c) (hr : RdI .u32 w A ds) (hk : k ≤ ds.length)
    (hz : ∀ j, k ≤ j → ∀ hj : j < ds.length, ds[j] = 0) (h0 : 0 < k) (hl : k - 1 < ds.length) (hne : ds[k - 1] ≠ 0) :
    IntAt (w.setCell ⟨b, o + 1, none⟩ (.slice A k c)) b o (sg neg (dval ds)) ∧ Upd w (w.setCell ⟨b, o + 1, none⟩ (.slice A k c)) b o 2 := by
  have hlt : (ds.take k).length = k := by rw [List.length_take, Nat.min_eq_left hk]
  have hrt : RdI .u32 w A (ds.take k) := by
    rcases hr with h2 | ⟨g, off, hA, hcell⟩
    · simp at h2; subst h2; simp at hl
    · refine .inr ⟨g, off, hA, fun j u hj => hcell j u ?_⟩
      rw [List.map_take, List.getElem?_take] at hj
      split at hj
      · exact hj
      · cases hj
  obtain ⟨r1, r2⟩ := raw_storeD (m := k) (c := c) h hlt.symm (by omega) hrt (h.dig.take k)
  refine ⟨⟨neg, ds.take k, r1, trim_take hk (.inr ⟨hl, hne⟩), fun _ he => ?_, ?_⟩, r2⟩
  · rw [he] at hlt; simp at hlt; omega
  · rw [dval_take_zero hk hz]

theorem trim_none {w : World} {b o : Nat} {neg : Bool} {ds : List Int} {A : Option Addr} {c : Nat} (h : RawAt w b o neg ds) (hz : ∀ j, 0 ≤ j → ∀ hj : j < ds.length, ds[j] = 0) :
    IntAt ((w.setCell ⟨b, o + 1, none⟩ (.slice A 0 c)).setCell ⟨b, o, none⟩ (.bool false)) b o (sg neg (dval ds)) ∧ Upd w ((w.setCell ⟨b, o + 1, none⟩ (.slice A 0 c)).setCell ⟨b, o, none⟩ (.bool false)) b o 2 := by
  obtain ⟨r1, r2⟩ := raw_storeD (m := 0) (c := c) (ds := []) (A := A) h rfl (by omega) (.inl rfl) Dig.nil
  obtain ⟨r3, r4⟩ := raw_storeN (neg' := false) r1
  refine ⟨⟨false, [], r3, Trim.nil, (fun h => by cases h), ?_⟩, r2.trans r4⟩
  have := dval_take_zero (l := ds) (k := 0) (by omega) hz
  rw [List.take_zero] at this
  rw [← this]
  cases neg <;> rfl

set_option maxHeartbeats 1000000 in
theorem trim_any (b o : Nat) (neg : Bool) (ds : List Int) (w : World) (h : RawAt w b o neg ds) (hm : ds.length ≤ 140737488355328) :
    Calls Try.prog 128 #[.pointer (some ⟨b, o, none⟩)] w fun e w' => e = .returned (.pointer (some ⟨b, o, none⟩)) ∧ IntAt w' b o (sg neg (dval ds)) ∧ Upd w w' b o 2 := by
  obtain ⟨A, c, h0, h1, hc, hr⟩ := h.ex
  have f0 := h.fr0
  have f1 := h.fr1
  obtain ⟨n, Hn⟩ : ∃ n, Hid (ds.length = n) := ⟨_, Lib.hid rfl⟩
  have H := Lib.hid h; clear h
  have Hr := Lib.hid hr; clear hr
  rw [Hn.out] at h1 hc hm
  go_enter Try.func128, Try.ntmps128
  go_wp2_with fail
  go_loop [3] (fun i => ∃ k : Nat, k ≤ n ∧ i = .int .i64 k ∧ ∀ j, k ≤ j → ∀ hj : j < ds.length, ds[j] = 0) (fun i => (intOf i).toNat)
  case atStart => exact ⟨n, Nat.le_refl _, rfl, fun j hj hl => by have := Hn.out; omega⟩
  case round =>
    obtain ⟨k, hk, rfl, hz⟩ := hrel
    have Hz := Lib.hid hz; clear hz
    match k with
    | 0 =>
      have HP := Lib.hid (trim_none (A := A) (c := c) H.out Hz.out)
      go_wp2_with fail
      go_ret
      exact ⟨rfl, HP.out.1, HP.out.2⟩
    | k + 1 =>
      have hl : k < ds.length := by have := Hn.out; omega
      obtain ⟨bd, off, rfl, hcell⟩ := Hr.out.at_ hl
      have hd := H.out.dig.get hl
      by_cases hx : ds[k] = 0
      · rw [hx] at hcell
        have hx' := Lib.hid hx; clear hx hd
        go_wp2_with fail
        go_round
        case rel => exact ⟨k, by omega, by go_num, fun j hj hl' => by
          by_cases e : j = k
          · subst e; exact hx'.out
          · exact Hz.out j (by omega) hl'⟩
        case measure => first | (simp [intOf]; done) | (simp [intOf]; omega)
      · have HP := Lib.hid (trim_done (c := c) (k := k + 1) H.out (by rw [Hn.out]; exact h1) (by rw [Hn.out]; exact hc) Hr.out (by omega) Hz.out (by omega) hl hx)
        obtain ⟨x, Hx⟩ : ∃ x, Hid (ds[k] = x) := ⟨_, Lib.hid rfl⟩
        rw [Hx.out] at hcell hx
        have hx0 : (x == 0) = false := by simpa using hx
        clear hx hd
        go_wp2_with fail
        go_ret
        exact ⟨rfl, HP.out.1, HP.out.2⟩

/-- A store of sign and digits, the digits in a new block that is laid last. -/
theorem raw_alloc {w : World} {b o : Nat} {neg0 neg : Bool} {ds0 ds : List Int} {t : TypeId} {m : Nat} (h0 : RawAt w b o neg0 ds0) (hm : m = ds.length) (hd : Dig ds) :
    RawAt (((w.setCell ⟨b, o, none⟩ (.bool neg)).setCell ⟨b, o + 1, none⟩ (.slice (some ⟨w.heap.size, 0, none⟩) m m)).alloc (.cells (ds.map (Value.int .u32)).toArray t)) b o neg ds ∧
      Upd w (((w.setCell ⟨b, o, none⟩ (.bool neg)).setCell ⟨b, o + 1, none⟩ (.slice (some ⟨w.heap.size, 0, none⟩) m m)).alloc (.cells (ds.map (Value.int .u32)).toArray t)) b o 2 := by
  subst hm
  obtain ⟨A0, c0, h1, h2, _⟩ := h0.ex
  have hl := h0.lt
  have hu : Upd w ((w.setCell ⟨b, o, none⟩ (.bool neg)).setCell ⟨b, o + 1, none⟩ (.slice (some ⟨w.heap.size, 0, none⟩) ds.length ds.length)) b o 2 := ((Upd.refl w b o 2).setCell (by omega) (by omega) _).setCell (by omega) (by omega) _
  have hs : ((w.setCell ⟨b, o, none⟩ (.bool neg)).setCell ⟨b, o + 1, none⟩ (.slice (some ⟨w.heap.size, 0, none⟩) ds.length ds.length)).heap.size = w.heap.size := by simp [World.setCell]
  refine ⟨⟨⟨some ⟨w.heap.size, 0, none⟩, ds.length, ?_, ?_, Nat.le_refl _, .inr ⟨w.heap.size, 0, rfl, fun j u hj => ?_⟩⟩, hd, ?_, ?_⟩, hu.alloc _⟩
  · rw [World.cell?_alloc_past (hn := by rw [hs]; exact hl), World.cell?_setCell_other _ _ _ _ (by simp), World.cell?_setCell_same _ _ _ h1]
  · rw [World.cell?_alloc_past (hn := by rw [hs]; exact hl)]
    exact World.cell?_setCell_same _ _ _ ((World.cell?_setCell_other _ _ _ _ (by simp)).trans h2)
  · rw [World.cell?_alloc_at (hn := hs.symm), Nat.zero_add]
    simpa using hj
  · rw [World.frozen?_alloc_past (hn := by rw [hs]; exact hl), World.frozen?_setCell, World.frozen?_setCell, h0.fr0]
  · rw [World.frozen?_alloc_past (hn := by rw [hs]; exact hl), World.frozen?_setCell, World.frozen?_setCell, h0.fr1]

theorem two_dig (n : Int) (h0 : 0 ≤ n) (h1 : n ≤ 18446744073709551615) : Dig [n % 4294967296, n / 4294967296] ∧ dval [n % 4294967296, n / 4294967296] = n := by
  constructor
  · intro x hx
    simp only [List.mem_cons, List.not_mem_nil, or_false] at hx
    rcases hx with rfl | rfl <;> omega
  · simp only [dval]
    omega

set_option maxHeartbeats 1000000 in
theorem setu_raw (b o : Nat) (neg : Bool) (ds : List Int) (n : Int) (h0 : 0 ≤ n) (h1 : n ≤ 18446744073709551615) (w : World) (h : RawAt w b o neg ds) :
    Calls Try.prog 136 #[.pointer (some ⟨b, o, none⟩), .int .u64 n] w fun e w' => e = .returned (.pointer (some ⟨b, o, none⟩)) ∧ IntAt w' b o n ∧ Upd w w' b o 2 := by
  obtain ⟨A, c, c0, c1, hc, hr⟩ := h.ex
  have f0 := h.fr0
  have f1 := h.fr1
  have hbl := h.lt
  obtain ⟨d1, d2⟩ := two_dig n h0 h1
  obtain ⟨r1, r2⟩ := raw_alloc (neg := false) (m := 2) (t := 195) h rfl d1
  have HT := Lib.hid (trim_any b o _ _ _ r1 (by simp))
  rw [d2] at HT
  have R2 := Lib.hid r2
  clear hc hr d1 d2 r1 r2 h
  go_enter Try.func136, Try.ntmps136
  go_wp2_with fail
  refine HT.out.mono ?_
  rintro e w1 ⟨rfl, hi, hu⟩
  have HI := Lib.hid hi
  have HU := Lib.hid (R2.out.trans hu)
  clear hi hu R2
  go_wp2_with fail
  go_ret
  exact ⟨rfl, HI.out, HU.out⟩
theorem setu_any (b o : Nat) (z n : Int) (h0 : 0 ≤ n) (h1 : n ≤ 18446744073709551615) (w : World) (h : IntAt w b o z) :
    Calls Try.prog 136 #[.pointer (some ⟨b, o, none⟩), .int .u64 n] w fun e w' => e = .returned (.pointer (some ⟨b, o, none⟩)) ∧ IntAt w' b o n ∧ Upd w w' b o 2 := by
  obtain ⟨neg, ds, h2, _⟩ := h.ex
  exact setu_raw b o neg ds n h0 h1 w h2

/-- A new number is nought. -/
theorem new_int (w : World) : IntAt (w.alloc (.cells #[.bool false, .slice none 0 0] 148)) w.heap.size 0 0 := by
  refine ⟨false, [], ⟨⟨none, 0, ?_, ?_, Nat.le_refl _, .inl rfl⟩, Dig.nil, ?_, ?_⟩, Trim.nil, (fun h => by cases h), rfl⟩
  all_goals simp

/-- A number's sign is turned: of a number that is not nought. -/
theorem neg_store {w : World} {b o : Nat} {n : Int} (h : IntAt w b o n) (hn : 0 < n) : IntAt (w.setCell ⟨b, o, none⟩ (.bool true)) b o (-n) ∧ Upd w (w.setCell ⟨b, o, none⟩ (.bool true)) b o 2 := by
  obtain ⟨neg, ds, h1, h2, h3, h4⟩ := h.ex
  obtain ⟨r1, r2⟩ := raw_storeN (neg' := true) h1
  have hd := dval_nonneg h1.dig
  refine ⟨⟨true, ds, r1, h2, fun _ => ?_, ?_⟩, r2⟩
  · rintro rfl
    have e : dval [] = 0 := rfl
    rw [e] at h4
    cases neg <;> simp [sg] at h4 <;> omega
  · cases neg <;> simp only [sg, if_true, Bool.false_eq_true, if_false] at h4 ⊢ <;> omega

theorem wrap_neg {n : Int} (h0 : -9223372036854775808 ≤ n) (h1 : n < 0) : IntKind.u64.wrap (-IntKind.u64.wrap n) = -n := by
  simp [IntKind.wrap, IntKind.signed, IntKind.bits]
  omega

set_option maxHeartbeats 1000000 in
theorem seti_any (b o : Nat) (z n : Int) (h0 : -9223372036854775808 ≤ n) (h1 : n ≤ 9223372036854775807) (w : World) (h : IntAt w b o z) :
    Calls Try.prog 117 #[.pointer (some ⟨b, o, none⟩), .int .i64 n] w fun e w' => e = .returned (.pointer (some ⟨b, o, none⟩)) ∧ IntAt w' b o n ∧ Upd w w' b o 2 := by
  by_cases hn : n < 0
  · have HT := Lib.hid (setu_any b o z (-n) (by omega) (by omega) w h)
    have HW := Lib.hid (wrap_neg h0 hn)
    clear h
    go_enter Try.func117, Try.ntmps117
    go_wp2_with fail
    rw [HW.out]
    refine HT.out.mono ?_
    rintro e w1 ⟨rfl, hi, hu⟩
    obtain ⟨neg, A, m, c, c0, c1, f0, f1⟩ := hi.cells
    have HP := Lib.hid (neg_store hi (by omega))
    have HU := Lib.hid hu
    clear hi hu HT HW
    go_wp2_with fail
    go_ret
    exact ⟨rfl, by have := HP.out.1; rwa [Int.neg_neg] at this, HU.out.trans HP.out.2⟩
  · have HT := Lib.hid (setu_any b o z n (by omega) (by omega) w h)
    clear h
    go_enter Try.func117, Try.ntmps117
    go_wp2_with fail
    refine HT.out.mono ?_
    rintro e w1 ⟨rfl, hi, hu⟩
    have HI := Lib.hid hi
    have HU := Lib.hid hu
    clear hi hu HT
    go_wp2_with fail
    go_ret
    exact ⟨rfl, HI.out, HU.out⟩

set_option maxHeartbeats 1000000 in
theorem newint_any (n : Int) (h0 : -9223372036854775808 ≤ n) (h1 : n ≤ 9223372036854775807) (w : World) :
    Calls Try.prog 82 #[.int .i64 n] w fun e w' => ∃ b, e = .returned (.pointer (some ⟨b, 0, none⟩)) ∧ IntAt w' b 0 n ∧ w.heap.size ≤ b ∧ Below w.heap.size w w' := by
  have hi := new_int w
  have HT := Lib.hid (seti_any w.heap.size 0 0 n h0 h1 _ hi)
  have HB : Hid (Below w.heap.size w (w.alloc (.cells #[.bool false, .slice none 0 0] 148))) := Lib.hid ((Below.refl _ _).alloc (Nat.le_refl _) _)
  clear hi h0 h1
  go_enter Try.func82, Try.ntmps82
  go_wp2_with fail
  refine HT.out.mono ?_
  rintro e w1 ⟨rfl, hi, hu⟩
  have HI := Lib.hid hi
  have HU := Lib.hid (HB.out.trans (hu.below (B := w.heap.size) (Nat.le_refl _) (by simp)))
  clear hi hu HT HB
  go_wp2_with fail
  go_ret
  exact ⟨_, rfl, HI.out, Nat.le_refl _, HU.out⟩
end Go.Proofs.Ytpknjfeiiaopgaa.Big
