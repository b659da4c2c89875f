/- Walks: Set, Sign, Neg, Abs. -/
import Derived.Test.YtpknjfeiiaopgaaBigA
import Derived.Test.YtpknjfeiiaopgaaBigP
namespace Go.Proofs.Ytpknjfeiiaopgaa.Big
open Go.RowKit

theorem infoD : (Try.prog.info? 195).map (fun i => (i.zero, i.size, i.bytes)) = some (some (.int .u32 0), 1, 4) := by kernel_rfl

set_option maxHeartbeats 1000000 in
theorem set_raw (b o b' o' : Nat) (neg neg' : Bool) (ds ds' : List Int) (w : World) (h : RawAt w b o neg ds) (h' : RawAt w b' o' neg' ds') (hlen : ds'.length ≤ 100000) :
    Calls Try.prog 116 #[.pointer (some ⟨b, o, none⟩), .pointer (some ⟨b', o', none⟩)] w fun e w' => e = .returned (.pointer (some ⟨b, o, none⟩)) ∧ RawAt w' b o neg' ds' ∧ Upd w w' b o 2 := by
  obtain ⟨A, c, c0, c1, hc, hr⟩ := h.ex
  obtain ⟨A', c', c0', c1', hc', hr'⟩ := h'.ex
  have f0 := h.fr0
  have f1 := h.fr1
  have hbl := h.lt
  have hbl' := h'.lt
  obtain ⟨n, Hn⟩ : ∃ n, Hid (n = ds'.length) := ⟨_, Lib.hid rfl⟩
  rw [← Hn.out] at c1' hc'
  have H := Lib.hid h
  have Hr := Lib.hid hr'
  have H' := Lib.hid h'
  have Hd := Lib.hid h'.dig
  have Hl := Lib.hid hlen
  clear h h' hr hr' hc hc' hlen
  have HS : Hid (∀ W1 A1 c1, Below w.heap.size w W1 → RdI .u32 W1 A1 ds' → n ≤ c1 → RawAt ((W1.setCell ⟨b, o, none⟩ (.bool neg')).setCell ⟨b, o + 1, none⟩ (.slice A1 n c1)) b o neg' ds' ∧ Upd w ((W1.setCell ⟨b, o, none⟩ (.bool neg')).setCell ⟨b, o + 1, none⟩ (.slice A1 n c1)) b o 2) :=
    Lib.hid fun W1 A1 c1 h1 h2 h3 => by
      obtain ⟨r1, r2⟩ := raw_store (neg := neg') (A := A1) (c := c1) (H.out.below h1) Hn.out h3 h2 Hd.out
      exact ⟨r1, (Upd.of_below h1 b o 2).trans r2⟩
  go_enter Try.func116, Try.ntmps116
  go_wp2_with fail
  have hn : n ≤ 1000000000 := by have := Hl.out; have := Hn.out; omega
  go_region_law ((refine step_copyI rfl _ _ 146 rfl 195 .u32 4 Try.underlying146 infoD (by omega) _ rfl A' n c' rfl ds' (RdI.below Hr.out (by repeat (first | (with_reducible exact Below.refl _ _) | (with_reducible assumption) | (with_reducible refine Below.drew ?_) | (with_reducible refine below_drewN ?_ _) | ((with_reducible refine Below.setCell ?_ ?_ _); rotate_left; (next => first | omega | exact Nat.le_refl _ | (refine Below.size (B := ?_) ?_; rotate_left; assumption) | (simp; done) | (simp; omega))) | ((with_reducible refine Below.alloc ?_ ?_ _); rotate_left; (next => first | omega | exact Nat.le_refl _ | (refine Below.size (B := ?_) ?_; rotate_left; assumption) | (simp; done) | (simp; omega))) | ((with_reducible refine Below.trans (b := ?_) ?_ (Below.mono (B := ?_) ?_ ?_)); rotate_left 3; (next => (with_reducible assumption)); (next => first | omega | exact Nat.le_refl _ | (refine Below.size (B := ?_) ?_; rotate_left; assumption) | (simp; done) | (simp; omega))) | exact Below.refl _ _ | assumption | refine Below.drew ?_ | refine below_drewN ?_ _ | refine Below.alloc ?_ (by first | omega | exact Below.size (by assumption) | (simp; done) | (simp; omega)) _ | refine Below.setCell ?_ (by first | omega | exact Below.size (by assumption) | (simp; done) | (simp; omega)) _ | refine Below.trans ?_ (Below.mono (by assumption) (by first | omega | exact Below.size (by assumption) | (simp; done) | (simp; omega)))))) Hn.out hn ?_; intro A1 c1 w1 r1 r2 r3; have hbw : Below w.heap.size w w1 := (by repeat (first | (with_reducible exact Below.refl _ _) | (with_reducible assumption) | (with_reducible refine Below.drew ?_) | (with_reducible refine below_drewN ?_ _) | ((with_reducible refine Below.setCell ?_ ?_ _); rotate_left; (next => first | omega | exact Nat.le_refl _ | (refine Below.size (B := ?_) ?_; rotate_left; assumption) | (simp; done) | (simp; omega))) | ((with_reducible refine Below.alloc ?_ ?_ _); rotate_left; (next => first | omega | exact Nat.le_refl _ | (refine Below.size (B := ?_) ?_; rotate_left; assumption) | (simp; done) | (simp; omega))) | ((with_reducible refine Below.trans (b := ?_) ?_ (Below.mono (B := ?_) ?_ ?_)); rotate_left 3; (next => (with_reducible assumption)); (next => first | omega | exact Nat.le_refl _ | (refine Below.size (B := ?_) ?_; rotate_left; assumption) | (simp; done) | (simp; omega))) | exact Below.refl _ _ | assumption | refine Below.drew ?_ | refine below_drewN ?_ _ | refine Below.alloc ?_ (by first | omega | exact Below.size (by assumption) | (simp; done) | (simp; omega)) _ | refine Below.setCell ?_ (by first | omega | exact Below.size (by assumption) | (simp; done) | (simp; omega)) _ | refine Below.trans ?_ (Below.mono (by assumption) (by first | omega | exact Below.size (by assumption) | (simp; done) | (simp; omega))))); obtain ⟨A9, m9, c9, k0, k1, g0, g1⟩ := (H.out.below hbw).cells; obtain ⟨A8, m8, c8, k0', k1', g0', g1'⟩ := (H'.out.below hbw).cells; have HP := Lib.hid (HS.out w1 A1 c1 hbw r1 r2); clear r1 r2 r3))
  all_goals go_wp2_with fail
  all_goals go_ret
  all_goals exact ⟨rfl, ‹Hid (RawAt _ b o neg' ds' ∧ _)›.out.1, ‹Hid (RawAt _ b o neg' ds' ∧ _)›.out.2⟩

theorem set_any (b o b' o' : Nat) (z x : Int) (w : World) (h : IntAt w b o z) (h' : IntAt w b' o' x) (hs : Sm x) :
    Calls Try.prog 116 #[.pointer (some ⟨b, o, none⟩), .pointer (some ⟨b', o', none⟩)] w fun e w' => e = .returned (.pointer (some ⟨b, o, none⟩)) ∧ IntAt w' b o x ∧ Upd w w' b o 2 := by
  obtain ⟨neg, ds, h1, _⟩ := h.ex
  obtain ⟨neg', ds', h1', h2, h3, rfl⟩ := h'.ex
  exact (set_raw b o b' o' neg neg' ds ds' w h1 h1' (by have := hs.len h2 h1'.dig; omega)).mono fun e w' ⟨he, hr, hu⟩ => ⟨he, ⟨neg', ds', hr, h2, h3, rfl⟩, hu⟩

set_option maxHeartbeats 1000000 in
theorem sign_any (b o : Nat) (z : Int) (w : World) (h : IntAt w b o z) :
    Calls Try.prog 108 #[.pointer (some ⟨b, o, none⟩)] w fun e w' => e = .returned (.int .i64 z.sign) ∧ w = w' := by
  obtain ⟨neg, ds, h1, h2, h3, h4⟩ := h.ex
  obtain ⟨A, c, c0, c1, hc, hr⟩ := h1.ex
  have hp := h2.pos h1.dig
  have hz := h2.zero h1.dig
  obtain ⟨n, Hn⟩ : ∃ n, Hid (ds.length = n) := ⟨_, Lib.hid rfl⟩
  rw [Hn.out] at c1 hc
  by_cases h0 : n = 0
  · have e0 : ds = [] := List.eq_nil_of_length_eq_zero (by rw [Hn.out, h0])
    have HZ : Hid (z.sign = 0) := Lib.hid (by rw [h4, hz.2 e0]; cases neg <;> rfl)
    clear h h1 h2 h3 h4 hp hz hr e0 Hn
    subst h0
    go_enter Try.func108, Try.ntmps108
    go_wp2_with fail
    go_ret
    exact ⟨ret_int HZ.out.symm, rfl⟩
  · have e0 : ds ≠ [] := by
      rintro rfl
      exact h0 Hn.out.symm
    have hpos := hp.2 e0
    have HZ : Hid (z.sign = if neg then -1 else 1) := Lib.hid (by
      rw [h4]
      cases neg
      · exact Int.sign_eq_one_of_pos hpos
      · exact Int.sign_eq_neg_one_of_neg (by simp only [sg, if_true]; omega))
    have hn : ¬ n = 0 := h0
    have hn' : ((n : Int) == 0) = false := by simpa using h0
    clear h h1 h2 h3 h4 hp hz hr e0 Hn h0 hpos hn
    cases neg
    all_goals
      go_enter Try.func108, Try.ntmps108
      go_wp2_with fail
      go_ret
      exact ⟨ret_int HZ.out.symm, rfl⟩

/-- The sign of a number with digits. -/
theorem sg_neg {neg : Bool} {ds : List Int} : sg (!neg && decide (0 < ds.length)) (dval ds) = -sg neg (dval ds) := by
  by_cases h : ds = []
  · subst h; cases neg <;> rfl
  · have : 0 < ds.length := List.length_pos_iff.2 h
    cases neg <;> simp [sg, this]

set_option maxHeartbeats 1000000 in
theorem neg_any (b o b' o' : Nat) (z x : Int) (w : World) (h : IntAt w b o z) (h' : IntAt w b' o' x) (hs : Sm x) :
    Calls Try.prog 115 #[.pointer (some ⟨b, o, none⟩), .pointer (some ⟨b', o', none⟩)] w fun e w' => e = .returned (.pointer (some ⟨b, o, none⟩)) ∧ IntAt w' b o (-x) ∧ Upd w w' b o 2 := by
  have HS := Lib.hid (set_any b o b' o' z x w h h' hs)
  clear h h' hs
  go_enter Try.func115, Try.ntmps115
  go_wp2_with fail
  refine HS.out.mono ?_
  rintro e w1 ⟨rfl, hi, hu⟩
  obtain ⟨neg, ds, h1, h2, h3, h4⟩ := hi.ex
  obtain ⟨A, c, c0, c1, hc, hr⟩ := h1.ex
  have f0 := h1.fr0
  have HU := Lib.hid hu
  have HR := Lib.hid h1
  have HN : Hid (∀ neg', neg' = (!neg && decide (0 < ds.length)) → IntAt (w1.setCell ⟨b, o, none⟩ (.bool neg')) b o (-x) ∧ Upd w1 (w1.setCell ⟨b, o, none⟩ (.bool neg')) b o 2) := Lib.hid fun neg' hn => by
    obtain ⟨r1, r2⟩ := raw_storeN (neg' := neg') h1
    refine ⟨⟨neg', ds, r1, h2, fun hh he => ?_, by rw [h4, hn, sg_neg]⟩, r2⟩
    rw [hn, he] at hh
    simp at hh
  obtain ⟨n, Hn⟩ : ∃ n, Hid (ds.length = n) := ⟨_, Lib.hid rfl⟩
  rw [Hn.out] at c1 HN
  clear hi hu h1 h2 h3 h4 hc hr HS HR Hn
  cases neg
  all_goals
    go_wp2_with fail
    go_ret
    refine ⟨rfl, ?_, ?_⟩
    · exact (HN.out _ (by simp)).1
    · exact HU.out.trans (HN.out _ (by simp)).2

set_option maxHeartbeats 1000000 in
theorem abs_any (b o b' o' : Nat) (z x : Int) (w : World) (h : IntAt w b o z) (h' : IntAt w b' o' x) (hs : Sm x) :
    Calls Try.prog 135 #[.pointer (some ⟨b, o, none⟩), .pointer (some ⟨b', o', none⟩)] w fun e w' => e = .returned (.pointer (some ⟨b, o, none⟩)) ∧ IntAt w' b o (x.natAbs : Int) ∧ Upd w w' b o 2 := by
  have HS := Lib.hid (set_any b o b' o' z x w h h' hs)
  clear h h' hs
  go_enter Try.func135, Try.ntmps135
  go_wp2_with fail
  refine HS.out.mono ?_
  rintro e w1 ⟨rfl, hi, hu⟩
  obtain ⟨neg, ds, h1, h2, h3, h4⟩ := hi.ex
  obtain ⟨A, c, c0, c1, hc, hr⟩ := h1.ex
  have f0 := h1.fr0
  have HU := Lib.hid hu
  have HN : Hid (IntAt (w1.setCell ⟨b, o, none⟩ (.bool false)) b o (x.natAbs : Int) ∧ Upd w1 (w1.setCell ⟨b, o, none⟩ (.bool false)) b o 2) := Lib.hid (by
    obtain ⟨r1, r2⟩ := raw_storeN (neg' := false) h1
    refine ⟨⟨false, ds, r1, h2, (fun hh => by cases hh), ?_⟩, r2⟩
    rw [h4]
    have := dval_nonneg h1.dig
    cases neg <;> simp only [sg, if_true, Bool.false_eq_true, if_false] <;> omega)
  clear hi hu h1 h2 h3 h4 hc hr HS
  go_wp2_with fail
  go_ret
  exact ⟨rfl, HN.out.1, HU.out.trans HN.out.2⟩
end Go.Proofs.Ytpknjfeiiaopgaa.Big
