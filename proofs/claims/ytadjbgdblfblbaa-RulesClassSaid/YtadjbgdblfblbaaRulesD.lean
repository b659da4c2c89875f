/- The walk of rules.Class. -/
import Derived.Test.YtadjbgdblfblbaaRulesC
namespace Go.Proofs.Ytadjbgdblfblbaa.Rules
open Go.RowKit Go.Proofs.Ytadjbgdblfblbaa.Trie

/-- rules.Class$1: does a rule fit the head in the box. -/
theorem fit_any (r : Rule) (h : Head) (B : Nat) (w : World) (hr : r.bytes) (hh : h.bytes) (hB : ∀ o, w.cell? ⟨B, o, none⟩ = (h.cells.toArray : Array Value)[o]?) (hl : B < w.heap.size) :
    Calls Try.prog 93 #[.agg r.cells.toArray, .pointer (some ⟨B, 0, none⟩)] w fun e w' => e = .returned (.bool (fits r h)) ∧ Below w.heap.size w w' := by
  have H : Hid (∀ W, Calls Try.prog 50 #[.agg r.cells.toArray, .agg h.cells.toArray] W fun e w' => e = .returned (.bool (fits r h)) ∧ Below W.heap.size W w') := Lib.hid (fits_any r h hr hh)
  generalize fits r h = b at H ⊢
  clear hr hh
  obtain ⟨sa, sb, sc, sd, da, db, dc, dd, sbits, dbits, proto, low, high, cls⟩ := r
  obtain ⟨ha, hb, hc, hd, ga, gb, gc, gd, hproto, sport, dport, len, mark⟩ := h
  simp only [Rule.cells, Head.cells] at H hB ⊢
  go_enter Try.func93, Try.ntmps93
  go_wp2_with fail
  refine (H.out _).mono ?_
  rintro e w1 ⟨rfl, hb1⟩
  go_wp2_with fail
  go_ret
  exact ⟨rfl, (by repeat (first | exact Below.refl _ _ | assumption | refine Below.drew ?_ | refine below_drewN ?_ _ | refine Below.alloc ?_ (by first | omega | exact Below.size (by assumption) | (simp; done) | (simp; omega)) _ | refine Below.setCell ?_ (by first | omega | exact Below.size (by assumption) | (simp; done) | (simp; omega)) _ | refine Below.trans ?_ (Below.mono (by assumption) (by first | omega | exact Below.size (by assumption) | (simp; done) | (simp; omega)))))⟩

/-- The class of the first rule that fits. -/
def pick (l : List Rule) (h : Head) : Int × Int := match l.find? (fits · h) with | some r => (r.cls, 0) | none => (0, 3)
theorem pick_nil (h : Head) : pick [] h = (0, 3) := rfl
theorem pick_cons (r : Rule) (l : List Rule) (h : Head) : pick (r :: l) h = if fits r h then (r.cls, 0) else pick l h := by
  unfold pick
  rw [List.find?_cons]
  cases fits r h <;> rfl
theorem pick_idx {l : List Rule} {h : Head} {k : Nat} (hk : l.findIdx? (fits · h) = some k) (hl : k < l.length) : pick l h = ((l[k]).cls, 0) := by
  have : l.find? (fits · h) = some l[k] := by
    rw [List.findIdx?_eq_some_iff_getElem] at hk
    obtain ⟨_, h1, h2⟩ := hk
    rw [List.find?_eq_some_iff_getElem]
    exact ⟨h1, k, hl, rfl, fun j hj => by simpa using h2 j hj⟩
  rw [pick, this]
theorem pick_none {l : List Rule} {h : Head} (hk : l.findIdx? (fits · h) = none) : pick l h = (0, 3) := by
  have : l.find? (fits · h) = none := by
    rw [List.findIdx?_eq_none_iff] at hk
    rw [List.find?_eq_none]
    intro x hx
    simp [hk x hx]
  rw [pick, this]

theorem enter_fit : ∀ args W, (callFunc 93 args).run Try.prog W = .ok (.enter 93 args) W := fun _ _ => by kernel_rfl

set_option maxRecDepth 100000 in
set_option maxHeartbeats 1000000 in
theorem class_any (A : Option Addr) (n c : Nat) (l : List Rule) (h : Head) (w : World) (hr : Rd w A (l.flatMap Rule.cells)) (hn : l.length = n) (hm : n ≤ 140737488355328) (hbs : ∀ r ∈ l, r.bytes) (hh : h.bytes) :
    Calls Try.prog 47 #[.slice A n c, .agg h.cells.toArray] w fun e w' => e = .returned (.tuple #[.int .i64 (if wrongB l then 0 else (pick l h).1), .int .i64 (if wrongB l then 2 else (pick l h).2)]) ∧ Below w.heap.size w w' := by
  have HW : Hid (∀ W, Below w.heap.size w W → Calls Try.prog 48 #[.slice A n c] W fun e w' => e = .returned (.int .i64 (if wrongB l then 2 else 0)) ∧ Below W.heap.size W w') :=
    Lib.hid fun W hb => wrong_any A n c l W (hr.below hb) hn hm
  cases hwb : wrongB l
  · rw [hwb] at HW
    clear hwb
    have HI : Hid (∀ W B, Below w.heap.size w W → B < W.heap.size → (∀ o, W.cell? ⟨B, o, none⟩ = (h.cells.toArray : Array Value)[o]?) → Calls Try.prog 92 #[.slice A n c, .func (.func 93) #[] #[.pointer (some ⟨B, 0, none⟩)]] W fun e w' => e = .returned (.int .i64 (idxOf (l.findIdx? (fits · h)))) ∧ Below W.heap.size W w') :=
      Lib.hid fun W B hb hB hc => index_any A n c l 93 #[.pointer (some ⟨B, 0, none⟩)] (fits · h) W (hr.below hb) hn hm enter_fit
        (Lib.hid fun W' hb' r hrl => fit_any r h B W' (hbs r hrl) hh (fun o => (hb'.cell (p := ⟨B, o, none⟩) hB).trans (hc o)) (Nat.lt_of_lt_of_le hB hb'.size))
    cases hix : l.findIdx? (fits · h) with
    | none =>
      rw [hix] at HI
      have Hp := Lib.hid (pick_none hix)
      have Hp1 : Hid ((pick l h).1 = 0) := Lib.hid (by rw [Hp.out])
      have Hp2 : Hid ((pick l h).2 = 3) := Lib.hid (by rw [Hp.out])
      simp only [Hp1.out, Hp2.out, if_neg Bool.false_ne_true] at HW ⊢
      clear hix Hp Hp1 Hp2 hr hn hm hbs hh
      simp only [idxOf] at HI
      obtain ⟨ha, hb, hc, hd, ga, gb, gc, gd, hproto, sport, dport, len, mark⟩ := h
      simp only [Head.cells] at HI ⊢
      go_enter Try.func47, Try.ntmps47
      go_wp2_with fail
      refine (HW.out _ (by repeat (first | exact Below.refl _ _ | assumption | refine Below.drew ?_ | refine below_drewN ?_ _ | refine Below.alloc ?_ (by first | omega | exact Below.size (by assumption) | (simp; done) | (simp; omega)) _ | refine Below.setCell ?_ (by first | omega | exact Below.size (by assumption) | (simp; done) | (simp; omega)) _ | refine Below.trans ?_ (Below.mono (by assumption) (by first | omega | exact Below.size (by assumption) | (simp; done) | (simp; omega)))))).mono ?_
      rintro e w1 ⟨rfl, hb1⟩
      have c1_0 := fun o => Below.cell hb1 (p := ⟨w.heap.size, o, none⟩) (by first | omega | exact Below.size (by assumption) | (simp; done) | (simp; omega))
      have l1_0 : w.heap.size < w1.heap.size := Nat.lt_of_lt_of_le (by first | omega | exact Below.size (by assumption) | (simp; done) | (simp; omega)) (Below.size hb1)
      go_wp2_with fail
      refine (HI.out _ _ (by repeat (first | exact Below.refl _ _ | assumption | refine Below.drew ?_ | refine below_drewN ?_ _ | refine Below.alloc ?_ (by first | omega | exact Below.size (by assumption) | (simp; done) | (simp; omega)) _ | refine Below.setCell ?_ (by first | omega | exact Below.size (by assumption) | (simp; done) | (simp; omega)) _ | refine Below.trans ?_ (Below.mono (by assumption) (by first | omega | exact Below.size (by assumption) | (simp; done) | (simp; omega))))) (by assumption) (fun o => (c1_0 o).trans (by simp [go_sem]))).mono ?_
      rintro e w2 ⟨rfl, hb2⟩
      go_wp2_with fail
      go_ret2
      exact ⟨rfl, (by repeat (first | exact Below.refl _ _ | assumption | refine Below.drew ?_ | refine below_drewN ?_ _ | refine Below.alloc ?_ (by first | omega | exact Below.size (by assumption) | (simp; done) | (simp; omega)) _ | refine Below.setCell ?_ (by first | omega | exact Below.size (by assumption) | (simp; done) | (simp; omega)) _ | refine Below.trans ?_ (Below.mono (by assumption) (by first | omega | exact Below.size (by assumption) | (simp; done) | (simp; omega)))))⟩
    | some k =>
      rw [hix] at HI
      have hl : k < l.length := by rw [List.findIdx?_eq_some_iff_getElem] at hix; exact hix.1
      have hk : k < n := by omega
      have Hp := Lib.hid (pick_idx hix hl)
      have Hp1 : Hid ((pick l h).1 = l[k].cls) := Lib.hid (by rw [Hp.out])
      have Hp2 : Hid ((pick l h).2 = 0) := Lib.hid (by rw [Hp.out])
      simp only [Hp1.out, Hp2.out, if_neg Bool.false_ne_true] at HW ⊢
      obtain ⟨b, off, rfl, hbl, hc⟩ := atR hr (Below.refl _ _) hl
      have hcc := hc 13 _ rfl
      clear hc
      obtain ⟨cls, Hcls⟩ : ∃ c, Hid (l[k].cls = c) := ⟨_, Lib.hid rfl⟩
      simp only [Hcls.out] at hcc ⊢
      clear hix Hp Hp1 Hp2 hr hn hbs hh Hcls hl
      simp only [idxOf] at HI
      obtain ⟨ha, hb, hc, hd, ga, gb, gc, gd, hproto, sport, dport, len, mark⟩ := h
      simp only [Head.cells] at HI ⊢
      go_enter Try.func47, Try.ntmps47
      go_wp2_with fail
      refine (HW.out _ (by repeat (first | exact Below.refl _ _ | assumption | refine Below.drew ?_ | refine below_drewN ?_ _ | refine Below.alloc ?_ (by first | omega | exact Below.size (by assumption) | (simp; done) | (simp; omega)) _ | refine Below.setCell ?_ (by first | omega | exact Below.size (by assumption) | (simp; done) | (simp; omega)) _ | refine Below.trans ?_ (Below.mono (by assumption) (by first | omega | exact Below.size (by assumption) | (simp; done) | (simp; omega)))))).mono ?_
      rintro e w1 ⟨rfl, hb1⟩
      have c1_0 := fun o => Below.cell hb1 (p := ⟨w.heap.size, o, none⟩) (by first | omega | exact Below.size (by assumption) | (simp; done) | (simp; omega))
      have l1_0 : w.heap.size < w1.heap.size := Nat.lt_of_lt_of_le (by first | omega | exact Below.size (by assumption) | (simp; done) | (simp; omega)) (Below.size hb1)
      go_wp2_with fail
      refine (HI.out _ _ (by repeat (first | exact Below.refl _ _ | assumption | refine Below.drew ?_ | refine below_drewN ?_ _ | refine Below.alloc ?_ (by first | omega | exact Below.size (by assumption) | (simp; done) | (simp; omega)) _ | refine Below.setCell ?_ (by first | omega | exact Below.size (by assumption) | (simp; done) | (simp; omega)) _ | refine Below.trans ?_ (Below.mono (by assumption) (by first | omega | exact Below.size (by assumption) | (simp; done) | (simp; omega))))) (by assumption) (fun o => (c1_0 o).trans (by simp [go_sem]))).mono ?_
      rintro e w2 ⟨rfl, hb2⟩
      have hB2 : Below w.heap.size w w2 := (by repeat (first | exact Below.refl _ _ | assumption | refine Below.drew ?_ | refine below_drewN ?_ _ | refine Below.alloc ?_ (by first | omega | exact Below.size (by assumption) | (simp; done) | (simp; omega)) _ | refine Below.setCell ?_ (by first | omega | exact Below.size (by assumption) | (simp; done) | (simp; omega)) _ | refine Below.trans ?_ (Below.mono (by assumption) (by first | omega | exact Below.size (by assumption) | (simp; done) | (simp; omega)))))
      have hc2 := (hB2.cell (p := ⟨b, off + k * 14 + 13, none⟩) hbl).trans hcc
      go_wp2_with fail
      go_ret2
      exact ⟨rfl, (by repeat (first | exact Below.refl _ _ | assumption | refine Below.drew ?_ | refine below_drewN ?_ _ | refine Below.alloc ?_ (by first | omega | exact Below.size (by assumption) | (simp; done) | (simp; omega)) _ | refine Below.setCell ?_ (by first | omega | exact Below.size (by assumption) | (simp; done) | (simp; omega)) _ | refine Below.trans ?_ (Below.mono (by assumption) (by first | omega | exact Below.size (by assumption) | (simp; done) | (simp; omega)))))⟩
  · rw [hwb] at HW
    simp only [if_true] at HW ⊢
    clear hwb hr hn hm hbs hh
    obtain ⟨ha, hb, hc, hd, ga, gb, gc, gd, hproto, sport, dport, len, mark⟩ := h
    simp only [Head.cells]
    go_enter Try.func47, Try.ntmps47
    go_wp2_with fail
    refine (HW.out _ (by repeat (first | exact Below.refl _ _ | assumption | refine Below.drew ?_ | refine below_drewN ?_ _ | refine Below.alloc ?_ (by first | omega | exact Below.size (by assumption) | (simp; done) | (simp; omega)) _ | refine Below.setCell ?_ (by first | omega | exact Below.size (by assumption) | (simp; done) | (simp; omega)) _ | refine Below.trans ?_ (Below.mono (by assumption) (by first | omega | exact Below.size (by assumption) | (simp; done) | (simp; omega)))))).mono ?_
    rintro e w1 ⟨rfl, hb1⟩
    go_wp2_with fail
    go_ret2
    exact ⟨rfl, (by repeat (first | exact Below.refl _ _ | assumption | refine Below.drew ?_ | refine below_drewN ?_ _ | refine Below.alloc ?_ (by first | omega | exact Below.size (by assumption) | (simp; done) | (simp; omega)) _ | refine Below.setCell ?_ (by first | omega | exact Below.size (by assumption) | (simp; done) | (simp; omega)) _ | refine Below.trans ?_ (Below.mono (by assumption) (by first | omega | exact Below.size (by assumption) | (simp; done) | (simp; omega)))))⟩
end Go.Proofs.Ytadjbgdblfblbaa.Rules
