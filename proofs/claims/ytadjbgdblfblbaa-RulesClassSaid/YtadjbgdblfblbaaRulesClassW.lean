/- The walk of the law RulesClass. -/
import Derived.Test.YtadjbgdblfblbaaRulesD
import Derived.Deep.RegionHeld3
import Derived.Outline
namespace Go.Proofs.Ytadjbgdblfblbaa.RulesClass
open Go.RowKit Go.Proofs.Ytadjbgdblfblbaa.Trie Go.Proofs.Ytadjbgdblfblbaa.Rules

/-- What a region that draws keeps: an own block, and a row's cells. -/
theorem heldrow {wr W W' : World} {b1 b p : Nat} {f1 : Nat → Option Value} {v0 v1 v2 v3 v4 v5 v6 v7 v8 v9 v10 v11 v12 v13 : Option Value} (hb : Below W.heap.size W W') (l1 : b1 < wr.heap.size) (l2 : b < wr.heap.size)
    (h : Below wr.heap.size wr W ∧ (∀ o, W.cell? ⟨b1, o, none⟩ = f1 o) ∧ W.cell? ⟨b, p, none⟩ = v0 ∧ W.cell? ⟨b, p + 1, none⟩ = v1 ∧ W.cell? ⟨b, p + 2, none⟩ = v2 ∧ W.cell? ⟨b, p + 3, none⟩ = v3 ∧ W.cell? ⟨b, p + 4, none⟩ = v4 ∧ W.cell? ⟨b, p + 5, none⟩ = v5 ∧ W.cell? ⟨b, p + 6, none⟩ = v6 ∧ W.cell? ⟨b, p + 7, none⟩ = v7 ∧ W.cell? ⟨b, p + 8, none⟩ = v8 ∧ W.cell? ⟨b, p + 9, none⟩ = v9 ∧ W.cell? ⟨b, p + 10, none⟩ = v10 ∧ W.cell? ⟨b, p + 11, none⟩ = v11 ∧ W.cell? ⟨b, p + 12, none⟩ = v12 ∧ W.cell? ⟨b, p + 13, none⟩ = v13) :
    Below wr.heap.size wr W' ∧ (∀ o, W'.cell? ⟨b1, o, none⟩ = f1 o) ∧ W'.cell? ⟨b, p, none⟩ = v0 ∧ W'.cell? ⟨b, p + 1, none⟩ = v1 ∧ W'.cell? ⟨b, p + 2, none⟩ = v2 ∧ W'.cell? ⟨b, p + 3, none⟩ = v3 ∧ W'.cell? ⟨b, p + 4, none⟩ = v4 ∧ W'.cell? ⟨b, p + 5, none⟩ = v5 ∧ W'.cell? ⟨b, p + 6, none⟩ = v6 ∧ W'.cell? ⟨b, p + 7, none⟩ = v7 ∧ W'.cell? ⟨b, p + 8, none⟩ = v8 ∧ W'.cell? ⟨b, p + 9, none⟩ = v9 ∧ W'.cell? ⟨b, p + 10, none⟩ = v10 ∧ W'.cell? ⟨b, p + 11, none⟩ = v11 ∧ W'.cell? ⟨b, p + 12, none⟩ = v12 ∧ W'.cell? ⟨b, p + 13, none⟩ = v13 := by
  obtain ⟨h, hf, h0, h1, h2, h3, h4, h5, h6, h7, h8, h9, h10, h11, h12, h13⟩ := h
  have k : ∀ x, W'.cell? ⟨b, x, none⟩ = W.cell? ⟨b, x, none⟩ := fun x => hb.cell (p := ⟨b, x, none⟩) (Nat.lt_of_lt_of_le l2 h.size)
  exact ⟨h.trans (hb.mono h.size), fun o => (hb.cell (p := ⟨b1, o, none⟩) (Nat.lt_of_lt_of_le l1 h.size)).trans (hf o), (k _).trans h0, (k _).trans h1, (k _).trans h2, (k _).trans h3, (k _).trans h4, (k _).trans h5, (k _).trans h6, (k _).trans h7, (k _).trans h8, (k _).trans h9, (k _).trans h10, (k _).trans h11, (k _).trans h12, (k _).trans h13⟩

set_option maxRecDepth 100000 in
set_option maxHeartbeats 4000000 in
theorem walk (A : Option Addr) (n c : Nat) (l : List Rule) (h : Head) (w : World) (hr : Rd w A (l.flatMap Rule.cells)) (hn : l.length = n) (hm : n ≤ 140737488355328) (hbs : ∀ r ∈ l, r.bytes) (hh : h.bytes) :
    Calls Try.prog 9 #[.slice A n c, .agg h.cells.toArray] w fun e w' => e = .returned (.bool true) ∧ Below w.heap.size w w' := by
  have HC : Hid (∀ W, Below w.heap.size w W → Calls Try.prog 47 #[.slice A n c, .agg h.cells.toArray] W fun e w' => e = .returned (.tuple #[.int .i64 (if wrongB l then 0 else (pick l h).1), .int .i64 (if wrongB l then 2 else (pick l h).2)]) ∧ Below W.heap.size W w') :=
    Lib.hid fun W hb => class_any A n c l h W (hr.below hb) hn hm hbs hh
  have HW : Hid (∀ W, Below w.heap.size w W → Calls Try.prog 48 #[.slice A n c] W fun e w' => e = .returned (.int .i64 (if wrongB l then 2 else 0)) ∧ Below W.heap.size W w') :=
    Lib.hid fun W hb => wrong_any A n c l W (hr.below hb) hn hm
  have HG : Hid (∀ W, Below w.heap.size w W → Calls Try.prog 49 #[.slice A n c] W fun e w' => e = .returned (.int .i64 (if wrongB l then 2 else 0)) ∧ Below W.heap.size W w') :=
    Lib.hid fun W hb => gwrong_any A n c l W (hr.below hb) hn hm
  have HF : Hid (∀ r ∈ l, ∀ W, Calls Try.prog 50 #[.agg r.cells.toArray, .agg h.cells.toArray] W fun e w' => e = .returned (.bool (fits r h)) ∧ Below W.heap.size W w') :=
    Lib.hid fun r hrl W => fits_any r h (hbs r hrl) hh W
  have HR : Hid (∀ r ∈ l, ∀ W, Calls Try.prog 51 #[.agg r.cells.toArray, .agg h.cells.toArray] W fun e w' => e = .returned (.bool (fits r h)) ∧ Below W.heap.size W w') :=
    Lib.hid fun r hrl W => gfits_any r h (hbs r hrl) hh W
  obtain ⟨F, HFe⟩ : ∃ F : Rule → Bool, Hid (∀ r, fits r h = F r) := ⟨fun r => fits r h, Lib.hid fun _ => rfl⟩
  obtain ⟨P, HP⟩ : ∃ P : List Rule → Int × Int, Hid (∀ l, pick l h = P l) := ⟨fun l => pick l h, Lib.hid fun _ => rfl⟩
  have HPn : Hid (P [] = (0, 3)) := Lib.hid (by rw [← HP.out, pick_nil])
  have HPc : Hid (∀ r l, P (r :: l) = if F r then (r.cls, 0) else P l) := Lib.hid fun r l => by rw [← HP.out, ← HP.out, pick_cons, HFe.out]
  simp only [HP.out, HFe.out] at HC HF HR
  generalize wrongB l = wb at HC HW HG
  obtain ⟨cl, Hcl⟩ : ∃ x, Hid ((if wb then 0 else (P l).1) = x) := ⟨_, Lib.hid rfl⟩
  obtain ⟨er, Her⟩ : ∃ x, Hid ((if wb then 2 else (P l).2) = x) := ⟨_, Lib.hid rfl⟩
  obtain ⟨x, Hx⟩ : ∃ x : Int, Hid ((if wb then 2 else 0) = x) := ⟨_, Lib.hid rfl⟩
  rw [Hcl.out, Her.out] at HC
  rw [Hx.out] at HW HG
  have Hn := Lib.hid hn; clear hn hbs hh HP HFe
  obtain ⟨pa, pb, pc, pd, ga, gb, gc, gd, hproto, sport, dport, len, mark⟩ := h
  simp only [Head.cells] at HC HF HR ⊢
  go_enter Try.func9, Try.ntmps9
  go_wp2_with fail
  refine (HC.out _ (by repeat (first | exact Below.refl _ _ | assumption | refine Below.drew ?_ | refine below_drewN ?_ _ | refine Below.alloc ?_ (by first | omega | exact Below.size (by assumption) | (simp; done) | (simp; omega)) _ | refine Below.setCell ?_ (by first | omega | exact Below.size (by assumption) | (simp; done) | (simp; omega)) _ | refine Below.trans ?_ (Below.mono (by assumption) (by first | omega | exact Below.size (by assumption) | (simp; done) | (simp; omega)))))).mono ?_
  rintro e w1 ⟨rfl, hb1⟩
  have c1_0 := fun o => Below.cell hb1 (p := ⟨w.heap.size, o, none⟩) (by first | omega | exact Below.size (by assumption) | (simp; done) | (simp; omega))
  have l1_0 : w.heap.size < w1.heap.size := Nat.lt_of_lt_of_le (by first | omega | exact Below.size (by assumption) | (simp; done) | (simp; omega)) (Below.size hb1)
  go_wp2_with fail
  refine (HW.out _ (by repeat (first | exact Below.refl _ _ | assumption | refine Below.drew ?_ | refine below_drewN ?_ _ | refine Below.alloc ?_ (by first | omega | exact Below.size (by assumption) | (simp; done) | (simp; omega)) _ | refine Below.setCell ?_ (by first | omega | exact Below.size (by assumption) | (simp; done) | (simp; omega)) _ | refine Below.trans ?_ (Below.mono (by assumption) (by first | omega | exact Below.size (by assumption) | (simp; done) | (simp; omega)))))).mono ?_
  rintro e w2 ⟨rfl, hb2⟩
  have c2_0 := fun o => Below.cell hb2 (p := ⟨w.heap.size, o, none⟩) (by first | omega | exact Below.size (by assumption) | (simp; done) | (simp; omega))
  have l2_0 : w.heap.size < w2.heap.size := Nat.lt_of_lt_of_le (by first | omega | exact Below.size (by assumption) | (simp; done) | (simp; omega)) (Below.size hb2)
  go_wp2_with fail
  refine (HG.out _ (by repeat (first | exact Below.refl _ _ | assumption | refine Below.drew ?_ | refine below_drewN ?_ _ | refine Below.alloc ?_ (by first | omega | exact Below.size (by assumption) | (simp; done) | (simp; omega)) _ | refine Below.setCell ?_ (by first | omega | exact Below.size (by assumption) | (simp; done) | (simp; omega)) _ | refine Below.trans ?_ (Below.mono (by assumption) (by first | omega | exact Below.size (by assumption) | (simp; done) | (simp; omega)))))).mono ?_
  rintro e w3 ⟨rfl, hb3⟩
  have c3_0 := fun o => Below.cell hb3 (p := ⟨w.heap.size, o, none⟩) (by first | omega | exact Below.size (by assumption) | (simp; done) | (simp; omega))
  have l3_0 : w.heap.size < w3.heap.size := Nat.lt_of_lt_of_le (by first | omega | exact Below.size (by assumption) | (simp; done) | (simp; omega)) (Below.size hb3)
  have hB3 : Below w.heap.size w w3 := (by repeat (first | exact Below.refl _ _ | assumption | refine Below.drew ?_ | refine below_drewN ?_ _ | refine Below.alloc ?_ (by first | omega | exact Below.size (by assumption) | (simp; done) | (simp; omega)) _ | refine Below.setCell ?_ (by first | omega | exact Below.size (by assumption) | (simp; done) | (simp; omega)) _ | refine Below.trans ?_ (Below.mono (by assumption) (by first | omega | exact Below.size (by assumption) | (simp; done) | (simp; omega)))))
  go_wp2_with fail
  go_loopw [7, 8, 9] (fun x f i W => ∃ k : Nat, k ≤ n ∧ i = .int .i64 ((k : Int) - 1) ∧ Below w3.heap.size w3 W ∧ x = .int .i64 (P (l.drop k)).1 ∧ f = .int .i64 (P (l.drop k)).2) (fun _ _ i _ => (intOf i + 1).toNat)
  case atStart => exact ⟨n, by omega, rfl, Below.refl _ _, by rw [List.drop_eq_nil_of_le (by have := Hn.out; omega), HPn.out], by rw [List.drop_eq_nil_of_le (by have := Hn.out; omega), HPn.out]⟩
  case round =>
    obtain ⟨k, hk, rfl, hbW, rfl, rfl⟩ := hrel
    have hsW := hbW.size
    have hB : Below w.heap.size w wr := hB3.trans (hbW.mono hB3.size)
    have c4_0 := fun o => Below.cell hbW (p := ⟨w.heap.size, o, none⟩) (by first | omega | exact Below.size (by assumption) | (simp; done) | (simp; omega))
    have l4_0 : w.heap.size < wr.heap.size := Nat.lt_of_lt_of_le (by first | omega | exact Below.size (by assumption) | (simp; done) | (simp; omega)) (Below.size hbW)
    have hhead : ∀ o, wr.cell? ⟨w.heap.size, o, none⟩ = (#[.int .u8 pa, .int .u8 pb, .int .u8 pc, .int .u8 pd, .int .u8 ga, .int .u8 gb, .int .u8 gc, .int .u8 gd, .int .i64 hproto, .int .i64 sport, .int .i64 dport, .int .i64 len, .int .i64 mark] : Array Value)[o]? := fun o => by rw [c4_0, c3_0, c2_0, c1_0]; simp [go_sem]
    clear c4_0 c3_0 c2_0 c1_0
    rcases k with _ | k
    · simp only [List.drop_zero]
      cases wb
      · simp only [Bool.false_eq_true, if_false] at Hcl Her Hx
        have hx := Hx.out
        subst hx
        go_wp2_with fail
        refine (HG.out _ hB).mono ?_
        rintro e w4 ⟨rfl, hb4⟩
        have hB4 := hB.trans (hb4.mono hB.size)
        rw [Hcl.out, Her.out]
        go_wp2_with fail
        all_goals go_ret
        all_goals first | exact ⟨rfl, hB4⟩ | exact ⟨ret_bool (by simp), hB4⟩
      · simp only [if_true] at Hcl Her Hx
        have hx := Hx.out
        subst hx
        have hx := Hcl.out
        subst hx
        have hx := Her.out
        subst hx
        go_wp2_with fail
        refine (HG.out _ hB).mono ?_
        rintro e w4 ⟨rfl, hb4⟩
        have hB4 := hB.trans (hb4.mono hB.size)
        go_wp2_with fail
        all_goals go_ret
        all_goals first | exact ⟨rfl, hB4⟩ | exact ⟨ret_bool (by simp), hB4⟩
    · have hl : k < l.length := by have := Hn.out; omega
      rw [show (((k + 1 : Nat) : Int) - 1) = (k : Int) from by omega]
      have hlt : k < n := by omega
      obtain ⟨b, off, rfl, hbl, hc⟩ := atR hr hB hl
      obtain ⟨r, Hr⟩ : ∃ r, Hid (l[k] = r) := ⟨_, Lib.hid rfl⟩
      rw [Hr.out] at hc
      have hcr : ∀ j u, r.cells[j]? = some u → wr.cell? ⟨b, off + k * 14 + j, none⟩ = some u := hc
      clear hc
      have HFk : Hid (∀ W, Calls Try.prog 50 #[.agg r.cells.toArray, .agg #[.int .u8 pa, .int .u8 pb, .int .u8 pc, .int .u8 pd, .int .u8 ga, .int .u8 gb, .int .u8 gc, .int .u8 gd, .int .i64 hproto, .int .i64 sport, .int .i64 dport, .int .i64 len, .int .i64 mark]] W fun e w' => e = .returned (.bool (F r)) ∧ Below W.heap.size W w') := Lib.hid (HF.out r (by rw [← Hr.out]; exact List.getElem_mem hl))
      have HRk : Hid (∀ W, Calls Try.prog 51 #[.agg r.cells.toArray, .agg #[.int .u8 pa, .int .u8 pb, .int .u8 pc, .int .u8 pd, .int .u8 ga, .int .u8 gb, .int .u8 gc, .int .u8 gd, .int .i64 hproto, .int .i64 sport, .int .i64 dport, .int .i64 len, .int .i64 mark]] W fun e w' => e = .returned (.bool (F r)) ∧ Below W.heap.size W w') := Lib.hid (HR.out r (by rw [← Hr.out]; exact List.getElem_mem hl))
      have Hdrop : Hid (P (l.drop k) = if F r then (r.cls, 0) else P (l.drop (k + 1))) := Lib.hid (by rw [List.drop_eq_getElem_cons hl, HPc.out, Hr.out])
      generalize F r = fr at HFk HRk Hdrop
      obtain ⟨sa, sb, sc, sd, da, db, dc, dd, sbits, dbits, proto, low, high, cls⟩ := r
      simp only [Rule.cells] at HFk HRk hcr
      have h0 := hcr 0 _ rfl
      have h1 := hcr 1 _ rfl
      have h2 := hcr 2 _ rfl
      have h3 := hcr 3 _ rfl
      have h4 := hcr 4 _ rfl
      have h5 := hcr 5 _ rfl
      have h6 := hcr 6 _ rfl
      have h7 := hcr 7 _ rfl
      have h8 := hcr 8 _ rfl
      have h9 := hcr 9 _ rfl
      have h10 := hcr 10 _ rfl
      have h11 := hcr 11 _ rfl
      have h12 := hcr 12 _ rfl
      have h13 := hcr 13 _ rfl
      clear hcr
      simp only [Nat.add_zero] at h0
      go_wp2_with fail
      go_region_held3 (fun W => Below wr.heap.size wr W ∧ (∀ o, W.cell? ⟨w.heap.size, o, none⟩ = (#[.int .u8 pa, .int .u8 pb, .int .u8 pc, .int .u8 pd, .int .u8 ga, .int .u8 gb, .int .u8 gc, .int .u8 gd, .int .i64 hproto, .int .i64 sport, .int .i64 dport, .int .i64 len, .int .i64 mark] : Array Value)[o]?) ∧ W.cell? ⟨b, off + k * 14, none⟩ = some (.int .u8 sa) ∧ W.cell? ⟨b, off + k * 14 + 1, none⟩ = some (.int .u8 sb) ∧ W.cell? ⟨b, off + k * 14 + 2, none⟩ = some (.int .u8 sc) ∧ W.cell? ⟨b, off + k * 14 + 3, none⟩ = some (.int .u8 sd) ∧ W.cell? ⟨b, off + k * 14 + 4, none⟩ = some (.int .u8 da) ∧ W.cell? ⟨b, off + k * 14 + 5, none⟩ = some (.int .u8 db) ∧ W.cell? ⟨b, off + k * 14 + 6, none⟩ = some (.int .u8 dc) ∧ W.cell? ⟨b, off + k * 14 + 7, none⟩ = some (.int .u8 dd) ∧ W.cell? ⟨b, off + k * 14 + 8, none⟩ = some (.int .i64 sbits) ∧ W.cell? ⟨b, off + k * 14 + 9, none⟩ = some (.int .i64 dbits) ∧ W.cell? ⟨b, off + k * 14 + 10, none⟩ = some (.int .i64 proto) ∧ W.cell? ⟨b, off + k * 14 + 11, none⟩ = some (.int .i64 low) ∧ W.cell? ⟨b, off + k * 14 + 12, none⟩ = some (.int .i64 high) ∧ W.cell? ⟨b, off + k * 14 + 13, none⟩ = some (.int .i64 cls))
        (first | exact ⟨(Below.refl _ _).drew, hhead, h0, h1, h2, h3, h4, h5, h6, h7, h8, h9, h10, h11, h12, h13⟩ | exact hq)
        (first | (go_at_call 50; refine (HFk.out _).mono ?_; rintro e w5 ⟨rfl, hb5⟩; have hq := heldrow hb5 l4_0 hbl (by assumption)) | (go_at_call 51; refine (HRk.out _).mono ?_; rintro e w5 ⟨rfl, hb5⟩; have hq := heldrow hb5 l4_0 hbl (by assumption)))
      go_wp2_with fail
      have hq0 := hq
      clear hq
      go_region_held3 (fun W => Below wr.heap.size wr W ∧ (∀ o, W.cell? ⟨w.heap.size, o, none⟩ = (#[.int .u8 pa, .int .u8 pb, .int .u8 pc, .int .u8 pd, .int .u8 ga, .int .u8 gb, .int .u8 gc, .int .u8 gd, .int .i64 hproto, .int .i64 sport, .int .i64 dport, .int .i64 len, .int .i64 mark] : Array Value)[o]?) ∧ W.cell? ⟨b, off + k * 14, none⟩ = some (.int .u8 sa) ∧ W.cell? ⟨b, off + k * 14 + 1, none⟩ = some (.int .u8 sb) ∧ W.cell? ⟨b, off + k * 14 + 2, none⟩ = some (.int .u8 sc) ∧ W.cell? ⟨b, off + k * 14 + 3, none⟩ = some (.int .u8 sd) ∧ W.cell? ⟨b, off + k * 14 + 4, none⟩ = some (.int .u8 da) ∧ W.cell? ⟨b, off + k * 14 + 5, none⟩ = some (.int .u8 db) ∧ W.cell? ⟨b, off + k * 14 + 6, none⟩ = some (.int .u8 dc) ∧ W.cell? ⟨b, off + k * 14 + 7, none⟩ = some (.int .u8 dd) ∧ W.cell? ⟨b, off + k * 14 + 8, none⟩ = some (.int .i64 sbits) ∧ W.cell? ⟨b, off + k * 14 + 9, none⟩ = some (.int .i64 dbits) ∧ W.cell? ⟨b, off + k * 14 + 10, none⟩ = some (.int .i64 proto) ∧ W.cell? ⟨b, off + k * 14 + 11, none⟩ = some (.int .i64 low) ∧ W.cell? ⟨b, off + k * 14 + 12, none⟩ = some (.int .i64 high) ∧ W.cell? ⟨b, off + k * 14 + 13, none⟩ = some (.int .i64 cls))
        (first | exact ⟨hq0.1.drew, hq0.2⟩ | exact hq)
        ((go_at_call 51; refine (HRk.out _).mono ?_; rintro e w6 ⟨rfl, hb6⟩; have hq := heldrow hb6 l4_0 hbl (by assumption)))
      have hB6 := hbW.trans (hq.1.mono hbW.size)
      have hcls := hq.2.2.2.2.2.2.2.2.2.2.2.2.2.2.2
      clear hq hq0 HFk HRk h0 h1 h2 h3 h4 h5 h6 h7 h8 h9 h10 h11 h12 h13 hhead
      cases fr
      · go_wp2_with fail
        go_roundw
        case rel => exact ⟨k, by omega, rfl, hB6, by rw [Hdrop.out]; rfl, by rw [Hdrop.out]; rfl⟩
        case measure => first | (simp [intOf]; done) | (simp [intOf]; omega)
      · go_wp2_with fail
        go_roundw
        case rel => exact ⟨k, by omega, rfl, hB6, by rw [Hdrop.out]; rfl, by rw [Hdrop.out]; rfl⟩
        case measure => first | (simp [intOf]; done) | (simp [intOf]; omega)
end Go.Proofs.Ytadjbgdblfblbaa.RulesClass
