/- Walks of rules.Wrong, the reference's GWrong, and rules.Class. -/
import Derived.Test.YtlmnlffbbbcodaaRulesB
namespace Go.Proofs.Ytlmnlffbbbcodaa.Rules
open Go.RowKit Go.Proofs.Ytlmnlffbbbcodaa.Trie

def wrongB (l : List Rule) : Bool := decide (400 < l.length) || l.any badR
def wrongR (l : List Rule) : Int := if wrongB l then 2 else 0

theorem enter_bad : ∀ args W, (callFunc 108 args).run Try.prog W = .ok (.enter 108 args) W := fun _ _ => by kernel_rfl

set_option maxHeartbeats 1000000 in
theorem wrong_any (A : Option Addr) (n c : Nat) (l : List Rule) (w : World) (hr : Rd w A (l.flatMap Rule.cells)) (hn : l.length = n) (hm : n ≤ 140737488355328) :
    Calls Try.prog 75 #[.slice A n c] w fun e w' => e = .returned (.int .i64 (wrongR l)) ∧ Below w.heap.size w w' := by
  have H := Lib.hid (contains_any A n c l 108 #[] badR w hr hn hm enter_bad (Lib.hid fun W _ r _ => bad_any r W))
  by_cases hbig : 400 < n
  · have Hw : Hid (wrongR l = 2) := Lib.hid (by rw [wrongR, wrongB, hn, decide_eq_true hbig]; rfl)
    clear hr hn hm H
    go_enter Try.func75, Try.ntmps75
    go_wp2_with fail
    go_ret
    exact ⟨ret_int (by rw [Hw.out]), (by repeat (first | exact Below.refl _ _ | assumption | refine Below.drew ?_ | refine below_drewN ?_ _ | refine Below.alloc ?_ (by first | omega | exact Below.size (by assumption) | (simp; done) | (simp; omega)) _ | refine Below.setCell ?_ (by first | omega | exact Below.size (by assumption) | (simp; done) | (simp; omega)) _ | refine Below.trans ?_ (Below.mono (by assumption) (by first | omega | exact Below.size (by assumption) | (simp; done) | (simp; omega)))))⟩
  · obtain ⟨b, Hb⟩ : ∃ b, Hid (l.any badR = b) := ⟨_, Lib.hid rfl⟩
    have Hw : Hid (wrongR l = if b then 2 else 0) := Lib.hid (by rw [wrongR, wrongB, hn, decide_eq_false hbig, Hb.out, Bool.false_or])
    rw [Hb.out] at H
    clear hr hn hm Hb
    go_enter Try.func75, Try.ntmps75
    go_wp2_with fail
    refine H.out.mono ?_
    rintro e w1 ⟨rfl, hb1⟩
    cases b
    · go_wp2_with fail
      go_ret
      exact ⟨ret_int (by rw [Hw.out]; rfl), (by repeat (first | exact Below.refl _ _ | assumption | refine Below.drew ?_ | refine below_drewN ?_ _ | refine Below.alloc ?_ (by first | omega | exact Below.size (by assumption) | (simp; done) | (simp; omega)) _ | refine Below.setCell ?_ (by first | omega | exact Below.size (by assumption) | (simp; done) | (simp; omega)) _ | refine Below.trans ?_ (Below.mono (by assumption) (by first | omega | exact Below.size (by assumption) | (simp; done) | (simp; omega)))))⟩
    · go_wp2_with fail
      go_ret
      exact ⟨ret_int (by rw [Hw.out]; rfl), (by repeat (first | exact Below.refl _ _ | assumption | refine Below.drew ?_ | refine below_drewN ?_ _ | refine Below.alloc ?_ (by first | omega | exact Below.size (by assumption) | (simp; done) | (simp; omega)) _ | refine Below.setCell ?_ (by first | omega | exact Below.size (by assumption) | (simp; done) | (simp; omega)) _ | refine Below.trans ?_ (Below.mono (by assumption) (by first | omega | exact Below.size (by assumption) | (simp; done) | (simp; omega)))))⟩

def bitsOk (n : Int) : Bool := decide (0 ≤ n) && decide (n ≤ 32)
def restOk (r : Rule) : Bool := decide (0 ≤ r.proto) && decide (r.proto ≤ 255) && decide (0 ≤ r.cls) && decide (r.cls ≤ 15) && decide (0 ≤ r.low) && decide (r.low ≤ r.high) && decide (r.high ≤ 65535)
theorem badR_eq (r : Rule) : badR r = !(bitsOk r.srcBits && bitsOk r.dstBits && restOk r) := by
  rw [Bool.eq_iff_iff]
  simp [badR, bitsOk, restOk]
  omega

theorem any_snoc (l : List Rule) (k : Nat) (h : k < l.length) : (l.take (k + 1)).any badR = ((l.take k).any badR || badR l[k]) := by
  rw [List.take_succ_eq_append_getElem h, List.any_append]
  simp

set_option maxRecDepth 100000 in
set_option maxHeartbeats 4000000 in
theorem gwrong_any (A : Option Addr) (n c : Nat) (l : List Rule) (w : World) (hr : Rd w A (l.flatMap Rule.cells)) (hn : l.length = n) (hm : n ≤ 140737488355328) :
    Calls Try.prog 23 #[.slice A n c] w fun e w' => e = .returned (.int .i64 (wrongR l)) ∧ Below w.heap.size w w' := by
  have Hn := Lib.hid hn; clear hn
  go_enter Try.func23, Try.ntmps23
  go_wp2_with fail
  go_loopw [3, 13] (fun v i wr => ∃ k : Nat, k ≤ n ∧ i = .int .i64 k ∧ Below w.heap.size w wr ∧ v = .bool (decide ((n : Int) ≤ 400) && !(l.take k).any badR)) (fun _ i _ => n - (intOf i).toNat)
  case atStart => exact ⟨0, by omega, rfl, (by repeat (first | exact Below.refl _ _ | assumption | refine Below.drew ?_ | refine below_drewN ?_ _ | refine Below.alloc ?_ (by first | omega | exact Below.size (by assumption) | (simp; done) | (simp; omega)) _ | refine Below.setCell ?_ (by first | omega | exact Below.size (by assumption) | (simp; done) | (simp; omega)) _ | refine Below.trans ?_ (Below.mono (by assumption) (by first | omega | exact Below.size (by assumption) | (simp; done) | (simp; omega))))), by simp⟩
  case round =>
    obtain ⟨k, hk, rfl, hbw, rfl⟩ := hrel
    have hsz := hbw.size
    by_cases hlt : k < n
    · have hl : k < l.length := by have := Hn.out; omega
      obtain ⟨b, off, rfl, hbl, hc⟩ := atR hr hbw hl
      obtain ⟨r, Hr⟩ : ∃ r, Hid (l[k] = r) := ⟨_, Lib.hid rfl⟩
      rw [Hr.out] at hc
      have Hbad := Lib.hid (badR_eq r)
      have Hsn : Hid ((l.take (k + 1)).any badR = ((l.take k).any badR || badR r)) := Lib.hid (by rw [any_snoc l k hl, Hr.out])
      obtain ⟨ok, Hok⟩ : ∃ ok, Hid ((decide ((n : Int) ≤ 400) && !(l.take k).any badR) = ok) := ⟨_, Lib.hid rfl⟩
      have Hnext : Hid ((decide ((n : Int) ≤ 400) && !(l.take (k + 1)).any badR) = (ok && !badR r)) := Lib.hid (by rw [Hsn.out, ← Hok.out, Bool.not_or, Bool.and_assoc])
      rw [Hok.out]
      clear Hsn
      obtain ⟨sa, sb, sc, sd, da, db, dc, dd, sbits, dbits, proto, low, high, cls⟩ := r
      have h0 := hc 0 _ rfl
      have h1 := hc 1 _ rfl
      have h2 := hc 2 _ rfl
      have h3 := hc 3 _ rfl
      have h4 := hc 4 _ rfl
      have h5 := hc 5 _ rfl
      have h6 := hc 6 _ rfl
      have h7 := hc 7 _ rfl
      have h8 := hc 8 _ rfl
      have h9 := hc 9 _ rfl
      have h10 := hc 10 _ rfl
      have h11 := hc 11 _ rfl
      have h12 := hc 12 _ rfl
      have h13 := hc 13 _ rfl
      clear hc
      simp only [Nat.add_zero] at h0
      have Hbits : Hid ((ok && !badR ⟨sa, sb, sc, sd, da, db, dc, dd, sbits, dbits, proto, low, high, cls⟩) = (ok && bitsOk sbits && bitsOk dbits && restOk ⟨sa, sb, sc, sd, da, db, dc, dd, sbits, dbits, proto, low, high, cls⟩)) := Lib.hid (by rw [Hbad.out, Bool.not_not, ← Bool.and_assoc, ← Bool.and_assoc])
      have Hok1 : Hid (bitsOk sbits = (decide (0 ≤ sbits) && decide (sbits ≤ 32))) := Lib.hid rfl
      have Hok2 : Hid (bitsOk dbits = (decide (0 ≤ dbits) && decide (dbits ≤ 32))) := Lib.hid rfl
      obtain ⟨bs, Hbs⟩ : ∃ b, Hid (bitsOk sbits = b) := ⟨_, Lib.hid rfl⟩
      obtain ⟨bd, Hbd⟩ : ∃ b, Hid (bitsOk dbits = b) := ⟨_, Lib.hid rfl⟩
      rw [Hbs.out] at Hbits Hok1
      rw [Hbd.out] at Hbits Hok2
      obtain ⟨rs, Hrs⟩ : ∃ b, Hid (restOk ⟨sa, sb, sc, sd, da, db, dc, dd, sbits, dbits, proto, low, high, cls⟩ = b) := ⟨_, Lib.hid rfl⟩
      rw [Hrs.out] at Hbits
      rw [Hbits.out] at Hnext
      clear Hbits Hbad Hbs Hbd Hok
      obtain ⟨wo, rfl⟩ : ∃ wo : World, wo = wr := ⟨_, rfl⟩
      go_wp2_with fail
      generalize hW : World.alloc (World.alloc wo _) _ = W0
      have hb0 := named hW
      clear hW
      have c0_0 := fun o => Below.cell hb0 (p := ⟨wo.heap.size, o, none⟩) (by first | omega | exact Below.size (by assumption) | (simp; done) | (simp; omega))
      have l0_0 : wo.heap.size < W0.heap.size := Nat.lt_of_lt_of_le (by first | omega | exact Below.size (by assumption) | (simp; done) | (simp; omega)) (Below.size hb0)
      have c0_1 := fun o => Below.cell hb0 (p := ⟨wo.heap.size + 1, o, none⟩) (by first | omega | exact Below.size (by assumption) | (simp; done) | (simp; omega))
      have l0_1 : wo.heap.size + 1 < W0.heap.size := Nat.lt_of_lt_of_le (by first | omega | exact Below.size (by assumption) | (simp; done) | (simp; omega)) (Below.size hb0)
      have hB : Below w.heap.size w W0 := (by repeat (first | exact Below.refl _ _ | assumption | refine Below.drew ?_ | refine below_drewN ?_ _ | refine Below.alloc ?_ (by first | omega | exact Below.size (by assumption) | (simp; done) | (simp; omega)) _ | refine Below.setCell ?_ (by first | omega | exact Below.size (by assumption) | (simp; done) | (simp; omega)) _ | refine Below.trans ?_ (Below.mono (by assumption) (by first | omega | exact Below.size (by assumption) | (simp; done) | (simp; omega)))))
      go_loopw [3, 23] (fun v i W => ∃ j : Nat, j ≤ 2 ∧ i = .int .i64 j ∧ Below W0.heap.size W0 W ∧ v = .bool (match j with | 0 => ok | 1 => ok && bs | _ => ok && bs && bd)) (fun _ i _ => 2 - (intOf i).toNat)
      case atStart => exact ⟨0, by omega, rfl, Below.refl _ _, rfl⟩
      case round =>
        obtain ⟨j, hj, rfl, hbW, rfl⟩ := hrel
        have hsW := hbW.size
        have hcA := fun o => Below.cell hbW (p := ⟨wo.heap.size, o, none⟩) l0_0
        have hcB := fun o => Below.cell hbW (p := ⟨wo.heap.size + 1, o, none⟩) l0_1
        have e0 := (hcB 0).trans (c0_1 0)
        have e1 := (hcB 1).trans (c0_1 1)
        rcases (by omega : j = 0 ∨ j = 1 ∨ j = 2) with rfl | rfl | rfl
        · by_cases h1 : 0 ≤ sbits <;> by_cases h2 : sbits ≤ 32 <;> cases ok
          all_goals
            go_wp2_with fail
            go_roundw
            case rel => exact ⟨1, by omega, by go_num, (by repeat (first | exact Below.refl _ _ | assumption | refine Below.drew ?_ | refine below_drewN ?_ _ | refine Below.alloc ?_ (by first | omega | exact Below.size (by assumption) | (simp; done) | (simp; omega)) _ | refine Below.setCell ?_ (by first | omega | exact Below.size (by assumption) | (simp; done) | (simp; omega)) _ | refine Below.trans ?_ (Below.mono (by assumption) (by first | omega | exact Below.size (by assumption) | (simp; done) | (simp; omega))))), by have := Hok1.out; simp_all⟩
            case measure => first | (simp [intOf]; done) | (simp [intOf]; omega)
        · by_cases h1 : 0 ≤ dbits <;> by_cases h2 : dbits ≤ 32 <;> cases ok <;> cases bs
          all_goals
            go_wp2_with fail
            go_roundw
            case rel => exact ⟨2, by omega, by go_num, (by repeat (first | exact Below.refl _ _ | assumption | refine Below.drew ?_ | refine below_drewN ?_ _ | refine Below.alloc ?_ (by first | omega | exact Below.size (by assumption) | (simp; done) | (simp; omega)) _ | refine Below.setCell ?_ (by first | omega | exact Below.size (by assumption) | (simp; done) | (simp; omega)) _ | refine Below.trans ?_ (Below.mono (by assumption) (by first | omega | exact Below.size (by assumption) | (simp; done) | (simp; omega))))), by have := Hok2.out; simp_all⟩
            case measure => first | (simp [intOf]; done) | (simp [intOf]; omega)
        · have r0 := (hcA 10).trans (c0_0 10)
          have r1 := (hcA 11).trans (c0_0 11)
          have r2 := (hcA 12).trans (c0_0 12)
          have r3 := (hcA 13).trans (c0_0 13)
          clear e0 e1 h0 h1 h2 h3 h4 h5 h6 h7 h8 h9 h10 h11 h12 h13
          go_wp2_with fail
          all_goals
            go_roundw
            case rel => exact ⟨k + 1, by omega, by go_num, (by repeat (first | exact Below.refl _ _ | assumption | refine Below.drew ?_ | refine below_drewN ?_ _ | refine Below.alloc ?_ (by first | omega | exact Below.size (by assumption) | (simp; done) | (simp; omega)) _ | refine Below.setCell ?_ (by first | omega | exact Below.size (by assumption) | (simp; done) | (simp; omega)) _ | refine Below.trans ?_ (Below.mono (by assumption) (by first | omega | exact Below.size (by assumption) | (simp; done) | (simp; omega))))), congrArg Value.bool (by
              rw [Hnext.out, ← Hrs.out, Bool.eq_iff_iff]
              simp [restOk, *] <;> omega)⟩
            case measure => first | (simp [intOf]; done) | (simp [intOf]; omega)
    · have Ht : Hid (wrongR l = if (decide ((n : Int) ≤ 400) && !(l.take k).any badR) then 0 else 2) := Lib.hid (by
        have hn := Hn.out
        rw [List.take_of_length_le (by omega), wrongR, wrongB]
        by_cases h4 : (n : Int) ≤ 400
        · rw [decide_eq_true h4, decide_eq_false (by omega)]
          cases l.any badR <;> rfl
        · rw [decide_eq_false h4, decide_eq_true (by omega)]; rfl)
      generalize (decide ((n : Int) ≤ 400) && !(l.take k).any badR) = o at Ht ⊢
      cases o
      all_goals
        go_wp2_with fail
        go_ret
        exact ⟨ret_int (by rw [Ht.out]; rfl), (by repeat (first | exact Below.refl _ _ | assumption | refine Below.drew ?_ | refine below_drewN ?_ _ | refine Below.alloc ?_ (by first | omega | exact Below.size (by assumption) | (simp; done) | (simp; omega)) _ | refine Below.setCell ?_ (by first | omega | exact Below.size (by assumption) | (simp; done) | (simp; omega)) _ | refine Below.trans ?_ (Below.mono (by assumption) (by first | omega | exact Below.size (by assumption) | (simp; done) | (simp; omega)))))⟩

end Go.Proofs.Ytlmnlffbbbcodaa.Rules
