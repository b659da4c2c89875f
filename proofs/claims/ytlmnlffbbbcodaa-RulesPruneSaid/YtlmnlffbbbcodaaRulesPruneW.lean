/- The walk of the law RulesPrune. -/
import Derived.Test.YtlmnlffbbbcodaaRulesG
import Derived.Test.YtlmnlffbbbcodaaEqRule
namespace Go.Proofs.Ytlmnlffbbbcodaa.RulesPrune
open Go.RowKit Go.Proofs.Ytlmnlffbbbcodaa.Trie Go.Proofs.Ytlmnlffbbbcodaa.Rules

theorem any_step (l : List Rule) (p : Rule → Bool) (k : Nat) (h : k < l.length) : (l.take (k + 1)).any p = ((l.take k).any p || p l[k]) := by
  rw [List.take_succ_eq_append_getElem h, List.any_append]
  simp

set_option maxRecDepth 100000 in
set_option maxHeartbeats 4000000 in
theorem walk_err (A : Option Addr) (n c : Nat) (l : List Rule) (w : World) (hr : Rd w A (l.flatMap Rule.cells)) (hn : l.length = n) (hm : n ≤ 140737488355328) (hwb : wrongB l = true) :
    Calls Try.prog 4 #[.slice A n c] w fun e w' => e = .returned (.bool true) ∧ Below w.heap.size w w' := by
  have HP : Hid (∀ W, Below w.heap.size w W → Calls Try.prog 22 #[.slice A n c] W fun e w' => e = .returned (.tuple #[.slice none 0 0, .int .i64 2]) ∧ Below W.heap.size W w') :=
    Lib.hid fun W hb => prune_err A n c l W (hr.below hb) hn hm hwb
  have HG : Hid (∀ W, Below w.heap.size w W → Calls Try.prog 23 #[.slice A n c] W fun e w' => e = .returned (.int .i64 2) ∧ Below W.heap.size W w') :=
    Lib.hid fun W hb => by have := gwrong_any A n c l W (hr.below hb) hn hm; rwa [wrongR, hwb] at this
  clear hr hn hm hwb
  go_enter Try.func4, Try.ntmps4
  go_wp2_with fail
  refine (HP.out _ (by repeat (first | exact Below.refl _ _ | assumption | refine Below.drew ?_ | refine below_drewN ?_ _ | refine Below.alloc ?_ (by first | omega | exact Below.size (by assumption) | (simp; done) | (simp; omega)) _ | refine Below.setCell ?_ (by first | omega | exact Below.size (by assumption) | (simp; done) | (simp; omega)) _ | refine Below.trans ?_ (Below.mono (by assumption) (by first | omega | exact Below.size (by assumption) | (simp; done) | (simp; omega)))))).mono ?_
  rintro e w1 ⟨rfl, hb1⟩
  go_wp2_with fail
  refine (HG.out _ (by repeat (first | exact Below.refl _ _ | assumption | refine Below.drew ?_ | refine below_drewN ?_ _ | refine Below.alloc ?_ (by first | omega | exact Below.size (by assumption) | (simp; done) | (simp; omega)) _ | refine Below.setCell ?_ (by first | omega | exact Below.size (by assumption) | (simp; done) | (simp; omega)) _ | refine Below.trans ?_ (Below.mono (by assumption) (by first | omega | exact Below.size (by assumption) | (simp; done) | (simp; omega)))))).mono ?_
  rintro e w2 ⟨rfl, hb2⟩
  go_wp2_with fail
  go_ret
  exact ⟨rfl, (by repeat (first | exact Below.refl _ _ | assumption | refine Below.drew ?_ | refine below_drewN ?_ _ | refine Below.alloc ?_ (by first | omega | exact Below.size (by assumption) | (simp; done) | (simp; omega)) _ | refine Below.setCell ?_ (by first | omega | exact Below.size (by assumption) | (simp; done) | (simp; omega)) _ | refine Below.trans ?_ (Below.mono (by assumption) (by first | omega | exact Below.size (by assumption) | (simp; done) | (simp; omega)))))⟩

set_option maxRecDepth 100000 in
set_option maxHeartbeats 2000000 in
theorem walk_ok (A : Option Addr) (n c : Nat) (l : List Rule) (w : World) (hr : Rd w A (l.flatMap Rule.cells)) (hn : l.length = n) (hm : n ≤ 140737488355328) (hbs : ∀ r ∈ l, r.bytes) (hwb : wrongB l = false) :
    Calls Try.prog 4 #[.slice A n c] w fun e w' => e = .returned (.bool true) ∧ Below w.heap.size w w' := by
  have HP : Hid (∀ W, Below w.heap.size w W → Calls Try.prog 22 #[.slice A n c] W fun e w' => (∃ v, e = .returned (.tuple #[v, .int .i64 0]) ∧ OwnF Rule.cells 14 w' W.heap.size 40 v (prune l)) ∧ Below W.heap.size W w') :=
    Lib.hid fun W hb => prune_any A n c l W (hr.below hb) hn hm hbs hwb
  have HG : Hid (∀ W, Below w.heap.size w W → Calls Try.prog 23 #[.slice A n c] W fun e w' => e = .returned (.int .i64 0) ∧ Below W.heap.size W w') :=
    Lib.hid fun W hb => by have := gwrong_any A n c l W (hr.below hb) hn hm; rwa [wrongR, hwb] at this
  have h400 : n ≤ 400 := by
    have := hwb
    simp only [wrongB, Bool.or_eq_false_iff, decide_eq_false_iff_not] at this
    omega
  have HV : Hid (∀ a ∈ l, badR a = false) := Lib.hid fun a ha => by
    have := hwb
    simp only [wrongB, Bool.or_eq_false_iff] at this
    have := List.any_eq_false.1 this.2 a ha
    simpa using this
  have HC : Hid (∀ W a b, a ∈ l → b ∈ l → Calls Try.prog 24 #[.agg a.cells.toArray, .agg b.cells.toArray] W fun e w' => e = .returned (.bool (covB a b)) ∧ Below W.heap.size W w') :=
    Lib.hid fun W a b ha hb => gcovers_any a b (hbs a ha) (hbs b hb) (HV.out a ha) W
  have Hn := Lib.hid hn; clear hn hbs hwb hm
  have hpl : (prune l).length ≤ n := by rw [← Hn.out]; exact prune_len l
  have HE : Hid (∀ W v v' B, OwnF Rule.cells 14 W w.heap.size 40 v (prune l) → OwnF Rule.cells 14 W B 40 v' (prune l) → Calls Try.prog 25 #[v, v'] W fun e w' => e = .returned (.bool true) ∧ ∃ q, w' = W.drewN q) :=
    Lib.hid fun W v v' B h1 h2 => by
      obtain ⟨A1, c1, rfl, _, hr1, _⟩ := h1.form
      obtain ⟨A2, c2, rfl, _, hr2, _⟩ := h2.form
      exact equal_rules A1 A2 _ c1 c2 (prune l) W hr1 hr2 rfl (by omega)
  clear hpl
  go_enter Try.func4, Try.ntmps4
  go_wp2_with fail
  refine (HP.out _ (by repeat (first | exact Below.refl _ _ | assumption | refine Below.drew ?_ | refine below_drewN ?_ _ | refine Below.alloc ?_ (by first | omega | exact Below.size (by assumption) | (simp; done) | (simp; omega)) _ | refine Below.setCell ?_ (by first | omega | exact Below.size (by assumption) | (simp; done) | (simp; omega)) _ | refine Below.trans ?_ (Below.mono (by assumption) (by first | omega | exact Below.size (by assumption) | (simp; done) | (simp; omega)))))).mono ?_
  rintro e w1 ⟨⟨v, rfl, hv⟩, hb1⟩
  have Hv := Lib.hid hv; clear hv
  go_wp2_with fail
  refine (HG.out _ (by repeat (first | exact Below.refl _ _ | assumption | refine Below.drew ?_ | refine below_drewN ?_ _ | refine Below.alloc ?_ (by first | omega | exact Below.size (by assumption) | (simp; done) | (simp; omega)) _ | refine Below.setCell ?_ (by first | omega | exact Below.size (by assumption) | (simp; done) | (simp; omega)) _ | refine Below.trans ?_ (Below.mono (by assumption) (by first | omega | exact Below.size (by assumption) | (simp; done) | (simp; omega)))))).mono ?_
  rintro e w2 ⟨rfl, hb2⟩
  have hB2 : Below w.heap.size w w2 := (by repeat (first | exact Below.refl _ _ | assumption | refine Below.drew ?_ | refine below_drewN ?_ _ | refine Below.alloc ?_ (by first | omega | exact Below.size (by assumption) | (simp; done) | (simp; omega)) _ | refine Below.setCell ?_ (by first | omega | exact Below.size (by assumption) | (simp; done) | (simp; omega)) _ | refine Below.trans ?_ (Below.mono (by assumption) (by first | omega | exact Below.size (by assumption) | (simp; done) | (simp; omega)))))
  have hsz2 := hB2.size
  have Hv2 : Hid (OwnF Rule.cells 14 w2 w.heap.size 40 v (prune l)) := Lib.hid (Hv.out.below hb2)
  clear Hv hb1 hb2
  go_wp2_with fail
  go_loopw [6, 31] (fun u i W => ∃ k : Nat, k ≤ n ∧ i = .int .i64 k ∧ Below w2.heap.size w2 W ∧ OwnF Rule.cells 14 W w2.heap.size 40 u (prune (l.take k))) (fun _ i _ => n - (intOf i).toNat)
  case atStart => exact ⟨0, by omega, rfl, Below.refl _ _, OwnF.nil _ _ _⟩
  case round =>
    obtain ⟨k, hk, rfl, hbw, hown⟩ := hrel
    have Hown := Lib.hid hown; clear hown
    have hsz := hbw.size
    have hbW : Below w.heap.size w wr := hB2.trans (hbw.mono hsz2)
    by_cases hlt : k < n
    · have hl : k < l.length := by have := Hn.out; omega
      obtain ⟨b, off, rfl, hbl, hc⟩ := atR hr hbW hl
      obtain ⟨r, Hr⟩ : ∃ r, Hid (l[k] = r) := ⟨_, Lib.hid rfl⟩
      rw [Hr.out] at hc
      obtain ⟨o, Ho⟩ : ∃ o, Hid (prune (l.take k) = o) := ⟨_, Lib.hid rfl⟩
      have Hstep : Hid (prune (l.take (k + 1)) = if (o.any fun a => covB a r) then o else o ++ [r]) := Lib.hid (by rw [prune_take hl, Hr.out, Ho.out]; rfl)
      rw [Ho.out] at Hown
      have Hmem : Hid (∀ x ∈ o, x ∈ l) := Lib.hid fun x hx => List.mem_of_mem_take (prune_mem (by rw [Ho.out]; exact hx))
      have hol : o.length ≤ k := by
        have := prune_len (l.take k)
        rw [Ho.out, List.length_take] at this
        omega
      have Hrl : Hid (r ∈ l) := Lib.hid (by rw [← Hr.out]; exact List.getElem_mem hl)
      have HC2 : Hid (∀ W (a : Rule), a ∈ o → Calls Try.prog 24 #[.agg a.cells.toArray, .agg r.cells.toArray] W fun e w' => e = .returned (.bool (covB a r)) ∧ Below W.heap.size W w') :=
        Lib.hid fun W a ha => HC.out W a r (Hmem.out a ha) Hrl.out
      obtain ⟨cv, Hcv⟩ : ∃ cv : Rule → Bool, Hid ((fun a => covB a r) = cv) := ⟨_, Lib.hid rfl⟩
      have HC3 : Hid (∀ W (a : Rule), a ∈ o → Calls Try.prog 24 #[.agg a.cells.toArray, .agg r.cells.toArray] W fun e w' => e = .returned (.bool (cv a)) ∧ Below W.heap.size W w') := by rw [← Hcv.out]; exact HC2
      rw [Hcv.out] at Hstep
      clear Ho Hmem Hrl HC2 Hcv
      obtain ⟨sa, sb, sc, sd, da, db, dc, dd, sbits, dbits, proto, low, high, cls⟩ := r
      simp only [Rule.cells] at HC3
      have h0 := hc 0 _ rfl
      have h1 := hc 1 _ rfl
      have h2 := hc 2 _ rfl
      have h3 := hc 3 _ rfl
      have h4 := hc 4 _ rfl
      have h5 := hc 5 _ rfl
      have h6 := hc 6 _ rfl
      have h7 := hc 7 _ rfl
      have h8 := hc 8 _ rfl
      have h9 := hc 9 _ rfl
      have h10 := hc 10 _ rfl
      have h11 := hc 11 _ rfl
      have h12 := hc 12 _ rfl
      have h13 := hc 13 _ rfl
      clear hc
      simp only [Nat.add_zero] at h0
      obtain ⟨wo, rfl⟩ : ∃ wo : World, wo = wr := ⟨_, rfl⟩
      obtain ⟨A', c', rfl, hlc, hrd, _⟩ := Hown.out.form
      go_wp2_with fail
      generalize hW : World.alloc wo _ = w5
      have hb5 := named hW
      clear hW
      have c5_0 := fun o => Below.cell hb5 (p := ⟨wo.heap.size, o, none⟩) (by first | omega | exact Below.size (by assumption) | (simp; done) | (simp; omega))
      have l5_0 : wo.heap.size < w5.heap.size := Nat.lt_of_lt_of_le (by first | omega | exact Below.size (by assumption) | (simp; done) | (simp; omega)) (Below.size hb5)
      have hB5 : Below wo.heap.size wo w5 := (by repeat (first | exact Below.refl _ _ | assumption | refine Below.drew ?_ | refine below_drewN ?_ _ | refine Below.alloc ?_ (by first | omega | exact Below.size (by assumption) | (simp; done) | (simp; omega)) _ | refine Below.setCell ?_ (by first | omega | exact Below.size (by assumption) | (simp; done) | (simp; omega)) _ | refine Below.trans ?_ (Below.mono (by assumption) (by first | omega | exact Below.size (by assumption) | (simp; done) | (simp; omega)))))
      have hrd5 := hrd.below hB5
      have Hown5 := Lib.hid (Hown.out.below hB5)
      have hB5' : Below w2.heap.size w2 w5 := (by repeat (first | exact Below.refl _ _ | assumption | refine Below.drew ?_ | refine below_drewN ?_ _ | refine Below.alloc ?_ (by first | omega | exact Below.size (by assumption) | (simp; done) | (simp; omega)) _ | refine Below.setCell ?_ (by first | omega | exact Below.size (by assumption) | (simp; done) | (simp; omega)) _ | refine Below.trans ?_ (Below.mono (by assumption) (by first | omega | exact Below.size (by assumption) | (simp; done) | (simp; omega)))))
      clear Hown hrd hbl h0 h1 h2 h3 h4 h5 h6 h7 h8 h9 h10 h11 h12 h13
      go_loopw [9, 37] (fun x i W => ∃ j : Nat, j ≤ o.length ∧ i = .int .i64 j ∧ x = .bool ((o.take j).any cv) ∧ Below w5.heap.size w5 W) (fun _ i _ => o.length - (intOf i).toNat)
      case atStart => exact ⟨0, by omega, rfl, rfl, Below.refl _ _⟩
      case round =>
        obtain ⟨j, hj, rfl, rfl, hbr⟩ := hrel
        have hszr := hbr.size
        have hbl5 := l5_0
        by_cases hjl : j < o.length
        · obtain ⟨b', off', rfl, hbl', hd⟩ := atR hrd5 hbr hjl
          have Hst : Hid ((o.take (j + 1)).any cv = ((o.take j).any cv || cv o[j])) := Lib.hid (any_step o cv j hjl)
          have Hj : Hid (∀ W, Calls Try.prog 24 #[.agg o[j].cells.toArray, .agg #[.int .u8 sa, .int .u8 sb, .int .u8 sc, .int .u8 sd, .int .u8 da, .int .u8 db, .int .u8 dc, .int .u8 dd, .int .i64 sbits, .int .i64 dbits, .int .i64 proto, .int .i64 low, .int .i64 high, .int .i64 cls]] W fun e w' => e = .returned (.bool (cv o[j])) ∧ Below W.heap.size W w') := Lib.hid fun W => HC3.out W o[j] (List.getElem_mem hjl)
          generalize cv o[j] = cj at Hst Hj
          generalize (o.take j).any cv = had at Hst ⊢
          generalize o[j] = q at hd Hj
          obtain ⟨ta, tb, tc, td, ea, eb, ec, ed, tbits, ebits, qroto, qow, qigh, qcls⟩ := q
          simp only [Rule.cells] at Hj
          have h0 := hd 0 _ rfl
          have h1 := hd 1 _ rfl
          have h2 := hd 2 _ rfl
          have h3 := hd 3 _ rfl
          have h4 := hd 4 _ rfl
          have h5 := hd 5 _ rfl
          have h6 := hd 6 _ rfl
          have h7 := hd 7 _ rfl
          have h8 := hd 8 _ rfl
          have h9 := hd 9 _ rfl
          have h10 := hd 10 _ rfl
          have h11 := hd 11 _ rfl
          have h12 := hd 12 _ rfl
          have h13 := hd 13 _ rfl
          clear hd
          simp only [Nat.add_zero] at h0
          have cr := fun q => hbr.cell (p := ⟨wo.heap.size, q, none⟩) l5_0
          have hlw : wo.heap.size < wr.heap.size := by omega
          cases had
          · go_wp2_with fail
            refine (Hj.out _).mono ?_
            rintro e w6 ⟨rfl, hb6⟩
            go_wp2_with fail
            go_roundw
            case rel => exact ⟨j + 1, by omega, by go_num, by rw [Hst.out]; rfl, (by repeat (first | exact Below.refl _ _ | assumption | refine Below.drew ?_ | refine below_drewN ?_ _ | refine Below.alloc ?_ (by first | omega | exact Below.size (by assumption) | (simp; done) | (simp; omega)) _ | refine Below.setCell ?_ (by first | omega | exact Below.size (by assumption) | (simp; done) | (simp; omega)) _ | refine Below.trans ?_ (Below.mono (by assumption) (by first | omega | exact Below.size (by assumption) | (simp; done) | (simp; omega)))))⟩
            case measure => first | (simp [intOf]; done) | (simp [intOf]; omega)
          · go_wp2_with fail
            go_roundw
            case rel => exact ⟨j + 1, by omega, by go_num, by rw [Hst.out]; rfl, (by repeat (first | exact Below.refl _ _ | assumption | refine Below.drew ?_ | refine below_drewN ?_ _ | refine Below.alloc ?_ (by first | omega | exact Below.size (by assumption) | (simp; done) | (simp; omega)) _ | refine Below.setCell ?_ (by first | omega | exact Below.size (by assumption) | (simp; done) | (simp; omega)) _ | refine Below.trans ?_ (Below.mono (by assumption) (by first | omega | exact Below.size (by assumption) | (simp; done) | (simp; omega)))))⟩
            case measure => first | (simp [intOf]; done) | (simp [intOf]; omega)
        · obtain rfl : j = o.length := by omega
          rw [List.take_length]
          have Hown6 := Lib.hid (Hown5.out.below hbr)
          have hB6 : Below w2.heap.size w2 wr := hB5'.trans (hbr.mono hB5'.size)
          have cr := fun q => hbr.cell (p := ⟨wo.heap.size, q, none⟩) l5_0
          have hlw : wo.heap.size < wr.heap.size := by omega
          generalize o.any cv = had at Hstep ⊢
          cases had
          · go_wp2_with (at_builtin; refine wpList_appF (f := Rule.cells) rfl _ _ 34 rfl 40 _ 56 Try.underlying34 infoR rfl (by omega) w2.heap.size o ⟨sa, sb, sc, sd, da, db, dc, dd, sbits, dbits, proto, low, high, cls⟩ _ rfl _ rfl (by decide) rfl (by simp [Rule.cells, Value.oneCell']) (Hown6.out.alloc _) ?cell (by omega) ?base ?_)
            case cell => exact fun j u hu => by simpa [go_sem, Rule.cells] using hu
            case base => (have := hB6.size; simp; omega)
            intro v' w' hown' hgr
            have hbw' : Below w2.heap.size w2 w' := OwnF.grown (Hown6.out.alloc _) (hB6.alloc hB6.size _) hgr (by have := hB6.size; simp; omega)
            clear hgr
            go_wp2_with fail
            go_roundw
            case rel => exact ⟨k + 1, by omega, by go_num, hbw', by rw [Hstep.out]; exact hown'⟩
            case measure => first | (simp [intOf]; done) | (simp [intOf]; omega)
          · go_wp2_with fail
            go_roundw
            case rel => exact ⟨k + 1, by omega, by go_num, hB6, by rw [Hstep.out]; exact Hown6.out⟩
            case measure => first | (simp [intOf]; done) | (simp [intOf]; omega)
    · have h := Hown.out
      rw [List.take_of_length_le (by have := Hn.out; omega)] at h
      have Ho2 := Lib.hid h
      clear h Hown
      have Hv3 : Hid (OwnF Rule.cells 14 wr w.heap.size 40 v (prune l)) := Lib.hid (Hv2.out.below hbw)
      go_wp2_with fail
      refine (HE.out _ _ _ _ Hv3.out Ho2.out).mono ?_
      rintro e w9 ⟨rfl, q, rfl⟩
      go_wp2_with fail
      go_ret
      exact ⟨rfl, (by repeat (first | exact Below.refl _ _ | assumption | refine Below.drew ?_ | refine below_drewN ?_ _ | refine Below.alloc ?_ (by first | omega | exact Below.size (by assumption) | (simp; done) | (simp; omega)) _ | refine Below.setCell ?_ (by first | omega | exact Below.size (by assumption) | (simp; done) | (simp; omega)) _ | refine Below.trans ?_ (Below.mono (by assumption) (by first | omega | exact Below.size (by assumption) | (simp; done) | (simp; omega)))))⟩

theorem walk (A : Option Addr) (n c : Nat) (l : List Rule) (w : World) (hr : Rd w A (l.flatMap Rule.cells)) (hn : l.length = n) (hm : n ≤ 140737488355328) (hbs : ∀ r ∈ l, r.bytes) :
    Calls Try.prog 4 #[.slice A n c] w fun e w' => e = .returned (.bool true) ∧ Below w.heap.size w w' := by
  cases h : wrongB l
  · exact walk_ok A n c l w hr hn hm hbs h
  · exact walk_err A n c l w hr hn hm h
end Go.Proofs.Ytlmnlffbbbcodaa.RulesPrune
