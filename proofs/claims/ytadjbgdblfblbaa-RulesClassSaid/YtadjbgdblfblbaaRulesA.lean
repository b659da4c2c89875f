/- Walks of package rules and its reference: which rules fit. -/
import Derived.Test.YtadjbgdblfblbaaTrieA
namespace Go.Proofs.Ytadjbgdblfblbaa.Rules
open Go.RowKit Go.Proofs.Ytadjbgdblfblbaa.Trie

structure Rule where
  (sa sb sc sd da db dc dd : Int)
  (srcBits dstBits proto low high cls : Int)
def Rule.cells (r : Rule) : List Value := [.int .u8 r.sa, .int .u8 r.sb, .int .u8 r.sc, .int .u8 r.sd, .int .u8 r.da, .int .u8 r.db, .int .u8 r.dc, .int .u8 r.dd, .int .i64 r.srcBits, .int .i64 r.dstBits, .int .i64 r.proto, .int .i64 r.low, .int .i64 r.high, .int .i64 r.cls]
def Rule.bytes (r : Rule) : Prop := (By r.sa ∧ By r.sb ∧ By r.sc ∧ By r.sd) ∧ By r.da ∧ By r.db ∧ By r.dc ∧ By r.dd
structure Head where
  (sa sb sc sd da db dc dd : Int)
  (proto sport dport length mark : Int)
def Head.cells (r : Head) : List Value := [.int .u8 r.sa, .int .u8 r.sb, .int .u8 r.sc, .int .u8 r.sd, .int .u8 r.da, .int .u8 r.db, .int .u8 r.dc, .int .u8 r.dd, .int .i64 r.proto, .int .i64 r.sport, .int .i64 r.dport, .int .i64 r.length, .int .i64 r.mark]
def Head.bytes (r : Head) : Prop := (By r.sa ∧ By r.sb ∧ By r.sc ∧ By r.sd) ∧ By r.da ∧ By r.db ∧ By r.dc ∧ By r.dd

/-- Does a rule fit a packet? -/
def fits (r : Rule) (h : Head) : Bool :=
  within (n4 h.sa h.sb h.sc h.sd) (n4 r.sa r.sb r.sc r.sd) r.srcBits && within (n4 h.da h.db h.dc h.dd) (n4 r.da r.db r.dc r.dd) r.dstBits && (r.proto == 0 || r.proto == h.proto) && decide (r.low ≤ h.dport) && decide (h.dport ≤ r.high)

set_option maxHeartbeats 4000000 in
theorem fits_any (r : Rule) (h : Head) (hr : r.bytes) (hh : h.bytes) (w : World) :
    Calls Try.prog 50 #[.agg r.cells.toArray, .agg h.cells.toArray] w fun e w' => e = .returned (.bool (fits r h)) ∧ Below w.heap.size w w' := by
  obtain ⟨sa, sb, sc, sd, da, db, dc, dd, sbits, dbits, proto, low, high, cls⟩ := r
  obtain ⟨ha, hb, hc, hd, ga, gb, gc, gd, hproto, sport, dport, len, mark⟩ := h
  obtain ⟨⟨r1, r2, r3, r4⟩, r5, r6, r7, r8⟩ := hr
  obtain ⟨⟨h1, h2, h3, h4⟩, h5, h6, h7, h8⟩ := hh
  simp only at r1 r2 r3 r4 r5 r6 r7 r8 h1 h2 h3 h4 h5 h6 h7 h8
  have H1 := Lib.hid fun W => within_any ha hb hc hd sa sb sc sd h1 h2 h3 h4 r1 r2 r3 r4 sbits 0 W
  have H2 := Lib.hid fun W => within_any ga gb gc gd da db dc dd h5 h6 h7 h8 r5 r6 r7 r8 dbits 0 W
  clear r1 r2 r3 r4 r5 r6 r7 r8 h1 h2 h3 h4 h5 h6 h7 h8
  simp only [Rule.cells, Head.cells, fits]
  generalize within (n4 ha hb hc hd) (n4 sa sb sc sd) sbits = b1 at H1 ⊢
  generalize within (n4 ga gb gc gd) (n4 da db dc dd) dbits = b2 at H2 ⊢
  go_enter Try.func50, Try.ntmps50
  go_wp2_with fail
  refine (H1.out _).mono ?_
  rintro e w1 ⟨rfl, hb1⟩
  have c1_0 := fun o => Below.cell hb1 (p := ⟨w.heap.size, o, none⟩) (by first | omega | exact Below.size (by assumption) | (simp; done) | (simp; omega))
  have l1_0 : w.heap.size < w1.heap.size := Nat.lt_of_lt_of_le (by first | omega | exact Below.size (by assumption) | (simp; done) | (simp; omega)) (Below.size hb1)
  have c1_1 := fun o => Below.cell hb1 (p := ⟨w.heap.size + 1, o, none⟩) (by first | omega | exact Below.size (by assumption) | (simp; done) | (simp; omega))
  have l1_1 : w.heap.size + 1 < w1.heap.size := Nat.lt_of_lt_of_le (by first | omega | exact Below.size (by assumption) | (simp; done) | (simp; omega)) (Below.size hb1)
  cases b1
  · go_wp2_with fail
    go_ret
    exact ⟨ret_bool (by simp), (by repeat (first | exact Below.refl _ _ | assumption | refine Below.drew ?_ | refine below_drewN ?_ _ | refine Below.alloc ?_ (by first | omega | exact Below.size (by assumption) | (simp; done) | (simp; omega)) _ | refine Below.setCell ?_ (by first | omega | exact Below.size (by assumption) | (simp; done) | (simp; omega)) _ | refine Below.trans ?_ (Below.mono (by assumption) (by first | omega | exact Below.size (by assumption) | (simp; done) | (simp; omega)))))⟩
  go_wp2_with fail
  refine (H2.out _).mono ?_
  rintro e w2 ⟨rfl, hb2⟩
  have c2_0 := fun o => Below.cell hb2 (p := ⟨w.heap.size, o, none⟩) (by first | omega | exact Below.size (by assumption) | (simp; done) | (simp; omega))
  have l2_0 : w.heap.size < w2.heap.size := Nat.lt_of_lt_of_le (by first | omega | exact Below.size (by assumption) | (simp; done) | (simp; omega)) (Below.size hb2)
  have c2_1 := fun o => Below.cell hb2 (p := ⟨w.heap.size + 1, o, none⟩) (by first | omega | exact Below.size (by assumption) | (simp; done) | (simp; omega))
  have l2_1 : w.heap.size + 1 < w2.heap.size := Nat.lt_of_lt_of_le (by first | omega | exact Below.size (by assumption) | (simp; done) | (simp; omega)) (Below.size hb2)
  cases b2
  · go_wp2_with fail
    go_ret
    exact ⟨ret_bool (by simp), (by repeat (first | exact Below.refl _ _ | assumption | refine Below.drew ?_ | refine below_drewN ?_ _ | refine Below.alloc ?_ (by first | omega | exact Below.size (by assumption) | (simp; done) | (simp; omega)) _ | refine Below.setCell ?_ (by first | omega | exact Below.size (by assumption) | (simp; done) | (simp; omega)) _ | refine Below.trans ?_ (Below.mono (by assumption) (by first | omega | exact Below.size (by assumption) | (simp; done) | (simp; omega)))))⟩
  go_wp2_with fail
  all_goals go_ret
  all_goals exact ⟨ret_bool (by simp [*] <;> omega), (by repeat (first | exact Below.refl _ _ | assumption | refine Below.drew ?_ | refine below_drewN ?_ _ | refine Below.alloc ?_ (by first | omega | exact Below.size (by assumption) | (simp; done) | (simp; omega)) _ | refine Below.setCell ?_ (by first | omega | exact Below.size (by assumption) | (simp; done) | (simp; omega)) _ | refine Below.trans ?_ (Below.mono (by assumption) (by first | omega | exact Below.size (by assumption) | (simp; done) | (simp; omega)))))⟩

theorem fits_out (r : Rule) (h : Head) (hb : r.srcBits < 0 ∨ 32 < r.srcBits ∨ r.dstBits < 0 ∨ 32 < r.dstBits) : fits r h = false := by
  unfold fits within
  rcases hb with hb | hb | hb | hb
  · rw [show decide (0 ≤ r.srcBits) = false from by simpa using hb]; simp
  · rw [show decide (r.srcBits ≤ 32) = false from by simpa using hb]; simp
  · rw [show decide (0 ≤ r.dstBits) = false from by simpa using hb]; simp
  · rw [show decide (r.dstBits ≤ 32) = false from by simpa using hb]; simp

theorem within_in (v q : Int) (m : Nat) (hm : m ≤ 32) : within v q m = (pre q m * 2 ^ (32 - m) == pre v m * 2 ^ (32 - m)) := by
  rw [pre_beq]
  unfold within
  rw [show decide ((0 : Int) ≤ (m : Int)) = true from by simp, show decide ((m : Int) ≤ 32) = true from decide_eq_true (by omega), Int.toNat_natCast]
  simp [eq_comm]

set_option maxHeartbeats 4000000 in
theorem gfits_any (r : Rule) (h : Head) (hr : r.bytes) (hh : h.bytes) (w : World) :
    Calls Try.prog 51 #[.agg r.cells.toArray, .agg h.cells.toArray] w fun e w' => e = .returned (.bool (fits r h)) ∧ Below w.heap.size w w' := by
  by_cases hbad : r.srcBits < 0 ∨ 32 < r.srcBits ∨ r.dstBits < 0 ∨ 32 < r.dstBits
  · have Hf := Lib.hid (fits_out r h hbad)
    rw [Hf.out]
    obtain ⟨sa, sb, sc, sd, da, db, dc, dd, sbits, dbits, proto, low, high, cls⟩ := r
    obtain ⟨ha, hb, hc, hd, ga, gb, gc, gd, hproto, sport, dport, len, mark⟩ := h
    simp only [Rule.cells, Head.cells] at hbad ⊢
    clear Hf hr hh
    have hbad' : (sbits < 0) ∨ (0 ≤ sbits ∧ 32 < sbits) ∨ (0 ≤ sbits ∧ sbits ≤ 32 ∧ dbits < 0) ∨ (0 ≤ sbits ∧ sbits ≤ 32 ∧ 0 ≤ dbits ∧ 32 < dbits) := by omega
    clear hbad
    rcases hbad' with h1 | ⟨h1, h2⟩ | ⟨h1, h2, h3⟩ | ⟨h1, h2, h3, h4⟩
    all_goals
      go_enter Try.func51, Try.ntmps51
      go_wp2_with fail
      go_ret
      exact ⟨rfl, (by repeat (first | exact Below.refl _ _ | assumption | refine Below.drew ?_ | refine below_drewN ?_ _ | refine Below.alloc ?_ (by first | omega | exact Below.size (by assumption) | (simp; done) | (simp; omega)) _ | refine Below.setCell ?_ (by first | omega | exact Below.size (by assumption) | (simp; done) | (simp; omega)) _ | refine Below.trans ?_ (Below.mono (by assumption) (by first | omega | exact Below.size (by assumption) | (simp; done) | (simp; omega)))))⟩
  obtain ⟨sa, sb, sc, sd, da, db, dc, dd, sbits, dbits, proto, low, high, cls⟩ := r
  obtain ⟨ha, hb, hc, hd, ga, gb, gc, gd, hproto, sport, dport, len, mark⟩ := h
  obtain ⟨⟨r1, r2, r3, r4⟩, r5, r6, r7, r8⟩ := hr
  obtain ⟨⟨h1, h2, h3, h4⟩, h5, h6, h7, h8⟩ := hh
  simp only at r1 r2 r3 r4 r5 r6 r7 r8 h1 h2 h3 h4 h5 h6 h7 h8 hbad
  obtain ⟨m, rfl⟩ := Int.eq_ofNat_of_zero_le (show 0 ≤ sbits by omega)
  obtain ⟨n, rfl⟩ := Int.eq_ofNat_of_zero_le (show 0 ≤ dbits by omega)
  have hm : m ≤ 32 := by omega
  have hn : n ≤ 32 := by omega
  clear hbad
  simp only [Rule.cells, Head.cells, fits]
  obtain ⟨b1, B1⟩ : ∃ b, Hid ((pre (n4 sa sb sc sd) m * 2 ^ (32 - m) == pre (n4 ha hb hc hd) m * 2 ^ (32 - m)) = b) := ⟨_, Lib.hid rfl⟩
  obtain ⟨b2, B2⟩ : ∃ b, Hid ((pre (n4 da db dc dd) n * 2 ^ (32 - n) == pre (n4 ga gb gc gd) n * 2 ^ (32 - n)) = b) := ⟨_, Lib.hid rfl⟩
  rw [within_in _ _ m hm, within_in _ _ n hn, B1.out, B2.out]
  have HB : Hid (∀ W a b c d k, By a → By b → By c → By d → k ≤ 32 → Calls Try.prog 97 #[.agg #[.int .u8 a, .int .u8 b, .int .u8 c, .int .u8 d], .int .i64 (k : Nat)] W fun e w' => e = .returned (.int .i64 (pre (n4 a b c d) k * 2 ^ (32 - k))) ∧ Below W.heap.size W w') :=
    Lib.hid fun W a b c d k ha hb hc hd hk => fbits_any a b c d ha hb hc hd k hk W
  obtain ⟨f, Hf⟩ : ∃ f : Int → Int → Int → Int → Nat → Int, Hid (f = fun a b c d k => pre (n4 a b c d) k * 2 ^ (32 - k)) := ⟨_, Lib.hid rfl⟩
  have HB' : Hid (∀ W a b c d k, By a → By b → By c → By d → k ≤ 32 → Calls Try.prog 97 #[.agg #[.int .u8 a, .int .u8 b, .int .u8 c, .int .u8 d], .int .i64 (k : Nat)] W fun e w' => e = .returned (.int .i64 (f a b c d k)) ∧ Below W.heap.size W w') := by rw [Hf.out]; exact HB
  have e1 : (f sa sb sc sd m == f ha hb hc hd m) = b1 := by rw [Hf.out]; exact B1.out
  have e2 : (f da db dc dd n == f ga gb gc gd n) = b2 := by rw [Hf.out]; exact B2.out
  clear B1 B2 HB Hf
  go_enter Try.func51, Try.ntmps51
  go_wp2_with fail
  generalize hW : World.alloc (World.alloc w _) _ = W0
  have hb0 := named hW
  clear hW
  have c0_0 := fun o => Below.cell hb0 (p := ⟨w.heap.size, o, none⟩) (by first | omega | exact Below.size (by assumption) | (simp; done) | (simp; omega))
  have l0_0 : w.heap.size < W0.heap.size := Nat.lt_of_lt_of_le (by first | omega | exact Below.size (by assumption) | (simp; done) | (simp; omega)) (Below.size hb0)
  have c0_1 := fun o => Below.cell hb0 (p := ⟨w.heap.size + 1, o, none⟩) (by first | omega | exact Below.size (by assumption) | (simp; done) | (simp; omega))
  have l0_1 : w.heap.size + 1 < W0.heap.size := Nat.lt_of_lt_of_le (by first | omega | exact Below.size (by assumption) | (simp; done) | (simp; omega)) (Below.size hb0)
  go_region_held3 (fun W => Below W0.heap.size W0 W ∧ (∀ o, W.cell? ⟨w.heap.size, o, none⟩ = (#[.int .u8 sa, .int .u8 sb, .int .u8 sc, .int .u8 sd, .int .u8 da, .int .u8 db, .int .u8 dc, .int .u8 dd, .int .i64 m, .int .i64 n, .int .i64 proto, .int .i64 low, .int .i64 high, .int .i64 cls] : Array Value)[o]?) ∧ (∀ o, W.cell? ⟨w.heap.size + 1, o, none⟩ = (#[.int .u8 ha, .int .u8 hb, .int .u8 hc, .int .u8 hd, .int .u8 ga, .int .u8 gb, .int .u8 gc, .int .u8 gd, .int .i64 hproto, .int .i64 sport, .int .i64 dport, .int .i64 len, .int .i64 mark] : Array Value)[o]?))
    (first | exact ⟨(Below.refl _ _).drew, fun o => (c0_0 o).trans (by simp [go_sem, *]), fun o => (c0_1 o).trans (by simp [go_sem, *])⟩ | exact hq)
    ((go_at_call 97; refine (HB'.out _ _ _ _ _ _ (by assumption) (by assumption) (by assumption) (by assumption) (by omega)).mono ?_; rintro e w5 ⟨rfl, hb5⟩; have hq := held2 hb5 l0_0 l0_1 (by assumption)))
  go_wp2_with fail
  have hq0 := hq
  clear hq
  go_region_held3 (fun W => Below W0.heap.size W0 W ∧ (∀ o, W.cell? ⟨w.heap.size, o, none⟩ = (#[.int .u8 sa, .int .u8 sb, .int .u8 sc, .int .u8 sd, .int .u8 da, .int .u8 db, .int .u8 dc, .int .u8 dd, .int .i64 m, .int .i64 n, .int .i64 proto, .int .i64 low, .int .i64 high, .int .i64 cls] : Array Value)[o]?) ∧ (∀ o, W.cell? ⟨w.heap.size + 1, o, none⟩ = (#[.int .u8 ha, .int .u8 hb, .int .u8 hc, .int .u8 hd, .int .u8 ga, .int .u8 gb, .int .u8 gc, .int .u8 gd, .int .i64 hproto, .int .i64 sport, .int .i64 dport, .int .i64 len, .int .i64 mark] : Array Value)[o]?))
    (first | exact ⟨hq0.1.drew, hq0.2.1, hq0.2.2⟩ | exact hq)
    ((go_at_call 97; refine (HB'.out _ _ _ _ _ _ (by assumption) (by assumption) (by assumption) (by assumption) (by omega)).mono ?_; rintro e w6 ⟨rfl, hb6⟩; have hq := held2 hb6 l0_0 l0_1 (by assumption)))
  have hB : Below w.heap.size w W0 := (by repeat (first | exact Below.refl _ _ | assumption | refine Below.drew ?_ | refine below_drewN ?_ _ | refine Below.alloc ?_ (by first | omega | exact Below.size (by assumption) | (simp; done) | (simp; omega)) _ | refine Below.setCell ?_ (by first | omega | exact Below.size (by assumption) | (simp; done) | (simp; omega)) _ | refine Below.trans ?_ (Below.mono (by assumption) (by first | omega | exact Below.size (by assumption) | (simp; done) | (simp; omega)))))
  have hB6 := hB.trans (hq.1.mono hB.size)
  have k1 := hq.2.1
  have k2 := hq.2.2
  clear hq hq0 HB' r1 r2 r3 r4 r5 r6 r7 r8 h1 h2 h3 h4 h5 h6 h7 h8 hb0
  cases b1
  · go_wp2_with fail
    go_ret
    exact ⟨ret_bool (by simp), hB6⟩
  cases b2
  · go_wp2_with fail
    go_ret
    exact ⟨ret_bool (by simp), hB6⟩
  go_wp2_with fail
  all_goals go_ret
  all_goals exact ⟨ret_bool (by simp [*] <;> omega), hB6⟩
end Go.Proofs.Ytadjbgdblfblbaa.Rules
