/- Walks of rules.covers and what round it is. -/
import Derived.Test.YtlmnlffbbbcodaaRulesB
import Derived.Test.YtlmnlffbbbcodaaMemS
namespace Go.Proofs.Ytlmnlffbbbcodaa.Rules
open Go.RowKit Go.Proofs.Ytlmnlffbbbcodaa.Trie

/-- rules.covers$1: are the first bits the same? -/
theorem bits_any (xa xb xc xd ya yb yc yd n m : Int) (hx : By xa ∧ By xb ∧ By xc ∧ By xd) (hy : By ya ∧ By yb ∧ By yc ∧ By yd) (w : World) :
    Calls Try.prog 110 #[.agg #[.int .u8 xa, .int .u8 xb, .int .u8 xc, .int .u8 xd], .int .i64 n, .agg #[.int .u8 ya, .int .u8 yb, .int .u8 yc, .int .u8 yd], .int .i64 m] w fun e w' => e = .returned (.bool (decide (n ≤ m) && within (n4 ya yb yc yd) (n4 xa xb xc xd) n)) ∧ Below w.heap.size w w' := by
  have H : Hid (∀ W, Calls Try.prog 35 #[.agg #[.int .u8 ya, .int .u8 yb, .int .u8 yc, .int .u8 yd], .agg #[.int .u8 xa, .int .u8 xb, .int .u8 xc, .int .u8 xd, .int .i64 n, .int .i64 0]] W fun e w' => e = .returned (.bool (within (n4 ya yb yc yd) (n4 xa xb xc xd) n)) ∧ Below W.heap.size W w') :=
    Lib.hid fun W => within_any ya yb yc yd xa xb xc xd hy.1 hy.2.1 hy.2.2.1 hy.2.2.2 hx.1 hx.2.1 hx.2.2.1 hx.2.2.2 n 0 W
  generalize within (n4 ya yb yc yd) (n4 xa xb xc xd) n = b at H ⊢
  clear hx hy
  by_cases h : n ≤ m
  · go_enter Try.func110, Try.ntmps110
    go_wp2_with fail
    refine (H.out _).mono ?_
    rintro e w1 ⟨rfl, hb1⟩
    go_wp2_with fail
    go_ret
    exact ⟨ret_bool (by simp [h]), (by repeat (first | exact Below.refl _ _ | assumption | refine Below.drew ?_ | refine below_drewN ?_ _ | refine Below.alloc ?_ (by first | omega | exact Below.size (by assumption) | (simp; done) | (simp; omega)) _ | refine Below.setCell ?_ (by first | omega | exact Below.size (by assumption) | (simp; done) | (simp; omega)) _ | refine Below.trans ?_ (Below.mono (by assumption) (by first | omega | exact Below.size (by assumption) | (simp; done) | (simp; omega)))))⟩
  · go_enter Try.func110, Try.ntmps110
    go_wp2_with fail
    go_ret
    exact ⟨ret_bool (by simp; omega), (by repeat (first | exact Below.refl _ _ | assumption | refine Below.drew ?_ | refine below_drewN ?_ _ | refine Below.alloc ?_ (by first | omega | exact Below.size (by assumption) | (simp; done) | (simp; omega)) _ | refine Below.setCell ?_ (by first | omega | exact Below.size (by assumption) | (simp; done) | (simp; omega)) _ | refine Below.trans ?_ (Below.mono (by assumption) (by first | omega | exact Below.size (by assumption) | (simp; done) | (simp; omega)))))⟩

/-- Does a rule fit wherever another one does? -/
def covB (a b : Rule) : Bool :=
  (decide (a.srcBits ≤ b.srcBits) && within (n4 b.sa b.sb b.sc b.sd) (n4 a.sa a.sb a.sc a.sd) a.srcBits) && (decide (a.dstBits ≤ b.dstBits) && within (n4 b.da b.db b.dc b.dd) (n4 a.da a.db a.dc a.dd) a.dstBits) && (a.proto == 0 || a.proto == b.proto) && decide (a.low ≤ b.low) && decide (b.high ≤ a.high)

theorem enter_bits : ∀ args W, (callFunc 110 args).run Try.prog W = .ok (.enter 110 args) W := fun _ _ => by kernel_rfl

set_option maxHeartbeats 4000000 in
theorem covers_any (a b : Rule) (ha : a.bytes) (hb : b.bytes) (w : World) :
    Calls Try.prog 78 #[.agg a.cells.toArray, .agg b.cells.toArray] w fun e w' => e = .returned (.bool (covB a b)) ∧ Below w.heap.size w w' := by
  obtain ⟨sa, sb, sc, sd, da, db, dc, dd, sbits, dbits, proto, low, high, cls⟩ := a
  obtain ⟨ta, tb, tc, td, ea, eb, ec, ed, tbits, ebits, qroto, qow, qigh, qcls⟩ := b
  have H1 : Hid (∀ W, Calls Try.prog 110 #[.agg #[.int .u8 sa, .int .u8 sb, .int .u8 sc, .int .u8 sd], .int .i64 sbits, .agg #[.int .u8 ta, .int .u8 tb, .int .u8 tc, .int .u8 td], .int .i64 tbits] W fun e w' => e = .returned (.bool (decide (sbits ≤ tbits) && within (n4 ta tb tc td) (n4 sa sb sc sd) sbits)) ∧ Below W.heap.size W w') :=
    Lib.hid fun W => bits_any _ _ _ _ _ _ _ _ _ _ ha.1 hb.1 W
  have H2 : Hid (∀ W, Calls Try.prog 110 #[.agg #[.int .u8 da, .int .u8 db, .int .u8 dc, .int .u8 dd], .int .i64 dbits, .agg #[.int .u8 ea, .int .u8 eb, .int .u8 ec, .int .u8 ed], .int .i64 ebits] W fun e w' => e = .returned (.bool (decide (dbits ≤ ebits) && within (n4 ea eb ec ed) (n4 da db dc dd) dbits)) ∧ Below W.heap.size W w') :=
    Lib.hid fun W => bits_any _ _ _ _ _ _ _ _ _ _ ha.2 hb.2 W
  simp only [covB, Rule.cells]
  generalize (decide (sbits ≤ tbits) && within (n4 ta tb tc td) (n4 sa sb sc sd) sbits) = b1 at H1 ⊢
  generalize (decide (dbits ≤ ebits) && within (n4 ea eb ec ed) (n4 da db dc dd) dbits) = b2 at H2 ⊢
  clear ha hb
  have hcf := enter_bits
  cases b1
  · go_enter Try.func78, Try.ntmps78
    go_wp2_with fail
    refine (H1.out _).mono ?_
    rintro e w1 ⟨rfl, hb1⟩
    go_wp2_with fail
    go_ret
    exact ⟨ret_bool (by simp), (by repeat (first | exact Below.refl _ _ | assumption | refine Below.drew ?_ | refine below_drewN ?_ _ | refine Below.alloc ?_ (by first | omega | exact Below.size (by assumption) | (simp; done) | (simp; omega)) _ | refine Below.setCell ?_ (by first | omega | exact Below.size (by assumption) | (simp; done) | (simp; omega)) _ | refine Below.trans ?_ (Below.mono (by assumption) (by first | omega | exact Below.size (by assumption) | (simp; done) | (simp; omega)))))⟩
  · cases b2
    · go_enter Try.func78, Try.ntmps78
      go_wp2_with fail
      refine (H1.out _).mono ?_
      rintro e w1 ⟨rfl, hb1⟩
      have c1_0 := fun o => Below.cell hb1 (p := ⟨w.heap.size, o, none⟩) (by first | omega | exact Below.size (by assumption) | (simp; done) | (simp; omega))
      have l1_0 : w.heap.size < w1.heap.size := Nat.lt_of_lt_of_le (by first | omega | exact Below.size (by assumption) | (simp; done) | (simp; omega)) (Below.size hb1)
      have c1_1 := fun o => Below.cell hb1 (p := ⟨w.heap.size + 1, o, none⟩) (by first | omega | exact Below.size (by assumption) | (simp; done) | (simp; omega))
      have l1_1 : w.heap.size + 1 < w1.heap.size := Nat.lt_of_lt_of_le (by first | omega | exact Below.size (by assumption) | (simp; done) | (simp; omega)) (Below.size hb1)
      go_wp2_with fail
      refine (H2.out _).mono ?_
      rintro e w2 ⟨rfl, hb2⟩
      go_wp2_with fail
      go_ret
      exact ⟨ret_bool (by simp), (by repeat (first | exact Below.refl _ _ | assumption | refine Below.drew ?_ | refine below_drewN ?_ _ | refine Below.alloc ?_ (by first | omega | exact Below.size (by assumption) | (simp; done) | (simp; omega)) _ | refine Below.setCell ?_ (by first | omega | exact Below.size (by assumption) | (simp; done) | (simp; omega)) _ | refine Below.trans ?_ (Below.mono (by assumption) (by first | omega | exact Below.size (by assumption) | (simp; done) | (simp; omega)))))⟩
    · go_enter Try.func78, Try.ntmps78
      go_wp2_with fail
      refine (H1.out _).mono ?_
      rintro e w1 ⟨rfl, hb1⟩
      have c1_0 := fun o => Below.cell hb1 (p := ⟨w.heap.size, o, none⟩) (by first | omega | exact Below.size (by assumption) | (simp; done) | (simp; omega))
      have l1_0 : w.heap.size < w1.heap.size := Nat.lt_of_lt_of_le (by first | omega | exact Below.size (by assumption) | (simp; done) | (simp; omega)) (Below.size hb1)
      have c1_1 := fun o => Below.cell hb1 (p := ⟨w.heap.size + 1, o, none⟩) (by first | omega | exact Below.size (by assumption) | (simp; done) | (simp; omega))
      have l1_1 : w.heap.size + 1 < w1.heap.size := Nat.lt_of_lt_of_le (by first | omega | exact Below.size (by assumption) | (simp; done) | (simp; omega)) (Below.size hb1)
      go_wp2_with fail
      refine (H2.out _).mono ?_
      rintro e w2 ⟨rfl, hb2⟩
      have c2_0 := fun o => Below.cell hb2 (p := ⟨w.heap.size, o, none⟩) (by first | omega | exact Below.size (by assumption) | (simp; done) | (simp; omega))
      have l2_0 : w.heap.size < w2.heap.size := Nat.lt_of_lt_of_le (by first | omega | exact Below.size (by assumption) | (simp; done) | (simp; omega)) (Below.size hb2)
      have c2_1 := fun o => Below.cell hb2 (p := ⟨w.heap.size + 1, o, none⟩) (by first | omega | exact Below.size (by assumption) | (simp; done) | (simp; omega))
      have l2_1 : w.heap.size + 1 < w2.heap.size := Nat.lt_of_lt_of_le (by first | omega | exact Below.size (by assumption) | (simp; done) | (simp; omega)) (Below.size hb2)
      have hB : Below w.heap.size w w2 := (by repeat (first | exact Below.refl _ _ | assumption | refine Below.drew ?_ | refine below_drewN ?_ _ | refine Below.alloc ?_ (by first | omega | exact Below.size (by assumption) | (simp; done) | (simp; omega)) _ | refine Below.setCell ?_ (by first | omega | exact Below.size (by assumption) | (simp; done) | (simp; omega)) _ | refine Below.trans ?_ (Below.mono (by assumption) (by first | omega | exact Below.size (by assumption) | (simp; done) | (simp; omega)))))
      go_wp2_with fail
      all_goals go_ret
      all_goals exact ⟨ret_bool (by simp [*] <;> omega), hB⟩
end Go.Proofs.Ytlmnlffbbbcodaa.Rules
