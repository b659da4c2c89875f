/- The library's calls of bench: strings cut and split, numbers read and written, a text that grows. -/
import Derived.Test.YtfcpmcdlgkfolaaDoorBnL
import Derived.Test.YtfcpmcdlgkfolaaDoorBnM
import Derived.Test.YtfcpmcdlgkfolaaDoorBnR
import Derived.Lib.AppendIntMem
import Derived.Shelf.Strings.Shaped
import Derived.Shelf.Strings.SplitShaped
import Derived.Shelf.Strings.BuilderK
import Derived.Shelf.Strings.Prefix
import Derived.Shelf.Strconv.Itoa4
import Derived.Shelf.Strconv.AtoiAll
namespace Go.Proofs.YtfcpmcdlgkfolaaDoor.Bn
open Go.RowKit Go.Lib Go.Proofs.YtfcpmcdlgkfolaaDoor.E

/-- The name of the table of powers of ten. -/
noncomputable def pow10N : String := ((Tryd.prog.globals[YtfcpmcdlgkfolaaDoor.Bench.itoaL_ren.g 17]?).map (·.name)).getD ""
theorem tab_of {w : World} {s : String} (h : pow10N = s) (ht : TabIs Tryd.prog w pow10N .u64 pow10Tab) : TabIs Tryd.prog w s .u64 pow10Tab := h ▸ ht

/-- What the world holds of the library's. -/
structure Gw (w : World) : Prop where
  ml : ∃ m : Int, w.cell? ⟨YtfcpmcdlgkfolaaDoor.Bench.cutL_ren.g 1, 0, none⟩ = some (.int .i64 m)
  tab : TabIs Tryd.prog w pow10N .u64 pow10Tab
  es : ∃ tp p, w.cell? ⟨YtfcpmcdlgkfolaaDoor.Bench.atoiL_ren.g 15, 0, none⟩ = some (.iface tp p)
  er : ∃ tp p, w.cell? ⟨YtfcpmcdlgkfolaaDoor.Bench.atoiL_ren.g 16, 0, none⟩ = some (.iface tp p)

theorem cell_lt {w : World} {p : Addr} {v : Value} (h : w.cell? p = some v) : p.block < w.heap.size := by
  rcases Nat.lt_or_ge p.block w.heap.size with h1 | h1
  · exact h1
  · simp [World.cell?, Array.getElem?_eq_none h1] at h
theorem Gw.below {w0 w : World} (h : Gw w0) (hb : Below w0.heap.size w0 w) : Gw w := by
  obtain ⟨⟨m, h1⟩, h2, ⟨a, b, h3⟩, ⟨c, d, h4⟩⟩ := h
  exact ⟨⟨m, (hb.cell (cell_lt h1)).trans h1⟩, tabBelow_of_tabIs h2 w hb, ⟨a, b, (hb.cell (cell_lt h3)).trans h3⟩, ⟨c, d, (hb.cell (cell_lt h4)).trans h4⟩⟩
theorem Gw.st {w0 w : World} {L : List Res} (h : Gw w0) (hS : St w0 w L) : Gw w := h.below hS.below

def CutIs (c : UInt8) (l : List UInt8) (q : List UInt8 × List UInt8 × Bool) : Prop :=
  (q.2.2 = false ∧ c ∉ l ∧ q.1 = l ∧ q.2.1 = []) ∨ (q.2.2 = true ∧ l = q.1 ++ c :: q.2.1 ∧ c ∉ q.1)
theorem cutE {w : World} (hw : Gw w) (l : List UInt8) (c : UInt8) (h : l.length < 4294967281) :
    Calls Tryd.prog 41 #[str l, str [c]] w fun e w' => ∃ q : List UInt8 × List UInt8 × Bool, CutIs c l q ∧ e = .returned (.tuple #[str q.1, str q.2.1, .bool q.2.2]) ∧ St w w' [] := by
  obtain ⟨m, hm⟩ := hw.ml
  refine (Any.strings_Cut { YtfcpmcdlgkfolaaDoor.Bench.cutL with } ⟨l.toArray⟩ ⟨[c].toArray⟩ m w (by rw [mk_size]; exact h) hm).mono ?_
  rintro e w' ⟨rfl, n, rfl⟩
  refine ⟨cut l [c], ?_, rfl, (St.refl w).drewN n⟩
  rcases cut1 c l with ⟨h1, h2⟩ | ⟨a, b, h0, h1, h2⟩
  · rw [h2]
    exact Or.inl ⟨rfl, h1, rfl, rfl⟩
  · rw [h2]
    exact Or.inr ⟨rfl, h0, h1⟩

theorem wds_len (c : UInt8) : ∀ l : List UInt8, (wds c l).length ≤ l.length + 1
  | [] => by simp [wds]
  | b :: l => by
    have := wds_len c l
    unfold wds
    split
    · simp; omega
    · split
      · simp
      · rename_i w ws h
        rw [h] at this
        simp at this ⊢
        omega
theorem split_len (l : List UInt8) (c : UInt8) : countB ⟨l.toArray⟩ ⟨[c].toArray⟩ + 1 = (wds c l).length ∧ (splitB ⟨[c].toArray⟩ 0 (countB ⟨l.toArray⟩ ⟨[c].toArray⟩) ⟨l.toArray⟩).map Value.string = (wds c l).map str := by
  have h1 : (splitB ⟨[c].toArray⟩ 0 (countB ⟨l.toArray⟩ ⟨[c].toArray⟩) ⟨l.toArray⟩).map (·.data.toList) = wds c l := by
    rw [splitB_data]
    exact split1 c l
  have h2 : (splitB ⟨[c].toArray⟩ 0 (countB ⟨l.toArray⟩ ⟨[c].toArray⟩) ⟨l.toArray⟩).map Value.string = (wds c l).map str := by
    rw [← h1, List.map_map]
    rfl
  refine ⟨?_, h2⟩
  have hn : ∀ (k : Nat) (s : List UInt8), count s [c] = k → (wds c s).length = k + 1 := by
    intro k
    induction k with
    | zero =>
      intro s hs
      rcases occ1 c s with ⟨g1, g2⟩ | ⟨a, b, rfl, g1, g2⟩
      · rw [wds_none g1]; rfl
      · rw [count_hit (by simp) g2] at hs; omega
    | succ k ih =>
      intro s hs
      rcases occ1 c s with ⟨g1, g2⟩ | ⟨a, b, rfl, g1, g2⟩
      · rw [count_miss g2] at hs; omega
      · rw [count_hit (by simp) g2] at hs
        have hd : (a ++ c :: b).drop (a.length + [c].length) = b := by simp
        rw [hd] at hs
        rw [wds_cons b g1, List.length_cons, ih b (by omega)]
  exact (hn _ l rfl).symm

theorem splitE {w : World} (hw : Gw w) (l : List UInt8) (c : UInt8) (h : l.length < 4294967281) :
    Calls Tryd.prog 67 #[str l, str [c]] w fun e w' => ∃ q : Vs, (q.n = (wds c l).length ∧ q.xs = (wds c l).map str) ∧ e = .returned (.slice q.A q.n q.c) ∧ St w w' [vec 9 1 (.slice q.A q.n q.c) q.n q.xs] := by
  obtain ⟨m, hm⟩ := hw.ml
  obtain ⟨h1, h2⟩ := split_len l c
  refine (Any.strings_Split { YtfcpmcdlgkfolaaDoor.Bench.splitL with } YtfcpmcdlgkfolaaDoor.Bench.splitL.i9 ⟨l.toArray⟩ ⟨[c].toArray⟩ m w (by rw [mk_size]; exact h) hm (by rw [mk_size]; exact Nat.le_refl _)).mono ?_
  rintro e w' ⟨rfl, rfl⟩
  rw [h1, h2]
  refine ⟨⟨some ⟨w.heap.size, 0, none⟩, (wds c l).length, (wds c l).length, (wds c l).map str⟩, ⟨rfl, rfl⟩, rfl, (St.refl w).add (alloc_new w _) ⟨by simp, .inr ⟨w.heap.size, 0, (wds c l).length, ((wds c l).map str).toArray, rfl, heap_alloc_new w _, Nat.le_refl _, ?_, by simp, by dsimp only; rw [Nat.mul_one]; exact List.take_of_length_le (by simp)⟩⟩ (fun b hb => ?_)⟩
  · have := wds_len c l
    unfold maxLen
    omega
  · simp only [vec, Value.ownBlock, Option.toList_some, List.mem_singleton] at hb
    subst hb
    exact ⟨Nat.le_refl _, by simp⟩

/-- A number read: there is one, and no error; or there is an error. -/
def AtoiIs (l : List UInt8) (q : Int × Bool × Value) : Prop := (q.2.1 = true ∧ q.2.2 = .nilIface ∧ atoiAll l = .ok q.1) ∨ (q.2.1 = false ∧ (∃ t p, q.2.2 = .iface t p) ∧ ∀ v, atoiAll l ≠ .ok v)
theorem AtoiIs.err {l : List UInt8} {q : Int × Bool × Value} (h : AtoiIs l q) : (q.2.1 = true ∧ q.2.2 = .nilIface) ∨ (q.2.1 = false ∧ ∃ a b, q.2.2 = .iface a b) := h.elim (fun h => .inl ⟨h.1, h.2.1⟩) (fun h => .inr ⟨h.1, h.2.1⟩)
theorem AtoiIs.ok {l : List UInt8} {q : Int × Bool × Value} (h : AtoiIs l q) (hp : q.2.1 = true) : atoiAll l = .ok q.1 := by
  rcases h with h | h
  · exact h.2.2
  · rw [hp] at h
    cases h.1
theorem AtoiIs.num {l : List UInt8} {q : Int × Bool × Value} (h : AtoiIs l q) (hp : q.2.1 = true) (h0 : 0 ≤ q.1) (h1 : q.1 ≤ 1099511627776) : decide (itoa q.1 = l) = okNum l ∧ (decide (itoa q.1 = l) = true → q.1 = (val l : Int)) := by
  have ha := h.ok hp
  constructor
  · by_cases hi : itoa q.1 = l
    · rw [decide_eq_true hi, (atoi_num l).1 ⟨q.1, ha, ⟨h0, h1⟩, hi⟩]
    · rw [decide_eq_false hi]
      refine (Bool.eq_false_iff.2 fun hk => ?_).symm
      obtain ⟨v, g1, _, g3⟩ := (atoi_num l).2 hk
      rw [ha] at g1
      cases g1
      exact hi g3
  · intro hi
    have hi := of_decide_eq_true hi
    obtain ⟨n, hn⟩ := Int.eq_ofNat_of_zero_le h0
    have := (dec_val n).1
    rw [hn, itoa_nonneg] at hi
    rw [hn, ← hi, this]
theorem AtoiIs.no {l : List UInt8} {q : Int × Bool × Value} (h : AtoiIs l q) (hp : q.2.1 = false ∨ ¬ 0 ≤ q.1 ∨ ¬ q.1 ≤ 1099511627776) : okNum l = false := by
  refine Bool.eq_false_iff.2 fun hk => ?_
  obtain ⟨v, g1, g2, g3⟩ := (atoi_num l).2 hk
  rcases h with ⟨h1, _, h3⟩ | ⟨_, _, h3⟩
  · rw [h3] at g1
    cases g1
    rcases hp with hp | hp | hp
    · rw [h1] at hp
      cases hp
    · exact hp g2.1
    · exact hp g2.2
  · exact h3 v g1
theorem atoiE {w : World} (hw : Gw w) (l : List UInt8) (h : l.length < 4294967281) :
    Calls Tryd.prog 95 #[str l] w fun e w' => ∃ q : Int × Bool × Value, AtoiIs l q ∧ e = .returned (.tuple #[.int .i64 q.1, q.2.2]) ∧ St w w' [] := by
  cases ha : atoiAll l
  case ok v =>
    refine (Any.strconv_Atoi_ok { YtfcpmcdlgkfolaaDoor.Bench.atoiL with } ⟨l.toArray⟩ (by rw [mk_size]; omega) v ha w).mono ?_
    rintro e w' ⟨rfl, h1⟩
    refine ⟨(v, true, .nilIface), Or.inl ⟨rfl, rfl, ha⟩, rfl, ?_⟩
    rcases h1 with rfl | ⟨t, rfl⟩
    · exact St.refl _
    · exact St.of_below (bytesWorld_below _ _ _)
  · obtain ⟨tp, p, hc⟩ := hw.es
    refine (Any.strconv_Atoi_syntax { YtfcpmcdlgkfolaaDoor.Bench.atoiL with } ⟨l.toArray⟩ (by rw [mk_size]; omega) ha _ w hc (Or.inr ⟨tp, p, rfl⟩)).mono ?_
    rintro e w' ⟨M, rfl, _, _, hb⟩
    exact ⟨(0, false, _), Or.inr ⟨rfl, ⟨_, _, rfl⟩, fun v e => by rw [ha] at e; cases e⟩, rfl, St.of_below hb⟩
  · obtain ⟨tp, p, hc⟩ := hw.er
    refine (Any.strconv_Atoi_range { YtfcpmcdlgkfolaaDoor.Bench.atoiL with } ⟨l.toArray⟩ (by rw [mk_size]; omega) ha _ w hc (Or.inr ⟨tp, p, rfl⟩)).mono ?_
    rintro e w' ⟨M, rfl, _, _, hb⟩
    exact ⟨(_, false, _), Or.inr ⟨rfl, ⟨_, _, rfl⟩, fun v e => by rw [ha] at e; cases e⟩, rfl, St.of_below hb⟩

theorem itoaE {w : World} (hw : Gw w) (n : Int) (h0 : -9223372036854775808 ≤ n) (h1 : n ≤ 9223372036854775807) :
    Calls Tryd.prog 20 #[(.int .i64 n)] w fun e w' => e = .returned (str (itoa n)) ∧ St w w' [] := by
  refine (Any.strconv_Itoa { YtfcpmcdlgkfolaaDoor.Bench.itoaL with } n h0 h1 w (tab_of (by kernel_rfl) hw.tab)).mono ?_
  rintro e w' ⟨rfl, k, os, rfl⟩
  exact ⟨rfl, St.of_below (below_grow _ _ (Nat.le_refl _) k os)⟩
theorem fmtE {w : World} (hw : Gw w) (n : Int) (h0 : -9223372036854775808 ≤ n) (h1 : n ≤ 9223372036854775807) :
    Calls Tryd.prog 38 #[(.int .i64 n), (.int .i64 10)] w fun e w' => e = .returned (str (itoa n)) ∧ St w w' [] := by
  refine (Any.strconv_FormatInt_10 { YtfcpmcdlgkfolaaDoor.Bench.fmtL with } n h0 h1 w (tab_of (by kernel_rfl) hw.tab)).mono ?_
  rintro e w' ⟨rfl, k, os, rfl⟩
  exact ⟨rfl, St.of_below (below_grow _ _ (Nat.le_refl _) k os)⟩
theorem prefixE {w : World} (s p : List UInt8) : Calls Tryd.prog 19 #[str s, str p] w fun e w' => e = .returned (.bool (hasPrefix s p)) ∧ St w w' [] := by
  refine (Any.strings_HasPrefix { YtfcpmcdlgkfolaaDoor.Bench.preL with } ⟨s.toArray⟩ ⟨p.toArray⟩ w).mono ?_
  rintro e w' ⟨rfl, rfl⟩
  exact ⟨rfl, St.refl _⟩

/-! ### A text that grows -/

theorem wsX : Builder.Extra Tryd.prog YtfcpmcdlgkfolaaDoor.Bench.wsL_ren := {
  sizeBuilder := by kernel_rfl,
  liesBuilder := by kernel_rfl,
  t5 := Tryd.underlying5,
  a5 := Tryd.isAgg5,
  z5 := Tryd.sizeOf5,
  v5 := Tryd.zeroValue5,
  infoByte := by kernel_rfl,
  cellsByte := by kernel_rfl,
  sizeByte := by kernel_rfl,
  neB5 := by decide }
theorem strX : Builder.Extra Tryd.prog YtfcpmcdlgkfolaaDoor.Bench.strL_ren := {
  sizeBuilder := by kernel_rfl,
  liesBuilder := by kernel_rfl,
  t5 := Tryd.underlying5,
  a5 := Tryd.isAgg5,
  z5 := Tryd.sizeOf5,
  v5 := Tryd.zeroValue5,
  infoByte := by kernel_rfl,
  cellsByte := by kernel_rfl,
  sizeByte := by kernel_rfl,
  neB5 := by decide }

/-- A builder of strings, and the bytes in it. -/
def bld (b : Nat) (g : Option Nat) (l : List UInt8) : Res where
  foot := b :: g.toList
  holds w := ∃ p v, (p = .pointer none ∨ p = .pointer (some ⟨b, 0, none⟩)) ∧ w.heap[b]? = some (.cells #[p, v] (YtfcpmcdlgkfolaaDoor.Bench.wsL_ren.t 72) (0, 0)) ∧ w.ownsRowF 0 (YtfcpmcdlgkfolaaDoor.Bench.wsL_ren.t 5) 1 v l.length (byteCells l) ∧ v.ownBlock = g ∧ g ≠ some b
  stable w w' hf := by
    rintro ⟨p, v, h1, h2, ⟨h3, h4⟩, h5, h6⟩
    refine ⟨p, v, h1, (hf b (List.mem_cons_self ..)).trans h2, ⟨h3, ?_⟩, h5, h6⟩
    rcases h4 with h4 | ⟨g', cap, cur, fz, rfl, r1, r2, r3⟩
    · exact .inl h4
    · exact .inr ⟨g', cap, cur, fz, rfl, r1, (hf g' (by rw [← h5]; simp [Value.ownBlock])).trans r2, r3⟩

theorem bld_is {w0 w : World} {b : Nat} {g : Option Nat} {l : List UInt8} {L : List Res} (hS : St w0 w (bld b g l :: L)) : IsBuilderF (YtfcpmcdlgkfolaaDoor.Bench.wsL_ren.t 72) (YtfcpmcdlgkfolaaDoor.Bench.wsL_ren.t 5) w0.heap.size b (byteCells l) w := by
  obtain ⟨p, v, h1, h2, ⟨h3, h4⟩, h5, h6⟩ := hS.holds 0 _ rfl
  have hb := (hS.lt 0 _ rfl b (List.mem_cons_self ..)).1
  have hA : BuilderAtF (YtfcpmcdlgkfolaaDoor.Bench.wsL_ren.t 72) (YtfcpmcdlgkfolaaDoor.Bench.wsL_ren.t 5) w0.heap.size b p (byteCells l) w := by
    refine ⟨hb, v, h2, ?_, by rw [h5]; exact h6⟩
    rw [byteCells_length]
    refine ⟨h3, ?_⟩
    rcases h4 with h4 | ⟨g', cap, cur, fz, rfl, r1, r2, r3⟩
    · exact .inl h4
    · refine .inr ⟨g', cap, cur, fz, rfl, ?_, r2, r3⟩
      exact (hS.lt 0 _ rfl g' (by simp [bld, ← h5, Value.ownBlock])).1
  rcases h1 with rfl | rfl
  · exact .inl hA
  · exact .inr hA
theorem bld_of {w0 w w' : World} {b : Nat} {p : Value} {l : List UInt8} {L : List Res} (hS : St w0 w L) (hp : p = .pointer none ∨ p = .pointer (some ⟨b, 0, none⟩)) (h : BuilderAtF (YtfcpmcdlgkfolaaDoor.Bench.wsL_ren.t 72) (YtfcpmcdlgkfolaaDoor.Bench.wsL_ren.t 5) w0.heap.size b p (byteCells l) w') (hb : Below w0.heap.size w w') : ∃ g, St w0 w' [bld b g l] := by
  obtain ⟨h1, v, h2, h3, h4⟩ := h
  rw [byteCells_length] at h3
  have hlt : ∀ k (o : Obj), w'.heap[k]? = some o → k < w'.heap.size := fun k o hk => (Array.getElem?_eq_some_iff.1 hk).1
  refine ⟨v.ownBlock, hS.below.trans hb, fun i r hi => ?_, fun i r hi k hk => ?_, fun i j r s hi hj hne => ?_⟩
  · match i with
    | 0 =>
      simp only [lget, Option.some.injEq] at hi
      subst hi
      refine ⟨p, v, hp, h2, ⟨h3.1, ?_⟩, rfl, h4⟩
      rcases h3.2 with h5 | ⟨g', cap, cur, fz, h6, r1, r2⟩
      · exact .inl h5
      · exact .inr ⟨g', cap, cur, fz, h6, Nat.zero_le _, r2⟩
    | i + 1 => simp [lget] at hi
  · match i with
    | 0 =>
      simp only [lget, Option.some.injEq] at hi
      subst hi
      simp only [bld, List.mem_cons, Option.mem_toList, Option.mem_def] at hk
      rcases hk with rfl | hk
      · exact ⟨h1, hlt _ _ h2⟩
      · rcases h3.2 with ⟨rfl, _⟩ | ⟨g', cap, cur, fz, rfl, r1, r2, _⟩
        · simp [Value.ownBlock] at hk
        · simp only [Value.ownBlock, Option.map_some, Option.some.injEq] at hk
          subst hk
          exact ⟨r1, hlt _ _ r2⟩
    | i + 1 => simp [lget] at hi
  · match i, j with
    | 0, 0 => exact absurd rfl hne
    | i + 1, _ => simp [lget] at hi
    | 0, j + 1 => simp [lget] at hj

theorem wsE {w0 w : World} {b : Nat} {g : Option Nat} {l : List UInt8} {L : List Res} (hS : St w0 w (bld b g l :: L)) (s : List UInt8) (h : l.length + s.length ≤ 1099511627776) :
    Calls Tryd.prog 35 #[.pointer (some ⟨b, 0, none⟩), str s] w fun e w' => ∃ q : Option Nat, True ∧ e = .returned (.tuple #[(.int .i64 ((s.length : Int))), .nilIface]) ∧ St w0 w' [bld b q (l ++ s)] := by
  refine (Any.Builder_WriteString_k { YtfcpmcdlgkfolaaDoor.Bench.wsL with } wsX w0.heap.size b (byteCells l) ⟨s.toArray⟩ w (bld_is hS) (by rw [byteCells_length, mk_size]; omega) hS.size).mono ?_
  rintro e w' ⟨rfl, hA, hb, _⟩
  have e1 : byteCells l ++ strCells ⟨s.toArray⟩ = byteCells (l ++ s) := by simp [byteCells, strCells]
  rw [e1] at hA
  obtain ⟨q, hq⟩ := bld_of hS (.inr rfl) hA hb
  exact ⟨q, trivial, by rw [mk_size], hq⟩
theorem strE {w0 w : World} {b : Nat} {g : Option Nat} {l : List UInt8} {L : List Res} (hS : St w0 w (bld b g l :: L)) :
    Calls Tryd.prog 37 #[.pointer (some ⟨b, 0, none⟩)] w fun e w' => ∃ _q : Unit, True ∧ e = .returned (str l) ∧ St w0 w' [] := by
  refine (Any.Builder_String_any_k { YtfcpmcdlgkfolaaDoor.Bench.strL with } strX w0.heap.size b l w (bld_is hS) hS.size).mono ?_
  rintro e w' ⟨rfl, _, hb, _⟩
  exact ⟨(), trivial, rfl, hS.below.trans hb, fun i r hi => by simp [lget] at hi, fun i r hi => by simp [lget] at hi, fun i j r s hi => by simp [lget] at hi⟩

/-- A new builder. -/
theorem bld_new {w0 w : World} {b : Nat} {L : List Res} (hS : St w0 w (blk b [.pointer none, .slice none 0 0] :: L)) : True := trivial
end Go.Proofs.YtfcpmcdlgkfolaaDoor.Bn
