/- append of a whole slice of integers to an empty one: a copy. As an operation of a list, and of a region that draws. -/
import Derived.Test.YtfcpmcdlgkfolaaDoorBigW
import Derived.Deep.RegionLawGrows
import Derived.Outline
import Derived.BigQuiet
import Derived.Deep.QuietTactic
import Derived.Laws.BitsAllLaws
import Derived.Laws.Bits64
namespace Go.Proofs.YtfcpmcdlgkfolaaDoor.Big
open Go.RowKit

theorem run_copy {P : Program} (w : World) (t ty e : TypeId) (k : IntKind) (bytes : Nat) (ht : P.underlying t = some (.slice e)) (hi : (P.info? e).map (fun i => (i.zero, i.size, i.bytes)) = some (some (.int k 0), 1, bytes)) (hby : bytes ≤ 8)
    (g : Nat) (A : Option Addr) (m c : Nat) (zs : List Int) (hr : RdI k w A zs) (hm : m = zs.length) (hlen : m ≤ 1000000000) :
    ∃ A' c' w', (Builtin.append_ #[t, t] ty #[.slice (some ⟨g, 0, none⟩) 0 0, .slice A m c]).run P w = .ok (.slice A' m c') w' ∧ RdI k w' A' zs ∧ m ≤ c' ∧ Below w.heap.size w w' := by
  obtain ⟨i, i1, i2, i3, i4⟩ := info_parts' hi
  subst hm
  by_cases h0 : zs = []
  · subst h0
    refine ⟨some ⟨g, 0, none⟩, 0, w, ?_, .inl rfl, Nat.le_refl _, Below.refl _ _⟩
    cases A with
    | none => simp [Builtin.append_, run_underlying ht, sizeOf, typeInfo, i1, Builtin.lenOf, Builtin.firstCells, storeCells]
    | some a => simp [Builtin.append_, run_underlying ht, sizeOf, typeInfo, i1, Builtin.lenOf, Builtin.firstCells, storeCells, loadCells, loadCellsFrom]
  · rcases hr with h1 | ⟨b, off, rfl, hc⟩
    · simp at h1; exact absurd h1 h0
    · have hpos : 0 < zs.length := List.length_pos_iff.2 h0
      obtain ⟨v', w', hrun, r1, r2⟩ := run_append_arg_grows (P := P) w t ty e i (.int k 0) 1 bytes ht i1 i2 i3 i4 rfl (by decide) ⟨g, 0, none⟩ 0 0 [] rfl (fun j u hj => by simp at hj) ⟨b, off, none⟩ zs.length c (zs.map (Value.int k)) (by simp) (fun j u hj => by
        have := hc j u hj
        simp only [Addr.add]
        split
        · rename_i h0; rw [h0] at this; exact this
        · simpa using this) (by simpa using hpos) (by unfold maxLen; omega) (by have := Nat.mul_le_mul hlen hby; rw [Nat.zero_add]; omega)
      have ho : OwnI w' w.heap.size e k v' zs := by
        unfold OwnI
        simpa using r1
      obtain ⟨A', c', rfl, h2, h3, _⟩ := ho.form
      exact ⟨A', c', w', hrun, h3, h2, (Below.refl _ _).grown r2 (Nat.le_refl _) (fun _ h => by cases h)⟩

theorem step_copyI {P : Program} {ops : Array Oper} {o : Oper} {a : Act} {w : World} {K : Act → World → Prop} {Q : Exit → Act → World → Prop} {E : Prop}
    (hg : o.guard = none) (s x : Operand) (t : TypeId) (hop : o.op = Op.call { callee := Callee.builtin Builtin.append, args := #[s, x], argTypes := #[t, t] })
    (e : TypeId) (k : IntKind) (bytes : Nat) (ht : P.underlying t = some (.slice e)) (hi : (P.info? e).map (fun i => (i.zero, i.size, i.bytes)) = some (some (.int k 0), 1, bytes)) (hby : bytes ≤ 8)
    (g : Nat) (hs : a.eval s = .slice (some ⟨g, 0, none⟩) 0 0) (A : Option Addr) (m c : Nat) (hx : a.eval x = .slice A m c) (zs : List Int) (hr : RdI k w A zs) (hm : m = zs.length) (hlen : m ≤ 1000000000)
    (hK : ∀ A' c' w', RdI k w' A' zs → m ≤ c' → Below w.heap.size w w' → K (a.put o.dst (.slice A' m c')) w') :
    if Region.wanted o (yielded ops a.tmps) = true then Oper.wp P o a w K Q else E := by
  have hw : Region.wanted o (yielded ops a.tmps) = true := by simp [Region.wanted, hg]
  rw [if_pos hw]
  obtain ⟨A', c', w', hrun, r1, r2, r3⟩ := run_copy (P := P) w t o.type e k bytes ht hi hby g A m c zs hr hm hlen
  unfold Oper.wp
  simp [execOp, hop, resolve, invoke, builtin, hs, hx, hrun, Result.andThen]
  exact hK A' c' w' r1 r2 r3

theorem wpList_copyI {P : Program} (w : World) {ops : Array Oper} {rest : List Oper} {o : Oper} {a : Act} {Q : Exit → Act → World → Prop}
    (hg : o.guard = none) (s x : Operand) (t : TypeId) (hop : o.op = Op.call { callee := Callee.builtin Builtin.append, args := #[s, x], argTypes := #[t, t] })
    (e : TypeId) (k : IntKind) (bytes : Nat) (ht : P.underlying t = some (.slice e)) (hi : (P.info? e).map (fun i => (i.zero, i.size, i.bytes)) = some (some (.int k 0), 1, bytes)) (hby : bytes ≤ 8)
    (g : Nat) (hs : a.eval s = .slice (some ⟨g, 0, none⟩) 0 0) (A : Option Addr) (m c : Nat) (hx : a.eval x = .slice A m c) (zs : List Int) (hr : RdI k w A zs) (hm : m = zs.length) (hlen : m ≤ 1000000000)
    (hK : ∀ A' c' w', RdI k w' A' zs → m ≤ c' → Below w.heap.size w w' → wpList P ops Q rest (a.put o.dst (.slice A' m c')) w') :
    wpList P ops Q (o :: rest) a w := by
  refine wpList_plain hg fun K hK' => ?_
  obtain ⟨A', c', w', hrun, r1, r2, r3⟩ := run_copy (P := P) w t o.type e k bytes ht hi hby g A m c zs hr hm hlen
  unfold Oper.wp
  simp [execOp, hop, resolve, invoke, builtin, hs, hx, hrun, Result.andThen]
  exact hK' _ _ (hK A' c' w' r1 r2 r3)
end Go.Proofs.YtfcpmcdlgkfolaaDoor.Big

namespace Go.Proofs.YtfcpmcdlgkfolaaDoor.Big
open Go.RowKit

theorem trim_take {ds : List Int} {k : Nat} (hk : k ≤ ds.length) (h : k = 0 ∨ ∃ hl : k - 1 < ds.length, ds[k - 1] ≠ 0) : Trim (ds.take k) := by
  intro hp
  rw [List.length_take, Nat.min_eq_left hk] at hp
  rcases h with rfl | ⟨hl, h⟩
  · omega
  · simp only [List.length_take, Nat.min_eq_left hk, List.getElem_take]
    exact h

theorem trim_done {w : World} {b o : Nat} {neg : Bool} {ds : List Int} {A : Option Addr} {c k : Nat} (h : RawAt w b o neg ds) (h1 : w.cell? ⟨b, o + 1, none⟩ = some (.slice A ds.length c)) (hc : ds.length ≤ c) (hr : RdI .u32 w A ds) (hk : k ≤ ds.length)
    (hz : ∀ j, k ≤ j → ∀ hj : j < ds.length, ds[j] = 0) (h0 : 0 < k) (hl : k - 1 < ds.length) (hne : ds[k - 1] ≠ 0) :
    IntAt (w.setCell ⟨b, o + 1, none⟩ (.slice A k c)) b o (sg neg (dval ds)) ∧ Upd w (w.setCell ⟨b, o + 1, none⟩ (.slice A k c)) b o 2 := by
  have hlt : (ds.take k).length = k := by rw [List.length_take, Nat.min_eq_left hk]
  have hrt : RdI .u32 w A (ds.take k) := by
    rcases hr with h2 | ⟨g, off, hA, hcell⟩
    · simp at h2; subst h2; simp at hl
    · refine .inr ⟨g, off, hA, fun j u hj => hcell j u ?_⟩
      rw [List.map_take, List.getElem?_take] at hj
      split at hj
      · exact hj
      · cases hj
  obtain ⟨r1, r2⟩ := raw_storeD (m := k) (c := c) h hlt.symm (by omega) hrt (h.dig.take k)
  refine ⟨⟨neg, ds.take k, r1, trim_take hk (.inr ⟨hl, hne⟩), fun _ he => ?_, ?_⟩, r2⟩
  · rw [he] at hlt; simp at hlt; omega
  · rw [dval_take_zero hk hz]

theorem trim_none {w : World} {b o : Nat} {neg : Bool} {ds : List Int} {A : Option Addr} {c : Nat} (h : RawAt w b o neg ds) (hz : ∀ j, 0 ≤ j → ∀ hj : j < ds.length, ds[j] = 0) :
    IntAt ((w.setCell ⟨b, o + 1, none⟩ (.slice A 0 c)).setCell ⟨b, o, none⟩ (.bool false)) b o (sg neg (dval ds)) ∧ Upd w ((w.setCell ⟨b, o + 1, none⟩ (.slice A 0 c)).setCell ⟨b, o, none⟩ (.bool false)) b o 2 := by
  obtain ⟨r1, r2⟩ := raw_storeD (m := 0) (c := c) (ds := []) (A := A) h rfl (by omega) (.inl rfl) Dig.nil
  obtain ⟨r3, r4⟩ := raw_storeN (neg' := false) r1
  refine ⟨⟨false, [], r3, Trim.nil, (fun h => by cases h), ?_⟩, r2.trans r4⟩
  have := dval_take_zero (l := ds) (k := 0) (by omega) hz
  rw [List.take_zero] at this
  rw [← this]
  cases neg <;> rfl

set_option maxHeartbeats 1000000 in
theorem trim_any (b o : Nat) (neg : Bool) (ds : List Int) (w : World) (h : RawAt w b o neg ds) (hm : ds.length ≤ 140737488355328) :
    Calls Tryd.prog 125 #[.pointer (some ⟨b, o, none⟩)] w fun e w' => e = .returned (.pointer (some ⟨b, o, none⟩)) ∧ IntAt w' b o (sg neg (dval ds)) ∧ Upd w w' b o 2 := by
  obtain ⟨A, c, h0, h1, hc, hr⟩ := h.ex
  have f0 := h.fr0
  have f1 := h.fr1
  obtain ⟨n, Hn⟩ : ∃ n, Hid (ds.length = n) := ⟨_, Lib.hid rfl⟩
  have H := Lib.hid h; clear h
  have Hr := Lib.hid hr; clear hr
  rw [Hn.out] at h1 hc hm
  go_enter Tryd.func125, Tryd.ntmps125
  go_wp2_with fail
  go_loop [3] (fun i => ∃ k : Nat, k ≤ n ∧ i = .int .i64 k ∧ ∀ j, k ≤ j → ∀ hj : j < ds.length, ds[j] = 0) (fun i => (intOf i).toNat)
  case atStart => exact ⟨n, Nat.le_refl _, rfl, fun j hj hl => by have := Hn.out; omega⟩
  case round =>
    obtain ⟨k, hk, rfl, hz⟩ := hrel
    have Hz := Lib.hid hz; clear hz
    match k with
    | 0 =>
      have HP := Lib.hid (trim_none (A := A) (c := c) H.out Hz.out)
      go_wp2_with fail
      go_ret
      exact ⟨rfl, HP.out.1, HP.out.2⟩
    | k + 1 =>
      have hl : k < ds.length := by have := Hn.out; omega
      obtain ⟨bd, off, rfl, hcell⟩ := Hr.out.at_ hl
      have hd := H.out.dig.get hl
      by_cases hx : ds[k] = 0
      · rw [hx] at hcell
        have hx' := Lib.hid hx; clear hx hd
        go_wp2_with fail
        go_round
        case rel => exact ⟨k, by omega, by go_num, fun j hj hl' => by
          by_cases e : j = k
          · subst e; exact hx'.out
          · exact Hz.out j (by omega) hl'⟩
        case measure => first | (simp [intOf]; done) | (simp [intOf]; omega)
      · have HP := Lib.hid (trim_done (c := c) (k := k + 1) H.out (by rw [Hn.out]; exact h1) (by rw [Hn.out]; exact hc) Hr.out (by omega) Hz.out (by omega) hl hx)
        obtain ⟨x, Hx⟩ : ∃ x, Hid (ds[k] = x) := ⟨_, Lib.hid rfl⟩
        rw [Hx.out] at hcell hx
        have hx0 : (x == 0) = false := by simpa using hx
        clear hx hd
        go_wp2_with fail
        go_ret
        exact ⟨rfl, HP.out.1, HP.out.2⟩

/-- A store of sign and digits, the digits in a new block that is laid last. -/
theorem raw_alloc {w : World} {b o : Nat} {neg0 neg : Bool} {ds0 ds : List Int} {t : TypeId} {m : Nat} (h0 : RawAt w b o neg0 ds0) (hm : m = ds.length) (hd : Dig ds) :
    RawAt (((w.setCell ⟨b, o, none⟩ (.bool neg)).setCell ⟨b, o + 1, none⟩ (.slice (some ⟨w.heap.size, 0, none⟩) m m)).alloc (.cells (ds.map (Value.int .u32)).toArray t)) b o neg ds ∧
      Upd w (((w.setCell ⟨b, o, none⟩ (.bool neg)).setCell ⟨b, o + 1, none⟩ (.slice (some ⟨w.heap.size, 0, none⟩) m m)).alloc (.cells (ds.map (Value.int .u32)).toArray t)) b o 2 := by
  subst hm
  obtain ⟨A0, c0, h1, h2, _⟩ := h0.ex
  have hl := h0.lt
  have hu : Upd w ((w.setCell ⟨b, o, none⟩ (.bool neg)).setCell ⟨b, o + 1, none⟩ (.slice (some ⟨w.heap.size, 0, none⟩) ds.length ds.length)) b o 2 := ((Upd.refl w b o 2).setCell (by omega) (by omega) _).setCell (by omega) (by omega) _
  have hs : ((w.setCell ⟨b, o, none⟩ (.bool neg)).setCell ⟨b, o + 1, none⟩ (.slice (some ⟨w.heap.size, 0, none⟩) ds.length ds.length)).heap.size = w.heap.size := by simp [World.setCell]
  refine ⟨⟨⟨some ⟨w.heap.size, 0, none⟩, ds.length, ?_, ?_, Nat.le_refl _, .inr ⟨w.heap.size, 0, rfl, fun j u hj => ?_⟩⟩, hd, ?_, ?_⟩, hu.alloc _⟩
  · rw [World.cell?_alloc_past (hn := by rw [hs]; exact hl), World.cell?_setCell_other _ _ _ _ (by simp), World.cell?_setCell_same _ _ _ h1]
  · rw [World.cell?_alloc_past (hn := by rw [hs]; exact hl)]
    exact World.cell?_setCell_same _ _ _ ((World.cell?_setCell_other _ _ _ _ (by simp)).trans h2)
  · rw [World.cell?_alloc_at (hn := hs.symm), Nat.zero_add]
    simpa using hj
  · rw [World.frozen?_alloc_past (hn := by rw [hs]; exact hl), World.frozen?_setCell, World.frozen?_setCell, h0.fr0]
  · rw [World.frozen?_alloc_past (hn := by rw [hs]; exact hl), World.frozen?_setCell, World.frozen?_setCell, h0.fr1]

theorem two_dig (n : Int) (h0 : 0 ≤ n) (h1 : n ≤ 18446744073709551615) : Dig [n % 4294967296, n / 4294967296] ∧ dval [n % 4294967296, n / 4294967296] = n := by
  constructor
  · intro x hx
    simp only [List.mem_cons, List.not_mem_nil, or_false] at hx
    rcases hx with rfl | rfl <;> omega
  · simp only [dval]
    omega

set_option maxHeartbeats 1000000 in
theorem setu_raw (b o : Nat) (neg : Bool) (ds : List Int) (n : Int) (h0 : 0 ≤ n) (h1 : n ≤ 18446744073709551615) (w : World) (h : RawAt w b o neg ds) :
    Calls Tryd.prog 145 #[.pointer (some ⟨b, o, none⟩), .int .u64 n] w fun e w' => e = .returned (.pointer (some ⟨b, o, none⟩)) ∧ IntAt w' b o n ∧ Upd w w' b o 2 := by
  obtain ⟨A, c, c0, c1, hc, hr⟩ := h.ex
  have f0 := h.fr0
  have f1 := h.fr1
  have hbl := h.lt
  obtain ⟨d1, d2⟩ := two_dig n h0 h1
  obtain ⟨r1, r2⟩ := raw_alloc (neg := false) (m := 2) (t := 200) h rfl d1
  have HT := Lib.hid (trim_any b o _ _ _ r1 (by simp))
  rw [d2] at HT
  have R2 := Lib.hid r2
  clear hc hr d1 d2 r1 r2 h
  go_enter Tryd.func145, Tryd.ntmps145
  go_wp2_with fail
  refine HT.out.mono ?_
  rintro e w1 ⟨rfl, hi, hu⟩
  have HI := Lib.hid hi
  have HU := Lib.hid (R2.out.trans hu)
  clear hi hu R2
  go_wp2_with fail
  go_ret
  exact ⟨rfl, HI.out, HU.out⟩
theorem setu_any (b o : Nat) (z n : Int) (h0 : 0 ≤ n) (h1 : n ≤ 18446744073709551615) (w : World) (h : IntAt w b o z) :
    Calls Tryd.prog 145 #[.pointer (some ⟨b, o, none⟩), .int .u64 n] w fun e w' => e = .returned (.pointer (some ⟨b, o, none⟩)) ∧ IntAt w' b o n ∧ Upd w w' b o 2 := by
  obtain ⟨neg, ds, h2, _⟩ := h.ex
  exact setu_raw b o neg ds n h0 h1 w h2

/-- A new number is nought. -/
theorem new_int (w : World) : IntAt (w.alloc (.cells #[.bool false, .slice none 0 0] 181)) w.heap.size 0 0 := by
  refine ⟨false, [], ⟨⟨none, 0, ?_, ?_, Nat.le_refl _, .inl rfl⟩, Dig.nil, ?_, ?_⟩, Trim.nil, (fun h => by cases h), rfl⟩
  all_goals simp

/-- A number's sign is turned: of a number that is not nought. -/
theorem neg_store {w : World} {b o : Nat} {n : Int} (h : IntAt w b o n) (hn : 0 < n) : IntAt (w.setCell ⟨b, o, none⟩ (.bool true)) b o (-n) ∧ Upd w (w.setCell ⟨b, o, none⟩ (.bool true)) b o 2 := by
  obtain ⟨neg, ds, h1, h2, h3, h4⟩ := h.ex
  obtain ⟨r1, r2⟩ := raw_storeN (neg' := true) h1
  have hd := dval_nonneg h1.dig
  refine ⟨⟨true, ds, r1, h2, fun _ => ?_, ?_⟩, r2⟩
  · rintro rfl
    have e : dval [] = 0 := rfl
    rw [e] at h4
    cases neg <;> simp [sg] at h4 <;> omega
  · cases neg <;> simp only [sg, if_true, Bool.false_eq_true, if_false] at h4 ⊢ <;> omega

theorem wrap_neg {n : Int} (h0 : -9223372036854775808 ≤ n) (h1 : n < 0) : IntKind.u64.wrap (-IntKind.u64.wrap n) = -n := by
  simp [IntKind.wrap, IntKind.signed, IntKind.bits]
  omega

set_option maxHeartbeats 1000000 in
theorem seti_any (b o : Nat) (z n : Int) (h0 : -9223372036854775808 ≤ n) (h1 : n ≤ 9223372036854775807) (w : World) (h : IntAt w b o z) :
    Calls Tryd.prog 126 #[.pointer (some ⟨b, o, none⟩), .int .i64 n] w fun e w' => e = .returned (.pointer (some ⟨b, o, none⟩)) ∧ IntAt w' b o n ∧ Upd w w' b o 2 := by
  by_cases hn : n < 0
  · have HT := Lib.hid (setu_any b o z (-n) (by omega) (by omega) w h)
    have HW := Lib.hid (wrap_neg h0 hn)
    clear h
    go_enter Tryd.func126, Tryd.ntmps126
    go_wp2_with fail
    rw [HW.out]
    refine HT.out.mono ?_
    rintro e w1 ⟨rfl, hi, hu⟩
    obtain ⟨neg, A, m, c, c0, c1, f0, f1⟩ := hi.cells
    have HP := Lib.hid (neg_store hi (by omega))
    have HU := Lib.hid hu
    clear hi hu HT HW
    go_wp2_with fail
    go_ret
    exact ⟨rfl, by have := HP.out.1; rwa [Int.neg_neg] at this, HU.out.trans HP.out.2⟩
  · have HT := Lib.hid (setu_any b o z n (by omega) (by omega) w h)
    clear h
    go_enter Tryd.func126, Tryd.ntmps126
    go_wp2_with fail
    refine HT.out.mono ?_
    rintro e w1 ⟨rfl, hi, hu⟩
    have HI := Lib.hid hi
    have HU := Lib.hid hu
    clear hi hu HT
    go_wp2_with fail
    go_ret
    exact ⟨rfl, HI.out, HU.out⟩

set_option maxHeartbeats 1000000 in
theorem newint_any (n : Int) (h0 : -9223372036854775808 ≤ n) (h1 : n ≤ 9223372036854775807) (w : World) :
    Calls Tryd.prog 99 #[.int .i64 n] w fun e w' => ∃ b, e = .returned (.pointer (some ⟨b, 0, none⟩)) ∧ IntAt w' b 0 n ∧ w.heap.size ≤ b ∧ Below w.heap.size w w' := by
  have hi := new_int w
  have HT := Lib.hid (seti_any w.heap.size 0 0 n h0 h1 _ hi)
  have HB : Hid (Below w.heap.size w (w.alloc (.cells #[.bool false, .slice none 0 0] 181))) := Lib.hid ((Below.refl _ _).alloc (Nat.le_refl _) _)
  clear hi h0 h1
  go_enter Tryd.func99, Tryd.ntmps99
  go_wp2_with fail
  refine HT.out.mono ?_
  rintro e w1 ⟨rfl, hi, hu⟩
  have HI := Lib.hid hi
  have HU := Lib.hid (HB.out.trans (hu.below (B := w.heap.size) (Nat.le_refl _) (by simp)))
  clear hi hu HT HB
  go_wp2_with fail
  go_ret
  exact ⟨_, rfl, HI.out, Nat.le_refl _, HU.out⟩
end Go.Proofs.YtfcpmcdlgkfolaaDoor.Big

namespace Go.Proofs.YtfcpmcdlgkfolaaDoor.Big
open Go.RowKit

theorem infoD : (Tryd.prog.info? 200).map (fun i => (i.zero, i.size, i.bytes)) = some (some (.int .u32 0), 1, 4) := by kernel_rfl







/-- The sign of a number with digits. -/
theorem sg_neg {neg : Bool} {ds : List Int} : sg (!neg && decide (0 < ds.length)) (dval ds) = -sg neg (dval ds) := by
  by_cases h : ds = []
  · subst h; cases neg <;> rfl
  · have : 0 < ds.length := List.length_pos_iff.2 h
    cases neg <;> simp [sg, this]



end Go.Proofs.YtfcpmcdlgkfolaaDoor.Big

namespace Go.Proofs.YtfcpmcdlgkfolaaDoor.Big
open Go.RowKit

def cmp (a b : Int) : Int := if a < b then -1 else if b < a then 1 else 0

theorem lt_len {x y : List Int} (hx : Dig x) (hy : Dig y) (ty : Trim y) (h : x.length < y.length) : dval x < dval y := by
  have h1 := dval_lt hx
  have h2 := ty.low hy (by rintro rfl; simp at h)
  have h3 := pw_mono (show x.length ≤ y.length - 1 by omega)
  omega
theorem lt_dig {x y : List Int} (hx : Dig x) (hy : Dig y) {k : Nat} (h1 : k < x.length) (h2 : k < y.length) (hd : x.drop (k + 1) = y.drop (k + 1)) (h : x[k] < y[k]) : dval x < dval y := by
  rw [dval_split x (k := k + 1) (by omega), dval_split y (k := k + 1) (by omega), dval_take_succ h1, dval_take_succ h2, hd]
  have a1 := dval_lt (hx.take k)
  have a2 := dval_nonneg (hy.take k)
  rw [List.length_take, Nat.min_eq_left (by omega)] at a1
  have := Int.mul_le_mul_of_nonneg_left (show x[k] + 1 ≤ y[k] by omega) (show 0 ≤ pw k by have := pw_pos k; omega)
  rw [Int.mul_add] at this
  omega
theorem drop_step {x y : List Int} {k : Nat} (h1 : k < x.length) (h2 : k < y.length) (hd : x.drop (k + 1) = y.drop (k + 1)) (h : x[k] = y[k]) : x.drop k = y.drop k := by
  rw [List.drop_eq_getElem_cons h1, List.drop_eq_getElem_cons h2, hd, h]

set_option maxHeartbeats 2000000 in
theorem cmpabs_raw (b o b' o' : Nat) (neg neg' : Bool) (x y : List Int) (w : World) (h : RawAt w b o neg x) (h' : RawAt w b' o' neg' y) (tx : Trim x) (ty : Trim y) (lx : x.length ≤ 1000) (ly : y.length ≤ 1000) :
    Calls Tryd.prog 128 #[.pointer (some ⟨b, o, none⟩), .pointer (some ⟨b', o', none⟩)] w fun e w' => e = .returned (.int .i64 (cmp (dval x) (dval y))) ∧ ∃ q, w' = w.drewN q := by
  obtain ⟨A, c, c0, c1, hc, hr⟩ := h.ex
  obtain ⟨A', c', c0', c1', hc', hr'⟩ := h'.ex
  have Hx := Lib.hid h.dig
  have Hy := Lib.hid h'.dig
  obtain ⟨n, Hn⟩ : ∃ n, Hid (x.length = n) := ⟨_, Lib.hid rfl⟩
  obtain ⟨m, Hm⟩ : ∃ m, Hid (y.length = m) := ⟨_, Lib.hid rfl⟩
  rw [Hn.out] at c1 hc lx
  rw [Hm.out] at c1' hc' ly
  by_cases hl : n < m
  · have HC : Hid (cmp (dval x) (dval y) = -1) := Lib.hid (by
      have := lt_len Hx.out Hy.out ty (by rw [Hn.out, Hm.out]; exact hl)
      rw [cmp, if_pos this])
    have hne : ((n : Int) == (m : Int)) = false := by simp; omega
    clear h h' hr hr' tx ty Hn Hm
    go_enter Tryd.func128, Tryd.ntmps128
    go_wp2_with fail
    go_quiet (fail)
    go_wp2_with fail
    go_quiet (fail)
    go_wp2_with fail
    go_ret
    exact ⟨ret_int HC.out.symm, (by first | exact ⟨_, rfl⟩ | (simp only [World.drewN_drewN]; exact ⟨_, rfl⟩))⟩
  by_cases hl2 : m < n
  · have HC : Hid (cmp (dval x) (dval y) = 1) := Lib.hid (by
      have := lt_len Hy.out Hx.out tx (by rw [Hn.out, Hm.out]; exact hl2)
      rw [cmp, if_neg (by omega), if_pos this])
    clear h h' hr hr' tx ty Hn Hm
    go_enter Tryd.func128, Tryd.ntmps128
    go_wp2_with fail
    go_quiet (fail)
    go_wp2_with fail
    go_quiet (fail)
    go_wp2_with fail
    go_ret
    exact ⟨ret_int HC.out.symm, (by first | exact ⟨_, rfl⟩ | (simp only [World.drewN_drewN]; exact ⟨_, rfl⟩))⟩
  obtain rfl : n = m := by omega
  clear h h' tx ty hl hl2
  have Hr := Lib.hid hr
  have Hr' := Lib.hid hr'
  clear hr hr'
  go_enter Tryd.func128, Tryd.ntmps128
  go_wp2_with fail
  go_quiet (fail)
  go_wp2_with fail
  go_loopw [5] (fun i W => ∃ k : Nat, k ≤ n ∧ i = .int .i64 ((k : Int) - 1) ∧ x.drop k = y.drop k ∧ ∃ q, W = w.drewN q) (fun i _ => (intOf i + 1).toNat)
  case atStart => exact ⟨n, Nat.le_refl _, rfl, by rw [List.drop_eq_nil_of_le (by have := Hn.out; omega), List.drop_eq_nil_of_le (by have := Hm.out; omega)], _, rfl⟩
  case round =>
    obtain ⟨k, hk, rfl, hd, q, rfl⟩ := hrel
    have Hd := Lib.hid hd; clear hd
    match k with
    | 0 =>
      have HC : Hid (cmp (dval x) (dval y) = 0) := Lib.hid (by
        have := Hd.out
        rw [List.drop_zero, List.drop_zero] at this
        rw [this, cmp, if_neg (by omega), if_neg (by omega)])
      simp only [Int.ofNat_zero, Int.zero_sub]
      go_wp2_with fail
      go_ret
      exact ⟨ret_int HC.out.symm, (by first | exact ⟨_, rfl⟩ | (simp only [World.drewN_drewN]; exact ⟨_, rfl⟩))⟩
    | k + 1 =>
      have l1 : k < x.length := by have := Hn.out; omega
      have l2 : k < y.length := by have := Hm.out; omega
      obtain ⟨g, off, rfl, hcell⟩ := Hr.out.at_ l1
      obtain ⟨g', off', rfl, hcell'⟩ := Hr'.out.at_ l2
      simp only [show ((k + 1 : Nat) : Int) - 1 = (k : Int) from by omega]
      by_cases he : x[k] = y[k]
      · have HE := Lib.hid (drop_step l1 l2 Hd.out he)
        rw [← he] at hcell'
        generalize x[k] = u at hcell hcell'
        clear he
        go_wp2_with fail
        go_quiet (fail)
        go_wp2_with fail
        go_roundw
        case rel => exact ⟨k, by omega, rfl, HE.out, _, rfl⟩
        case measure => first | (simp [intOf]; done) | (simp [intOf]; omega)
      · by_cases hlt : x[k] < y[k]
        · have HC : Hid (cmp (dval x) (dval y) = -1) := Lib.hid (by
            have := lt_dig Hx.out Hy.out l1 l2 Hd.out hlt
            rw [cmp, if_pos this])
          have hne : (x[k] == y[k]) = false := by simpa using he
          generalize x[k] = u at hcell hlt hne
          generalize y[k] = v at hcell' hlt hne
          clear he
          go_wp2_with fail
          go_quiet (fail)
          go_wp2_with fail
          go_quiet (fail)
          go_wp2_with fail
          go_ret
          exact ⟨ret_int HC.out.symm, (by first | exact ⟨_, rfl⟩ | (simp only [World.drewN_drewN]; exact ⟨_, rfl⟩))⟩
        · have HC : Hid (cmp (dval x) (dval y) = 1) := Lib.hid (by
            have := lt_dig Hy.out Hx.out l2 l1 Hd.out.symm (by omega)
            rw [cmp, if_neg (by omega), if_pos this])
          have hne : (x[k] == y[k]) = false := by simpa using he
          generalize x[k] = u at hcell hlt hne
          generalize y[k] = v at hcell' hlt hne
          clear he
          go_wp2_with fail
          go_quiet (fail)
          go_wp2_with fail
          go_quiet (fail)
          go_wp2_with fail
          go_ret
          exact ⟨ret_int HC.out.symm, (by first | exact ⟨_, rfl⟩ | (simp only [World.drewN_drewN]; exact ⟨_, rfl⟩))⟩

theorem sg_abs {neg : Bool} {ds : List Int} (hd : Dig ds) : ((sg neg (dval ds)).natAbs : Int) = dval ds := by
  have := dval_nonneg hd
  cases neg <;> simp only [sg, if_true, Bool.false_eq_true, if_false] <;> omega

theorem cmpabs_any (b o b' o' : Nat) (x y : Int) (w : World) (h : IntAt w b o x) (h' : IntAt w b' o' y) (hx : Sm x) (hy : Sm y) :
    Calls Tryd.prog 128 #[.pointer (some ⟨b, o, none⟩), .pointer (some ⟨b', o', none⟩)] w fun e w' => e = .returned (.int .i64 (cmp x.natAbs y.natAbs)) ∧ ∃ q, w' = w.drewN q := by
  obtain ⟨neg, ds, h1, h2, h3, rfl⟩ := h.ex
  obtain ⟨neg', ds', h1', h2', h3', rfl⟩ := h'.ex
  rw [sg_abs h1.dig, sg_abs h1'.dig]
  exact cmpabs_raw b o b' o' neg neg' ds ds' w h1 h1' h2 h2' (hx.len h2 h1.dig) (hy.len h2' h1'.dig)

set_option maxHeartbeats 2000000 in
theorem cmp_any (b o b' o' : Nat) (x y : Int) (w : World) (h : IntAt w b o x) (h' : IntAt w b' o' y) (hx : Sm x) (hy : Sm y) :
    Calls Tryd.prog 101 #[.pointer (some ⟨b, o, none⟩), .pointer (some ⟨b', o', none⟩)] w fun e w' => e = .returned (.int .i64 (cmp x y)) ∧ ∃ q, w' = w.drewN q := by
  have H1 : Hid (∀ q, Calls Tryd.prog 128 #[.pointer (some ⟨b, o, none⟩), .pointer (some ⟨b', o', none⟩)] (w.drewN q) fun e w' => e = .returned (.int .i64 (cmp x.natAbs y.natAbs)) ∧ ∃ q', w' = (w.drewN q).drewN q') := Lib.hid fun q => cmpabs_any b o b' o' x y _ (h.below (below_drewN (Below.refl _ _) q)) (h'.below (below_drewN (Below.refl _ _) q)) hx hy
  have H2 : Hid (∀ q, Calls Tryd.prog 128 #[.pointer (some ⟨b', o', none⟩), .pointer (some ⟨b, o, none⟩)] (w.drewN q) fun e w' => e = .returned (.int .i64 (cmp y.natAbs x.natAbs)) ∧ ∃ q', w' = (w.drewN q).drewN q') := Lib.hid fun q => cmpabs_any b' o' b o y x _ (h'.below (below_drewN (Below.refl _ _) q)) (h.below (below_drewN (Below.refl _ _) q)) hy hx
  obtain ⟨neg, ds, h1, h2, h3, h4⟩ := h.ex
  obtain ⟨neg', ds', h1', h2', h3', h4'⟩ := h'.ex
  obtain ⟨A, c, c0, c1, hc, hr⟩ := h1.ex
  obtain ⟨A', c', c0', c1', hc', hr'⟩ := h1'.ex
  have d0 := dval_nonneg h1.dig
  have d0' := dval_nonneg h1'.dig
  have p0 := h2.pos h1.dig
  have p0' := h2'.pos h1'.dig
  have HC : Hid (cmp x y = if neg != neg' then (if neg then -1 else 1) else if neg then cmp y.natAbs x.natAbs else cmp x.natAbs y.natAbs) := Lib.hid (by
    cases neg <;> cases neg' <;> simp only [sg, if_true, Bool.false_eq_true, if_false, bne_self_eq_false, Bool.true_bne, Bool.false_bne, Bool.not_false] at h4 h4' ⊢
    · simp only [cmp]; repeat' split
      all_goals omega
    · have := p0'.2 (h3' rfl); simp only [cmp]; repeat' split
      all_goals omega
    · have := p0.2 (h3 rfl); simp only [cmp]; repeat' split
      all_goals omega
    · simp only [cmp]; repeat' split
      all_goals omega)
  clear h h' hx hy h1 h1' h2 h2' h3 h3' h4 h4' hr hr' d0 d0' p0 p0' hc hc'
  cases neg <;> cases neg'
  · go_enter Tryd.func101, Tryd.ntmps101
    go_wp2_with fail
    go_quiet (fail)
    go_wp2_with fail
    refine (H1.out _).mono ?_
    rintro e w1 ⟨rfl, q, rfl⟩
    go_wp2_with fail
    go_ret
    exact ⟨ret_int HC.out.symm, (by first | exact ⟨_, rfl⟩ | (simp only [World.drewN_drewN]; exact ⟨_, rfl⟩))⟩
  · go_enter Tryd.func101, Tryd.ntmps101
    go_wp2_with fail
    go_quiet (fail)
    go_wp2_with fail
    go_ret
    exact ⟨ret_int HC.out.symm, (by first | exact ⟨_, rfl⟩ | (simp only [World.drewN_drewN]; exact ⟨_, rfl⟩))⟩
  · go_enter Tryd.func101, Tryd.ntmps101
    go_wp2_with fail
    go_quiet (fail)
    go_wp2_with fail
    go_ret
    exact ⟨ret_int HC.out.symm, (by first | exact ⟨_, rfl⟩ | (simp only [World.drewN_drewN]; exact ⟨_, rfl⟩))⟩
  · go_enter Tryd.func101, Tryd.ntmps101
    go_wp2_with fail
    go_quiet (fail)
    go_wp2_with fail
    refine (H2.out _).mono ?_
    rintro e w1 ⟨rfl, q, rfl⟩
    go_wp2_with fail
    go_ret
    exact ⟨ret_int HC.out.symm, (by first | exact ⟨_, rfl⟩ | (simp only [World.drewN_drewN]; exact ⟨_, rfl⟩))⟩
end Go.Proofs.YtfcpmcdlgkfolaaDoor.Big

namespace Go.Proofs.YtfcpmcdlgkfolaaDoor.Big
open Go.RowKit

theorem or_dig {v x : Int} (h0 : 0 ≤ v) (h1 : v < 4294967296) (h2 : 0 ≤ x) (h3 : x < 4294967296) : bits .or .u64 (v * 4294967296) x = x + 4294967296 * v := by
  rw [u64_or _ _ (by omega) (by omega) h2 (by omega)]
  obtain ⟨a, rfl⟩ := Int.eq_ofNat_of_zero_le h0
  obtain ⟨b, rfl⟩ := Int.eq_ofNat_of_zero_le h2
  have h4 : ((a : Int) * 4294967296).toNat = a <<< 32 := by rw [Nat.shiftLeft_eq]; omega
  rw [h4, Int.toNat_natCast, ← Nat.shiftLeft_add_eq_or_of_lt (by omega), Nat.shiftLeft_eq]
  omega

set_option maxHeartbeats 2000000 in
theorem uint_raw (b o : Nat) (neg : Bool) (ds : List Int) (w : World) (h : RawAt w b o neg ds) (hl : ds.length ≤ 2) :
    Calls Tryd.prog 130 #[.pointer (some ⟨b, o, none⟩)] w fun e w' => e = .returned (.int .u64 (dval ds)) ∧ w = w' := by
  obtain ⟨A, c, c0, c1, hc, hr⟩ := h.ex
  have Hd := Lib.hid h.dig
  obtain ⟨n, Hn⟩ : ∃ n, Hid (ds.length = n) := ⟨_, Lib.hid rfl⟩
  rw [Hn.out] at c1 hc hl
  have Hr := Lib.hid hr
  clear h hr
  go_enter Tryd.func130, Tryd.ntmps130
  go_wp2_with fail
  go_loop [3, 4] (fun v i => ∃ k : Nat, k ≤ n ∧ i = .int .i64 ((k : Int) - 1) ∧ v = .int .u64 (dval (ds.drop k))) (fun _ i => (intOf i + 1).toNat)
  case atStart => exact ⟨n, by omega, by simp [go_sem] <;> omega, by rw [List.drop_eq_nil_of_le (by have := Hn.out; omega)]; rfl⟩
  case round =>
    obtain ⟨k, hk, rfl, rfl⟩ := hrel
    match k with
    | 0 =>
      simp only [Int.ofNat_zero, Int.zero_sub, List.drop_zero]
      go_wp2_with fail
      go_ret
      exact ⟨rfl, rfl⟩
    | k + 1 =>
      have l1 : k < ds.length := by have := Hn.out; omega
      obtain ⟨g, off, rfl, hcell⟩ := Hr.out.at_ l1
      obtain ⟨v, Hv⟩ : ∃ v, Hid (dval (ds.drop (k + 1)) = v) := ⟨_, Lib.hid rfl⟩
      have hv0 : 0 ≤ v := by rw [← Hv.out]; exact dval_nonneg (Hd.out.drop _)
      obtain ⟨hx0, hx1⟩ := Hd.out.get l1
      have hv1 : v < 4294967296 := by
        have h1 := dval_lt (Hd.out.drop (k + 1))
        rw [Hv.out, List.length_drop] at h1
        have h2 := pw_mono (show ds.length - (k + 1) ≤ 1 by have := Hn.out; omega)
        have h3 : pw 1 = 4294967296 := rfl
        omega
      have HS : Hid (dval (ds.drop k) = ds[k] + 4294967296 * v) := Lib.hid (by rw [List.drop_eq_getElem_cons l1, dval, Hv.out])
      have HO := Lib.hid (or_dig hv0 hv1 hx0 hx1)
      rw [Hv.out]
      simp only [show ((k + 1 : Nat) : Int) - 1 = (k : Int) from by omega]
      go_wp2_with fail
      go_round
      case rel => exact ⟨k, by omega, rfl, val_int (by rw [HS.out, ← HO.out])⟩
      case measure => first | (simp [intOf]; done) | (simp [intOf]; omega)

theorem len2 {neg : Bool} {ds : List Int} (h0 : -18446744073709551616 < sg neg (dval ds)) (h1 : sg neg (dval ds) < 18446744073709551616) (ht : Trim ds) (hd : Dig ds) : ds.length ≤ 2 := by
  refine ht.len hd ?_
  have h3 : pw 2 = 18446744073709551616 := by simp [pw]
  cases neg <;> simp only [sg, if_true, Bool.false_eq_true, if_false] at h0 h1 <;> omega

theorem uint_any (b o : Nat) (z : Int) (w : World) (h : IntAt w b o z) (h0 : -18446744073709551616 < z) (h1 : z < 18446744073709551616) :
    Calls Tryd.prog 130 #[.pointer (some ⟨b, o, none⟩)] w fun e w' => e = .returned (.int .u64 (z.natAbs : Int)) ∧ w = w' := by
  obtain ⟨neg, ds, h2, h3, h4, rfl⟩ := h.ex
  rw [sg_abs h2.dig]
  exact uint_raw b o neg ds w h2 (len2 h0 h1 h3 h2.dig)

set_option maxHeartbeats 2000000 in
theorem int64_any (b o : Nat) (z : Int) (w : World) (h : IntAt w b o z) (h0 : -9223372036854775808 ≤ z) (h1 : z ≤ 9223372036854775807) :
    Calls Tryd.prog 102 #[.pointer (some ⟨b, o, none⟩)] w fun e w' => e = .returned (.int .i64 z) ∧ w = w' := by
  have HU := Lib.hid (uint_any b o z w h (by omega) (by omega))
  obtain ⟨neg, ds, h2, h3, h4, h5⟩ := h.ex
  obtain ⟨A, c, c0, c1, hc, hr⟩ := h2.ex
  have hd := dval_nonneg h2.dig
  have hp := h3.pos h2.dig
  cases neg
  · have e0 : z = (z.natAbs : Int) := by simp only [sg, Bool.false_eq_true, if_false] at h5; omega
    have hz0 : (0 : Int) ≤ z.natAbs := by omega
    have hz1 : (z.natAbs : Int) ≤ 9223372036854775807 := by omega
    have E0 := Lib.hid e0
    clear e0 h h2 h3 h4 h5 hc hr hd hp h0 h1
    generalize (z.natAbs : Int) = u at HU hz0 hz1 E0
    go_enter Tryd.func102, Tryd.ntmps102
    go_wp2_with fail
    refine HU.out.mono ?_
    rintro e w' ⟨rfl, rfl⟩
    go_wp2_with fail
    go_ret
    exact ⟨ret_int E0.out.symm, rfl⟩
  · have hpos := hp.2 (h4 rfl)
    simp only [sg, if_true] at h5
    have e0 : z = -(z.natAbs : Int) := by omega
    have hz0 : (1 : Int) ≤ z.natAbs := by omega
    have hz1 : (z.natAbs : Int) ≤ 9223372036854775808 := by omega
    have E0 := Lib.hid e0
    clear e0 h h2 h3 h4 h5 hc hr hd hp h0 h1 hpos
    generalize (z.natAbs : Int) = u at HU hz0 hz1 E0
    go_enter Tryd.func102, Tryd.ntmps102
    go_wp2_with fail
    refine HU.out.mono ?_
    rintro e w' ⟨rfl, rfl⟩
    go_wp2_with fail
    go_ret
    exact ⟨ret_int (by rw [E0.out]; simp [wrap64]; omega), rfl⟩
end Go.Proofs.YtfcpmcdlgkfolaaDoor.Big

namespace Go.Proofs.YtfcpmcdlgkfolaaDoor.Big
open Go.RowKit

/-- A call that hands back digits of the number v, no more than k of them. -/
def DigRes (w : World) (v : Int) (k : Nat) (e : Ending) (w' : World) : Prop :=
  ∃ A c zs, e = .returned (.slice A zs.length c) ∧ zs.length ≤ c ∧ RdI .u32 w' A zs ∧ Dig zs ∧ dval zs = v ∧ zs.length ≤ k ∧ Below w.heap.size w w'
theorem digres_own {w w' : World} {v : Int} {k base : Nat} {e : TypeId} {n c g : Nat} {zs : List Int} (h : OwnI w' base e .u32 (.slice (some ⟨g, 0, none⟩) n c) zs) (hd : Dig zs) (hv : dval zs = v) (hk : zs.length ≤ k) (hb : Below w.heap.size w w') :
    DigRes w v k (.returned (.slice (some ⟨g, 0, none⟩) n c)) w' := by
  obtain ⟨A, c', h1, h2, h3, _⟩ := h.form
  rw [h1]
  exact ⟨A, c', zs, rfl, h2, h3, hd, hv, hk, hb⟩

/-- A sum, as far as digit i. -/
def SumInv (x y zs : List Int) (i : Nat) (cc : Int) : Prop :=
  0 ≤ cc ∧ cc ≤ 1 ∧ zs.length = x.length + 1 ∧ Dig zs ∧ (∀ j, i ≤ j → ∀ hj : j < zs.length, zs[j] = 0) ∧ dval zs + pw i * cc = dval (x.take i) + dval (y.take i)
theorem sum_start (x y : List Int) : SumInv x y (List.replicate (x.length + 1) 0) 0 0 :=
  ⟨by omega, by omega, by simp, Dig.zeros _, fun j _ hj => by simp, by simp [dval_zeros, dval]⟩
theorem sum_next {x y zs : List Int} {i : Nat} {cc s : Int} (h : SumInv x y zs i cc) (hx : Dig x) (hy : Dig y) (hi : i < x.length) (hs : cc + x[i] + y[i]?.getD 0 = s) :
    SumInv x y (zs.set i (s % 4294967296)) (i + 1) (s / 4294967296) := by
  obtain ⟨h1, h2, h3, h4, h5, h6⟩ := h
  have a1 := hx.get hi
  have a2 : 0 ≤ y[i]?.getD 0 ∧ y[i]?.getD 0 < 4294967296 := by
    by_cases hl : i < y.length
    · rw [getD_lt hl]; exact hy.get hl
    · rw [getD_ge (by omega)]; omega
  have hz : zs[i]'(by omega) = 0 := h5 i (Nat.le_refl _) (by omega)
  refine ⟨by omega, by omega, by simpa using h3, h4.set _ (by omega), fun j hj hl => ?_, ?_⟩
  · rw [get_set_ne (by omega)]
    exact h5 j (by omega) _
  · rw [dval_set (by omega), hz, take_step i, take_step i, getD_lt hi, pw_succ]
    have e : s = s % 4294967296 + 4294967296 * (s / 4294967296) := by omega
    generalize s % 4294967296 = r at e ⊢
    generalize s / 4294967296 = q at e ⊢
    generalize dval (x.take i) = X at *
    generalize dval (y.take i) = Y at *
    generalize dval zs = Z at *
    generalize pw i = P at *
    grind
theorem sum_end {x y zs : List Int} {cc : Int} (h : SumInv x y zs x.length cc) (hle : y.length ≤ x.length) : Dig (zs.set x.length cc) ∧ dval (zs.set x.length cc) = dval x + dval y ∧ (zs.set x.length cc).length = x.length + 1 := by
  obtain ⟨h1, h2, h3, h4, h5, h6⟩ := h
  refine ⟨h4.set _ (by omega), ?_, by simpa using h3⟩
  rw [dval_set (by omega), h5 _ (Nat.le_refl _) (by omega)]
  rw [List.take_of_length_le (Nat.le_refl _), List.take_of_length_le hle] at h6
  rw [← h6]
  simp

set_option maxHeartbeats 4000000 in
theorem sum_ge (A A' : Option Addr) (c c' : Nat) (x y : List Int) (w : World) (hr : RdI .u32 w A x) (hr' : RdI .u32 w A' y) (hx : Dig x) (hy : Dig y) (n m : Nat) (hn : x.length = n) (hm : y.length = m) (lx : n ≤ 10000) (hle : m ≤ n) :
    Calls Tryd.prog 127 #[.slice A n c, .slice A' m c'] w (DigRes w (dval x + dval y) (n + 1)) := by
  have Hr := Lib.hid hr
  have Hr' := Lib.hid hr'
  have Hx := Lib.hid hx
  have Hy := Lib.hid hy
  have Hn := Lib.hid hn
  have Hm := Lib.hid hm
  clear hr hr' hx hy hn hm
  go_enter Tryd.func127, Tryd.ntmps127
  go_wp2_with (refine wpList_makeI _ rfl (.tmp 18) (.tmp 18) 179 rfl 200 .u32 4 Tryd.underlying179 infoD (by omega) w.heap.size .i64 .i64 _ _ (n + 1) rfl rfl (by omega) (by omega) (by omega) (by simp) ?_; intro w1 hown hb1)
  have Hown := Lib.hid hown; clear hown
  go_loopw [6, 22] (fun v i W => ∃ (k : Nat) (zs : List Int) (cc : Int), k ≤ n ∧ i = .int .i64 k ∧ v = .int .u64 cc ∧ SumInv x y zs k cc ∧ OwnI W w.heap.size 200 .u32 (.slice (some ⟨w.heap.size, 0, none⟩) (n + 1) (n + 1)) zs ∧ Below w.heap.size w W) (fun _ i _ => n - (intOf i).toNat)
  case atStart => exact ⟨0, _, 0, by omega, rfl, rfl, by have := sum_start x y; rwa [Hn.out] at this, Hown.out, (by repeat (first | (with_reducible exact Below.refl _ _) | (with_reducible assumption) | (with_reducible refine Below.drew ?_) | (with_reducible refine below_drewN ?_ _) | ((with_reducible refine Below.setCell ?_ ?_ _); rotate_left; (next => first | omega | exact Nat.le_refl _ | (refine Below.size (B := ?_) ?_; rotate_left; assumption) | (simp; done) | (simp; omega))) | ((with_reducible refine Below.alloc ?_ ?_ _); rotate_left; (next => first | omega | exact Nat.le_refl _ | (refine Below.size (B := ?_) ?_; rotate_left; assumption) | (simp; done) | (simp; omega))) | ((with_reducible refine Below.trans (b := ?_) ?_ (Below.mono (B := ?_) ?_ ?_)); rotate_left 3; (next => (with_reducible assumption)); (next => first | omega | exact Nat.le_refl _ | (refine Below.size (B := ?_) ?_; rotate_left; assumption) | (simp; done) | (simp; omega))) | exact Below.refl _ _ | assumption | refine Below.drew ?_ | refine below_drewN ?_ _ | refine Below.alloc ?_ (by first | omega | exact Below.size (by assumption) | (simp; done) | (simp; omega)) _ | refine Below.setCell ?_ (by first | omega | exact Below.size (by assumption) | (simp; done) | (simp; omega)) _ | refine Below.trans ?_ (Below.mono (by assumption) (by first | omega | exact Below.size (by assumption) | (simp; done) | (simp; omega)))))⟩
  case round =>
    obtain ⟨k, zs, cc, hk, rfl, rfl, hinv, hown, hbw⟩ := hrel
    have hcc : 0 ≤ cc ∧ cc ≤ 1 := ⟨hinv.1, hinv.2.1⟩
    obtain ⟨hcc0, hcc1⟩ := hcc
    have hzl : zs.length = n + 1 := by rw [← Hn.out]; exact hinv.2.2.1
    have Hinv := Lib.hid hinv
    have Hown := Lib.hid hown
    have hsz := hown.blk.2.1
    clear hinv hown
    by_cases hlt : k < n
    · have hl : k < x.length := by have := Hn.out; omega
      obtain ⟨g, off, rfl, hcell⟩ := (RdI.below Hr.out hbw).at_ hl
      obtain ⟨zk, hq⟩ : ∃ z, wr.cell? ⟨w.heap.size, k, none⟩ = some (.int .u32 z) := ⟨_, Hown.out.cell (j := k) (by omega)⟩
      have hf := Hown.out.fz k
      obtain ⟨hx0, hx1⟩ := Hx.out.get hl
      have HZ := Lib.hid hzl; clear hzl
      by_cases hlt' : k < m
      · have hl' : k < y.length := by have := Hm.out; omega
        obtain ⟨g', off', rfl, hcell'⟩ := (RdI.below Hr'.out hbw).at_ hl'
        obtain ⟨hy0, hy1⟩ := Hy.out.get hl'
        have HN := Lib.hid (sum_next Hinv.out Hx.out Hy.out hl (s := cc + x[k] + y[k]) (by rw [getD_lt hl']))
        generalize x[k] = u at hcell hx0 hx1 HN
        generalize y[k] = v at hcell' hy0 hy1 HN
        go_wp2_with fail
        go_roundw
        case rel => exact ⟨k + 1, _, _, by omega, by go_num, rfl, HN.out, Hown.out.store k _, (by repeat (first | (with_reducible exact Below.refl _ _) | (with_reducible assumption) | (with_reducible refine Below.drew ?_) | (with_reducible refine below_drewN ?_ _) | ((with_reducible refine Below.setCell ?_ ?_ _); rotate_left; (next => first | omega | exact Nat.le_refl _ | (refine Below.size (B := ?_) ?_; rotate_left; assumption) | (simp; done) | (simp; omega))) | ((with_reducible refine Below.alloc ?_ ?_ _); rotate_left; (next => first | omega | exact Nat.le_refl _ | (refine Below.size (B := ?_) ?_; rotate_left; assumption) | (simp; done) | (simp; omega))) | ((with_reducible refine Below.trans (b := ?_) ?_ (Below.mono (B := ?_) ?_ ?_)); rotate_left 3; (next => (with_reducible assumption)); (next => first | omega | exact Nat.le_refl _ | (refine Below.size (B := ?_) ?_; rotate_left; assumption) | (simp; done) | (simp; omega))) | exact Below.refl _ _ | assumption | refine Below.drew ?_ | refine below_drewN ?_ _ | refine Below.alloc ?_ (by first | omega | exact Below.size (by assumption) | (simp; done) | (simp; omega)) _ | refine Below.setCell ?_ (by first | omega | exact Below.size (by assumption) | (simp; done) | (simp; omega)) _ | refine Below.trans ?_ (Below.mono (by assumption) (by first | omega | exact Below.size (by assumption) | (simp; done) | (simp; omega)))))⟩
        case measure => first | (simp [intOf]; done) | (simp [intOf]; omega)
      · have HN := Lib.hid (sum_next Hinv.out Hx.out Hy.out hl (s := cc + x[k]) (by rw [getD_ge (by have := Hm.out; omega)]; omega))
        generalize x[k] = u at hcell hx0 hx1 HN
        go_wp2_with fail
        go_roundw
        case rel => exact ⟨k + 1, _, _, by omega, by go_num, rfl, HN.out, Hown.out.store k _, (by repeat (first | (with_reducible exact Below.refl _ _) | (with_reducible assumption) | (with_reducible refine Below.drew ?_) | (with_reducible refine below_drewN ?_ _) | ((with_reducible refine Below.setCell ?_ ?_ _); rotate_left; (next => first | omega | exact Nat.le_refl _ | (refine Below.size (B := ?_) ?_; rotate_left; assumption) | (simp; done) | (simp; omega))) | ((with_reducible refine Below.alloc ?_ ?_ _); rotate_left; (next => first | omega | exact Nat.le_refl _ | (refine Below.size (B := ?_) ?_; rotate_left; assumption) | (simp; done) | (simp; omega))) | ((with_reducible refine Below.trans (b := ?_) ?_ (Below.mono (B := ?_) ?_ ?_)); rotate_left 3; (next => (with_reducible assumption)); (next => first | omega | exact Nat.le_refl _ | (refine Below.size (B := ?_) ?_; rotate_left; assumption) | (simp; done) | (simp; omega))) | exact Below.refl _ _ | assumption | refine Below.drew ?_ | refine below_drewN ?_ _ | refine Below.alloc ?_ (by first | omega | exact Below.size (by assumption) | (simp; done) | (simp; omega)) _ | refine Below.setCell ?_ (by first | omega | exact Below.size (by assumption) | (simp; done) | (simp; omega)) _ | refine Below.trans ?_ (Below.mono (by assumption) (by first | omega | exact Below.size (by assumption) | (simp; done) | (simp; omega)))))⟩
        case measure => first | (simp [intOf]; done) | (simp [intOf]; omega)
    · obtain rfl : k = n := by omega
      obtain ⟨zk, hq⟩ : ∃ z, wr.cell? ⟨w.heap.size, k, none⟩ = some (.int .u32 z) := ⟨_, Hown.out.cell (j := k) (by omega)⟩
      have hf := Hown.out.fz k
      have HZ := Lib.hid hzl; clear hzl
      have hinv := Hinv.out
      rw [← Hn.out] at hinv
      have HE := Lib.hid (sum_end hinv (by rw [Hn.out, Hm.out]; omega))
      rw [Hn.out] at HE
      clear hinv
      go_wp2_with fail
      go_ret
      exact digres_own (Hown.out.store k _) HE.out.1 HE.out.2.1 (by rw [HE.out.2.2]; omega) (by repeat (first | (with_reducible exact Below.refl _ _) | (with_reducible assumption) | (with_reducible refine Below.drew ?_) | (with_reducible refine below_drewN ?_ _) | ((with_reducible refine Below.setCell ?_ ?_ _); rotate_left; (next => first | omega | exact Nat.le_refl _ | (refine Below.size (B := ?_) ?_; rotate_left; assumption) | (simp; done) | (simp; omega))) | ((with_reducible refine Below.alloc ?_ ?_ _); rotate_left; (next => first | omega | exact Nat.le_refl _ | (refine Below.size (B := ?_) ?_; rotate_left; assumption) | (simp; done) | (simp; omega))) | ((with_reducible refine Below.trans (b := ?_) ?_ (Below.mono (B := ?_) ?_ ?_)); rotate_left 3; (next => (with_reducible assumption)); (next => first | omega | exact Nat.le_refl _ | (refine Below.size (B := ?_) ?_; rotate_left; assumption) | (simp; done) | (simp; omega))) | exact Below.refl _ _ | assumption | refine Below.drew ?_ | refine below_drewN ?_ _ | refine Below.alloc ?_ (by first | omega | exact Below.size (by assumption) | (simp; done) | (simp; omega)) _ | refine Below.setCell ?_ (by first | omega | exact Below.size (by assumption) | (simp; done) | (simp; omega)) _ | refine Below.trans ?_ (Below.mono (by assumption) (by first | omega | exact Below.size (by assumption) | (simp; done) | (simp; omega)))))

set_option maxHeartbeats 4000000 in
theorem sum_lt (A A' : Option Addr) (c c' : Nat) (x y : List Int) (w : World) (hr : RdI .u32 w A x) (hr' : RdI .u32 w A' y) (hx : Dig x) (hy : Dig y) (n m : Nat) (hn : x.length = n) (hm : y.length = m) (lx : n ≤ 10000) (hle : m < n) :
    Calls Tryd.prog 127 #[.slice A' m c', .slice A n c] w (DigRes w (dval x + dval y) (n + 1)) := by
  have Hr := Lib.hid hr
  have Hr' := Lib.hid hr'
  have Hx := Lib.hid hx
  have Hy := Lib.hid hy
  have Hn := Lib.hid hn
  have Hm := Lib.hid hm
  clear hr hr' hx hy hn hm
  go_enter Tryd.func127, Tryd.ntmps127
  go_wp2_with (refine wpList_makeI _ rfl (.tmp 18) (.tmp 18) 179 rfl 200 .u32 4 Tryd.underlying179 infoD (by omega) w.heap.size .i64 .i64 _ _ (n + 1) rfl rfl (by omega) (by omega) (by omega) (by simp) ?_; intro w1 hown hb1)
  have Hown := Lib.hid hown; clear hown
  go_loopw [6, 22] (fun v i W => ∃ (k : Nat) (zs : List Int) (cc : Int), k ≤ n ∧ i = .int .i64 k ∧ v = .int .u64 cc ∧ SumInv x y zs k cc ∧ OwnI W w.heap.size 200 .u32 (.slice (some ⟨w.heap.size, 0, none⟩) (n + 1) (n + 1)) zs ∧ Below w.heap.size w W) (fun _ i _ => n - (intOf i).toNat)
  case atStart => exact ⟨0, _, 0, by omega, rfl, rfl, by have := sum_start x y; rwa [Hn.out] at this, Hown.out, (by repeat (first | (with_reducible exact Below.refl _ _) | (with_reducible assumption) | (with_reducible refine Below.drew ?_) | (with_reducible refine below_drewN ?_ _) | ((with_reducible refine Below.setCell ?_ ?_ _); rotate_left; (next => first | omega | exact Nat.le_refl _ | (refine Below.size (B := ?_) ?_; rotate_left; assumption) | (simp; done) | (simp; omega))) | ((with_reducible refine Below.alloc ?_ ?_ _); rotate_left; (next => first | omega | exact Nat.le_refl _ | (refine Below.size (B := ?_) ?_; rotate_left; assumption) | (simp; done) | (simp; omega))) | ((with_reducible refine Below.trans (b := ?_) ?_ (Below.mono (B := ?_) ?_ ?_)); rotate_left 3; (next => (with_reducible assumption)); (next => first | omega | exact Nat.le_refl _ | (refine Below.size (B := ?_) ?_; rotate_left; assumption) | (simp; done) | (simp; omega))) | exact Below.refl _ _ | assumption | refine Below.drew ?_ | refine below_drewN ?_ _ | refine Below.alloc ?_ (by first | omega | exact Below.size (by assumption) | (simp; done) | (simp; omega)) _ | refine Below.setCell ?_ (by first | omega | exact Below.size (by assumption) | (simp; done) | (simp; omega)) _ | refine Below.trans ?_ (Below.mono (by assumption) (by first | omega | exact Below.size (by assumption) | (simp; done) | (simp; omega)))))⟩
  case round =>
    obtain ⟨k, zs, cc, hk, rfl, rfl, hinv, hown, hbw⟩ := hrel
    have hcc : 0 ≤ cc ∧ cc ≤ 1 := ⟨hinv.1, hinv.2.1⟩
    obtain ⟨hcc0, hcc1⟩ := hcc
    have hzl : zs.length = n + 1 := by rw [← Hn.out]; exact hinv.2.2.1
    have Hinv := Lib.hid hinv
    have Hown := Lib.hid hown
    have hsz := hown.blk.2.1
    clear hinv hown
    by_cases hlt : k < n
    · have hl : k < x.length := by have := Hn.out; omega
      obtain ⟨g, off, rfl, hcell⟩ := (RdI.below Hr.out hbw).at_ hl
      obtain ⟨zk, hq⟩ : ∃ z, wr.cell? ⟨w.heap.size, k, none⟩ = some (.int .u32 z) := ⟨_, Hown.out.cell (j := k) (by omega)⟩
      have hf := Hown.out.fz k
      obtain ⟨hx0, hx1⟩ := Hx.out.get hl
      have HZ := Lib.hid hzl; clear hzl
      by_cases hlt' : k < m
      · have hl' : k < y.length := by have := Hm.out; omega
        obtain ⟨g', off', rfl, hcell'⟩ := (RdI.below Hr'.out hbw).at_ hl'
        obtain ⟨hy0, hy1⟩ := Hy.out.get hl'
        have HN := Lib.hid (sum_next Hinv.out Hx.out Hy.out hl (s := cc + x[k] + y[k]) (by rw [getD_lt hl']))
        generalize x[k] = u at hcell hx0 hx1 HN
        generalize y[k] = v at hcell' hy0 hy1 HN
        go_wp2_with fail
        go_roundw
        case rel => exact ⟨k + 1, _, _, by omega, by go_num, rfl, HN.out, Hown.out.store k _, (by repeat (first | (with_reducible exact Below.refl _ _) | (with_reducible assumption) | (with_reducible refine Below.drew ?_) | (with_reducible refine below_drewN ?_ _) | ((with_reducible refine Below.setCell ?_ ?_ _); rotate_left; (next => first | omega | exact Nat.le_refl _ | (refine Below.size (B := ?_) ?_; rotate_left; assumption) | (simp; done) | (simp; omega))) | ((with_reducible refine Below.alloc ?_ ?_ _); rotate_left; (next => first | omega | exact Nat.le_refl _ | (refine Below.size (B := ?_) ?_; rotate_left; assumption) | (simp; done) | (simp; omega))) | ((with_reducible refine Below.trans (b := ?_) ?_ (Below.mono (B := ?_) ?_ ?_)); rotate_left 3; (next => (with_reducible assumption)); (next => first | omega | exact Nat.le_refl _ | (refine Below.size (B := ?_) ?_; rotate_left; assumption) | (simp; done) | (simp; omega))) | exact Below.refl _ _ | assumption | refine Below.drew ?_ | refine below_drewN ?_ _ | refine Below.alloc ?_ (by first | omega | exact Below.size (by assumption) | (simp; done) | (simp; omega)) _ | refine Below.setCell ?_ (by first | omega | exact Below.size (by assumption) | (simp; done) | (simp; omega)) _ | refine Below.trans ?_ (Below.mono (by assumption) (by first | omega | exact Below.size (by assumption) | (simp; done) | (simp; omega)))))⟩
        case measure => first | (simp [intOf]; done) | (simp [intOf]; omega)
      · have HN := Lib.hid (sum_next Hinv.out Hx.out Hy.out hl (s := cc + x[k]) (by rw [getD_ge (by have := Hm.out; omega)]; omega))
        generalize x[k] = u at hcell hx0 hx1 HN
        go_wp2_with fail
        go_roundw
        case rel => exact ⟨k + 1, _, _, by omega, by go_num, rfl, HN.out, Hown.out.store k _, (by repeat (first | (with_reducible exact Below.refl _ _) | (with_reducible assumption) | (with_reducible refine Below.drew ?_) | (with_reducible refine below_drewN ?_ _) | ((with_reducible refine Below.setCell ?_ ?_ _); rotate_left; (next => first | omega | exact Nat.le_refl _ | (refine Below.size (B := ?_) ?_; rotate_left; assumption) | (simp; done) | (simp; omega))) | ((with_reducible refine Below.alloc ?_ ?_ _); rotate_left; (next => first | omega | exact Nat.le_refl _ | (refine Below.size (B := ?_) ?_; rotate_left; assumption) | (simp; done) | (simp; omega))) | ((with_reducible refine Below.trans (b := ?_) ?_ (Below.mono (B := ?_) ?_ ?_)); rotate_left 3; (next => (with_reducible assumption)); (next => first | omega | exact Nat.le_refl _ | (refine Below.size (B := ?_) ?_; rotate_left; assumption) | (simp; done) | (simp; omega))) | exact Below.refl _ _ | assumption | refine Below.drew ?_ | refine below_drewN ?_ _ | refine Below.alloc ?_ (by first | omega | exact Below.size (by assumption) | (simp; done) | (simp; omega)) _ | refine Below.setCell ?_ (by first | omega | exact Below.size (by assumption) | (simp; done) | (simp; omega)) _ | refine Below.trans ?_ (Below.mono (by assumption) (by first | omega | exact Below.size (by assumption) | (simp; done) | (simp; omega)))))⟩
        case measure => first | (simp [intOf]; done) | (simp [intOf]; omega)
    · obtain rfl : k = n := by omega
      obtain ⟨zk, hq⟩ : ∃ z, wr.cell? ⟨w.heap.size, k, none⟩ = some (.int .u32 z) := ⟨_, Hown.out.cell (j := k) (by omega)⟩
      have hf := Hown.out.fz k
      have HZ := Lib.hid hzl; clear hzl
      have hinv := Hinv.out
      rw [← Hn.out] at hinv
      have HE := Lib.hid (sum_end hinv (by rw [Hn.out, Hm.out]; omega))
      rw [Hn.out] at HE
      clear hinv
      go_wp2_with fail
      go_ret
      exact digres_own (Hown.out.store k _) HE.out.1 HE.out.2.1 (by rw [HE.out.2.2]; omega) (by repeat (first | (with_reducible exact Below.refl _ _) | (with_reducible assumption) | (with_reducible refine Below.drew ?_) | (with_reducible refine below_drewN ?_ _) | ((with_reducible refine Below.setCell ?_ ?_ _); rotate_left; (next => first | omega | exact Nat.le_refl _ | (refine Below.size (B := ?_) ?_; rotate_left; assumption) | (simp; done) | (simp; omega))) | ((with_reducible refine Below.alloc ?_ ?_ _); rotate_left; (next => first | omega | exact Nat.le_refl _ | (refine Below.size (B := ?_) ?_; rotate_left; assumption) | (simp; done) | (simp; omega))) | ((with_reducible refine Below.trans (b := ?_) ?_ (Below.mono (B := ?_) ?_ ?_)); rotate_left 3; (next => (with_reducible assumption)); (next => first | omega | exact Nat.le_refl _ | (refine Below.size (B := ?_) ?_; rotate_left; assumption) | (simp; done) | (simp; omega))) | exact Below.refl _ _ | assumption | refine Below.drew ?_ | refine below_drewN ?_ _ | refine Below.alloc ?_ (by first | omega | exact Below.size (by assumption) | (simp; done) | (simp; omega)) _ | refine Below.setCell ?_ (by first | omega | exact Below.size (by assumption) | (simp; done) | (simp; omega)) _ | refine Below.trans ?_ (Below.mono (by assumption) (by first | omega | exact Below.size (by assumption) | (simp; done) | (simp; omega)))))
end Go.Proofs.YtfcpmcdlgkfolaaDoor.Big

namespace Go.Proofs.YtfcpmcdlgkfolaaDoor.Big
open Go.RowKit

/-- A difference, as far as digit i. -/
def LessInv (x y zs : List Int) (i : Nat) (cc : Int) : Prop :=
  0 ≤ cc ∧ cc ≤ 1 ∧ zs.length = x.length ∧ Dig zs ∧ (∀ j, i ≤ j → ∀ hj : j < zs.length, zs[j] = 0) ∧ dval zs = dval (x.take i) - dval (y.take i) + pw i * cc
theorem less_start (x y : List Int) : LessInv x y (List.replicate x.length 0) 0 0 :=
  ⟨by omega, by omega, by simp, Dig.zeros _, fun j _ hj => by simp, by simp [dval_zeros, dval]⟩
theorem less_next {x y zs : List Int} {i : Nat} {cc t z cn : Int} (h : LessInv x y zs i cc) (hi : i < x.length) (ht : t = x[i] - cc - y[i]?.getD 0) (hz0 : 0 ≤ z ∧ z < 4294967296) (hcn : 0 ≤ cn ∧ cn ≤ 1) (hz : z = t + 4294967296 * cn) :
    LessInv x y (zs.set i z) (i + 1) cn := by
  obtain ⟨h1, h2, h3, h4, h5, h6⟩ := h
  have hzz : zs[i]'(by omega) = 0 := h5 i (Nat.le_refl _) (by omega)
  refine ⟨hcn.1, hcn.2, by simpa using h3, h4.set _ hz0, fun j hj hl => ?_, ?_⟩
  · rw [get_set_ne (by omega)]
    exact h5 j (by omega) _
  · rw [dval_set (by omega), hzz, take_step i, take_step i, getD_lt hi, pw_succ]
    generalize dval (x.take i) = X at *
    generalize dval (y.take i) = Y at *
    generalize dval zs = Z at *
    generalize pw i = P at *
    generalize y[i]?.getD 0 = v at *
    generalize x[i] = u at *
    subst ht hz
    grind
theorem less_end {x y zs : List Int} {cc : Int} (h : LessInv x y zs x.length cc) (hle : y.length ≤ x.length) (hv : dval y ≤ dval x) : Dig zs ∧ dval zs = dval x - dval y ∧ zs.length = x.length := by
  obtain ⟨h1, h2, h3, h4, h5, h6⟩ := h
  rw [List.take_of_length_le (Nat.le_refl _), List.take_of_length_le hle] at h6
  refine ⟨h4, ?_, h3⟩
  have hlt := dval_lt h4
  rw [h3] at hlt
  have : cc = 0 := by
    by_cases hc : cc = 1
    · subst hc; omega
    · omega
  subst this
  rw [h6]; omega

theorem wrap1 (a : Int) : IntKind.u64.wrap a = a % 18446744073709551616 := IntKind.wrap_u64 a
theorem wrap2 (a b : Int) : IntKind.u64.wrap (IntKind.u64.wrap a - b) = (a - b) % 18446744073709551616 := by
  rw [wrap1, wrap1]
  omega

set_option maxHeartbeats 4000000 in
theorem less_any (A A' : Option Addr) (c c' : Nat) (x y : List Int) (w : World) (hr : RdI .u32 w A x) (hr' : RdI .u32 w A' y) (hx : Dig x) (hy : Dig y) (n m : Nat) (hn : x.length = n) (hm : y.length = m) (lx : n ≤ 10000) (hle : m ≤ n) (hv : dval y ≤ dval x) :
    Calls Tryd.prog 129 #[.slice A n c, .slice A' m c'] w (DigRes w (dval x - dval y) n) := by
  have Hr := Lib.hid hr
  have Hr' := Lib.hid hr'
  have Hx := Lib.hid hx
  have Hy := Lib.hid hy
  have Hn := Lib.hid hn
  have Hm := Lib.hid hm
  have Hv := Lib.hid hv
  clear hr hr' hx hy hn hm hv
  go_enter Tryd.func129, Tryd.ntmps129
  go_wp2_with (refine wpList_makeI _ rfl (.tmp 11) (.tmp 11) 179 rfl 200 .u32 4 Tryd.underlying179 infoD (by omega) w.heap.size .i64 .i64 _ _ n rfl rfl (by omega) (by omega) (by omega) (by simp) ?_; intro w1 hown hb1)
  have Hown := Lib.hid hown; clear hown
  go_loopw [6, 15] (fun v i W => ∃ (k : Nat) (zs : List Int) (cc : Int), k ≤ n ∧ i = .int .i64 k ∧ v = .int .u64 cc ∧ LessInv x y zs k cc ∧ OwnI W w.heap.size 200 .u32 (.slice (some ⟨w.heap.size, 0, none⟩) n n) zs ∧ Below w.heap.size w W) (fun _ i _ => n - (intOf i).toNat)
  case atStart => exact ⟨0, _, 0, by omega, rfl, rfl, by have := less_start x y; rwa [Hn.out] at this, Hown.out, (by repeat (first | (with_reducible exact Below.refl _ _) | (with_reducible assumption) | (with_reducible refine Below.drew ?_) | (with_reducible refine below_drewN ?_ _) | ((with_reducible refine Below.setCell ?_ ?_ _); rotate_left; (next => first | omega | exact Nat.le_refl _ | (refine Below.size (B := ?_) ?_; rotate_left; assumption) | (simp; done) | (simp; omega))) | ((with_reducible refine Below.alloc ?_ ?_ _); rotate_left; (next => first | omega | exact Nat.le_refl _ | (refine Below.size (B := ?_) ?_; rotate_left; assumption) | (simp; done) | (simp; omega))) | ((with_reducible refine Below.trans (b := ?_) ?_ (Below.mono (B := ?_) ?_ ?_)); rotate_left 3; (next => (with_reducible assumption)); (next => first | omega | exact Nat.le_refl _ | (refine Below.size (B := ?_) ?_; rotate_left; assumption) | (simp; done) | (simp; omega))) | exact Below.refl _ _ | assumption | refine Below.drew ?_ | refine below_drewN ?_ _ | refine Below.alloc ?_ (by first | omega | exact Below.size (by assumption) | (simp; done) | (simp; omega)) _ | refine Below.setCell ?_ (by first | omega | exact Below.size (by assumption) | (simp; done) | (simp; omega)) _ | refine Below.trans ?_ (Below.mono (by assumption) (by first | omega | exact Below.size (by assumption) | (simp; done) | (simp; omega)))))⟩
  case round =>
    obtain ⟨k, zs, cc, hk, rfl, rfl, hinv, hown, hbw⟩ := hrel
    have hcc : 0 ≤ cc ∧ cc ≤ 1 := ⟨hinv.1, hinv.2.1⟩
    obtain ⟨hcc0, hcc1⟩ := hcc
    have hzl : zs.length = n := by rw [← Hn.out]; exact hinv.2.2.1
    have Hinv := Lib.hid hinv
    have Hown := Lib.hid hown
    have hsz := hown.blk.2.1
    clear hinv hown
    by_cases hlt : k < n
    · have hl : k < x.length := by have := Hn.out; omega
      obtain ⟨g, off, rfl, hcell⟩ := (RdI.below Hr.out hbw).at_ hl
      obtain ⟨zk, hq⟩ : ∃ z, wr.cell? ⟨w.heap.size, k, none⟩ = some (.int .u32 z) := ⟨_, Hown.out.cell (j := k) (by omega)⟩
      have hf := Hown.out.fz k
      obtain ⟨hx0, hx1⟩ := Hx.out.get hl
      have HZ := Lib.hid hzl; clear hzl
      by_cases hlt' : k < m
      · have hl' : k < y.length := by have := Hm.out; omega
        obtain ⟨g', off', rfl, hcell'⟩ := (RdI.below Hr'.out hbw).at_ hl'
        obtain ⟨hy0, hy1⟩ := Hy.out.get hl'
        have HN := Lib.hid (fun z cn => less_next (z := z) (cn := cn) Hinv.out hl (t := x[k] - cc - y[k]) (by rw [getD_lt hl']))
        generalize x[k] = u at hcell hx0 hx1 HN
        generalize y[k] = v at hcell' hy0 hy1 HN
        go_wp2_with fail
        go_roundw
        case rel => exact ⟨k + 1, _, _, by omega, by go_num, rfl, HN.out _ _ (by rw [wrap2]; omega) (by rw [wrap2]; omega) (by rw [wrap2]; omega), Hown.out.store k _, (by repeat (first | (with_reducible exact Below.refl _ _) | (with_reducible assumption) | (with_reducible refine Below.drew ?_) | (with_reducible refine below_drewN ?_ _) | ((with_reducible refine Below.setCell ?_ ?_ _); rotate_left; (next => first | omega | exact Nat.le_refl _ | (refine Below.size (B := ?_) ?_; rotate_left; assumption) | (simp; done) | (simp; omega))) | ((with_reducible refine Below.alloc ?_ ?_ _); rotate_left; (next => first | omega | exact Nat.le_refl _ | (refine Below.size (B := ?_) ?_; rotate_left; assumption) | (simp; done) | (simp; omega))) | ((with_reducible refine Below.trans (b := ?_) ?_ (Below.mono (B := ?_) ?_ ?_)); rotate_left 3; (next => (with_reducible assumption)); (next => first | omega | exact Nat.le_refl _ | (refine Below.size (B := ?_) ?_; rotate_left; assumption) | (simp; done) | (simp; omega))) | exact Below.refl _ _ | assumption | refine Below.drew ?_ | refine below_drewN ?_ _ | refine Below.alloc ?_ (by first | omega | exact Below.size (by assumption) | (simp; done) | (simp; omega)) _ | refine Below.setCell ?_ (by first | omega | exact Below.size (by assumption) | (simp; done) | (simp; omega)) _ | refine Below.trans ?_ (Below.mono (by assumption) (by first | omega | exact Below.size (by assumption) | (simp; done) | (simp; omega)))))⟩
        case measure => first | (simp [intOf]; done) | (simp [intOf]; omega)
      · have HN := Lib.hid (fun z cn => less_next (z := z) (cn := cn) Hinv.out hl (t := x[k] - cc) (by rw [getD_ge (by have := Hm.out; omega)]; omega))
        generalize x[k] = u at hcell hx0 hx1 HN
        go_wp2_with fail
        go_roundw
        case rel => exact ⟨k + 1, _, _, by omega, by go_num, rfl, HN.out _ _ (by rw [wrap1]; omega) (by rw [wrap1]; omega) (by rw [wrap1]; omega), Hown.out.store k _, (by repeat (first | (with_reducible exact Below.refl _ _) | (with_reducible assumption) | (with_reducible refine Below.drew ?_) | (with_reducible refine below_drewN ?_ _) | ((with_reducible refine Below.setCell ?_ ?_ _); rotate_left; (next => first | omega | exact Nat.le_refl _ | (refine Below.size (B := ?_) ?_; rotate_left; assumption) | (simp; done) | (simp; omega))) | ((with_reducible refine Below.alloc ?_ ?_ _); rotate_left; (next => first | omega | exact Nat.le_refl _ | (refine Below.size (B := ?_) ?_; rotate_left; assumption) | (simp; done) | (simp; omega))) | ((with_reducible refine Below.trans (b := ?_) ?_ (Below.mono (B := ?_) ?_ ?_)); rotate_left 3; (next => (with_reducible assumption)); (next => first | omega | exact Nat.le_refl _ | (refine Below.size (B := ?_) ?_; rotate_left; assumption) | (simp; done) | (simp; omega))) | exact Below.refl _ _ | assumption | refine Below.drew ?_ | refine below_drewN ?_ _ | refine Below.alloc ?_ (by first | omega | exact Below.size (by assumption) | (simp; done) | (simp; omega)) _ | refine Below.setCell ?_ (by first | omega | exact Below.size (by assumption) | (simp; done) | (simp; omega)) _ | refine Below.trans ?_ (Below.mono (by assumption) (by first | omega | exact Below.size (by assumption) | (simp; done) | (simp; omega)))))⟩
        case measure => first | (simp [intOf]; done) | (simp [intOf]; omega)
    · obtain rfl : k = n := by omega
      have HZ := Lib.hid hzl; clear hzl
      have hinv := Hinv.out
      rw [← Hn.out] at hinv
      have HE := Lib.hid (less_end hinv (by rw [Hn.out, Hm.out]; omega) Hv.out)
      rw [Hn.out] at HE
      clear hinv
      go_wp2_with fail
      go_ret
      exact digres_own Hown.out HE.out.1 HE.out.2.1 (by rw [HE.out.2.2]; omega) (by repeat (first | (with_reducible exact Below.refl _ _) | (with_reducible assumption) | (with_reducible refine Below.drew ?_) | (with_reducible refine below_drewN ?_ _) | ((with_reducible refine Below.setCell ?_ ?_ _); rotate_left; (next => first | omega | exact Nat.le_refl _ | (refine Below.size (B := ?_) ?_; rotate_left; assumption) | (simp; done) | (simp; omega))) | ((with_reducible refine Below.alloc ?_ ?_ _); rotate_left; (next => first | omega | exact Nat.le_refl _ | (refine Below.size (B := ?_) ?_; rotate_left; assumption) | (simp; done) | (simp; omega))) | ((with_reducible refine Below.trans (b := ?_) ?_ (Below.mono (B := ?_) ?_ ?_)); rotate_left 3; (next => (with_reducible assumption)); (next => first | omega | exact Nat.le_refl _ | (refine Below.size (B := ?_) ?_; rotate_left; assumption) | (simp; done) | (simp; omega))) | exact Below.refl _ _ | assumption | refine Below.drew ?_ | refine below_drewN ?_ _ | refine Below.alloc ?_ (by first | omega | exact Below.size (by assumption) | (simp; done) | (simp; omega)) _ | refine Below.setCell ?_ (by first | omega | exact Below.size (by assumption) | (simp; done) | (simp; omega)) _ | refine Below.trans ?_ (Below.mono (by assumption) (by first | omega | exact Below.size (by assumption) | (simp; done) | (simp; omega)))))
end Go.Proofs.YtfcpmcdlgkfolaaDoor.Big

namespace Go.Proofs.YtfcpmcdlgkfolaaDoor.Big
open Go.RowKit

/-- A product, as far as digit i of the first factor and digit j of the second. -/
def MulInv (x y zs : List Int) (i j : Nat) (cc : Int) : Prop :=
  0 ≤ cc ∧ cc < 4294967296 ∧ zs.length = x.length + y.length ∧ Dig zs ∧ (∀ q, i + y.length ≤ q → ∀ hq : q < zs.length, zs[q] = 0) ∧ dval zs + pw (i + j) * cc = dval (x.take i) * dval y + pw i * (x[i]?.getD 0) * dval (y.take j)
theorem mul_start (x y : List Int) : MulInv x y (List.replicate (x.length + y.length) 0) 0 0 0 :=
  ⟨by omega, by omega, by simp, Dig.zeros _, fun j _ hj => by simp, by simp [dval_zeros, dval]⟩
theorem mul_step {x y zs : List Int} {i j : Nat} {cc t : Int} (h : MulInv x y zs i j cc) (hx : Dig x) (hy : Dig y) (hi : i < x.length) (hj : j < y.length) (hl : i + j < zs.length) (ht : t = cc + (x[i] * y[j] + zs[i + j])) :
    (0 ≤ t ∧ t < 18446744073709551616 ∧ 0 ≤ x[i] * y[j] ∧ x[i] * y[j] ≤ 18446744065119617025) ∧ MulInv x y (zs.set (i + j) (t % 4294967296)) i (j + 1) (t / 4294967296) := by
  obtain ⟨h1, h2, h3, h4, h5, h6⟩ := h
  have a1 := hx.get hi
  have a2 := hy.get hj
  have a3 := h4.get hl
  have m0 : 0 ≤ x[i] * y[j] := Int.mul_nonneg a1.1 a2.1
  have m1 : x[i] * y[j] ≤ 4294967295 * 4294967295 := Int.mul_le_mul (by omega) (by omega) a2.1 (by omega)
  refine ⟨⟨by omega, by omega, m0, by omega⟩, by omega, by omega, by simpa using h3, h4.set _ (by omega), fun q hq hl' => ?_, ?_⟩
  · rw [get_set_ne (by omega)]
    exact h5 q hq _
  · rw [dval_set hl, take_step j, getD_lt hj, getD_lt hi, ← Nat.add_assoc, pw_succ]
    rw [getD_lt hi] at h6
    have e : t = t % 4294967296 + 4294967296 * (t / 4294967296) := by omega
    have ep : pw (i + j) = pw i * pw j := pw_add i j
    generalize t % 4294967296 = r at e ⊢
    generalize t / 4294967296 = q at e ⊢
    generalize dval (x.take i) = X at *
    generalize dval (y.take j) = Y at *
    generalize dval zs = Z at *
    generalize zs[i + j] = d at *
    generalize x[i] = u at *
    generalize y[j] = v at *
    rw [ep] at *
    generalize pw i = P at *
    generalize pw j = R at *
    generalize dval y = YY at *
    clear m1 m0 a1 a2 a3 h1 h2
    grind
theorem mul_row {x y zs : List Int} {i : Nat} {cc : Int} (h : MulInv x y zs i y.length cc) (hi : i < x.length) : MulInv x y (zs.set (i + y.length) cc) (i + 1) 0 0 := by
  obtain ⟨h1, h2, h3, h4, h5, h6⟩ := h
  have hl : i + y.length < zs.length := by omega
  refine ⟨by omega, by omega, by simpa using h3, h4.set _ ⟨h1, h2⟩, fun q hq hl' => ?_, ?_⟩
  · rw [get_set_ne (by omega)]
    exact h5 q (by omega) _
  · rw [dval_set hl, h5 _ (Nat.le_refl _) hl, take_step i, getD_lt hi]
    rw [List.take_length, getD_lt hi] at h6
    rw [List.take_zero]
    have e0 : dval [] = 0 := rfl
    rw [e0]
    generalize dval (x.take i) = X at *
    generalize dval y = Y at *
    generalize dval zs = Z at *
    generalize pw (i + y.length) = P at *
    generalize pw i = R at *
    generalize x[i] = u at *
    grind
theorem mul_end {x y zs : List Int} {cc : Int} (h : MulInv x y zs x.length 0 cc) : cc = 0 → dval zs = dval x * dval y := by
  rintro rfl
  obtain ⟨h1, h2, h3, h4, h5, h6⟩ := h
  rw [List.take_length, List.take_zero] at h6
  have e0 : dval [] = 0 := rfl
  rw [e0] at h6
  simpa using h6
end Go.Proofs.YtfcpmcdlgkfolaaDoor.Big
