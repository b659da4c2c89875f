/- slices.SortFunc of ints by a closure that reads two slices; the closure of share.Level. -/
import Derived.Test.YtpknjfeiiaopgaaShM
import Derived.Test.YtpknjfeiiaopgaaE0
import Derived.Test.YtpknjfeiiaopgaaE1
import Derived.Shelf.SlSortCmp.NoneTotal
import Derived.Ground.SlsfProg
import Derived.BigQuiet
import Derived.Deep.QuietTactic
namespace Go.Proofs
open Go.Shelf
def Ytpknjfeiiaopgaa.Share.sortL_ren : Go.Shelf.Ren := ⟨fun | 6 => 83 | 15 => 119 | 14 => 118 | 28 => 146 | 29 => 147 | 20 => 133 | 21 => 139 | 22 => 140 | 23 => 141 | 24 => 142 | 25 => 143 | 26 => 144 | 27 => 145 | 46 => 169 | 47 => 170 | 48 => 171 | 49 => 172 | 50 => 173 | 57 => 187 | n => n, fun | 22 => 27 | 24 => 3 | 25 => 145 | 3 => 3 | 39 => 102 | 0 => 0 | 53 => 195 | 55 => 117 | 4 => 4 | 46 => 203 | 45 => 202 | 50 => 34 | 5 => 5 | 9 => 9 | 66 => 223 | 70 => 97 | 76 => 234 | 77 => 235 | n => n, fun | n => n⟩
theorem Ytpknjfeiiaopgaa.Share.sortL : Go.Proofs.SlLaysF.n6 Try.prog Ytpknjfeiiaopgaa.Share.sortL_ren := {
  mixed := by kernel_rfl,
  f6 := ⟨Try.f83.name, by decide, Try.func83.trans (congrArg some (by kernel_rfl))⟩,
  f14 := ⟨Try.f118.name, by decide, Try.func118.trans (congrArg some (by kernel_rfl))⟩,
  f15 := Try.func119.trans (congrArg some (by kernel_rfl)),
  f20 := ⟨Try.f133.name, by decide, Try.func133.trans (congrArg some (by kernel_rfl))⟩,
  f21 := ⟨Try.f139.name, by decide, Try.func139.trans (congrArg some (by kernel_rfl))⟩,
  f22 := ⟨Try.f140.name, by decide, Try.func140.trans (congrArg some (by kernel_rfl))⟩,
  f23 := ⟨Try.f141.name, by decide, Try.func141.trans (congrArg some (by kernel_rfl))⟩,
  f24 := ⟨Try.f142.name, by decide, Try.func142.trans (congrArg some (by kernel_rfl))⟩,
  f25 := ⟨Try.f143.name, by decide, Try.func143.trans (congrArg some (by kernel_rfl))⟩,
  f26 := ⟨Try.f144.name, by decide, Try.func144.trans (congrArg some (by kernel_rfl))⟩,
  f27 := ⟨Try.f145.name, by decide, Try.func145.trans (congrArg some (by kernel_rfl))⟩,
  f28 := Try.func146.trans (congrArg some (by kernel_rfl)),
  f29 := Try.func147.trans (congrArg some (by kernel_rfl)),
  f46 := ⟨Try.f169.name, by decide, Try.func169.trans (congrArg some (by kernel_rfl))⟩,
  f47 := Try.func170.trans (congrArg some (by kernel_rfl)),
  f48 := Try.func171.trans (congrArg some (by kernel_rfl)),
  f49 := ⟨Try.f172.name, by decide, Try.func172.trans (congrArg some (by kernel_rfl))⟩,
  f50 := ⟨Try.f173.name, by decide, Try.func173.trans (congrArg some (by kernel_rfl))⟩,
  f57 := ⟨Try.f187.name, by decide, Try.func187.trans (congrArg some (by kernel_rfl))⟩,
  t0 := Try.underlying0,
  a0 := Try.isAgg0,
  z0 := Try.sizeOf0,
  v0 := Try.zeroValue0,
  t3 := Try.underlying3,
  a3 := Try.isAgg3,
  z3 := Try.sizeOf3,
  v3 := Try.zeroValue3,
  t4 := Try.underlying4,
  a4 := Try.isAgg4,
  z4 := Try.sizeOf4,
  v4 := Try.zeroValue4,
  t5 := Try.underlying5,
  a5 := Try.isAgg5,
  z5 := Try.sizeOf5,
  v5 := Try.zeroValue5,
  t9 := Try.underlying9,
  a9 := Try.isAgg9,
  z9 := Try.sizeOf9,
  v9 := Try.zeroValue9,
  t22 := Try.underlying27,
  a22 := Try.isAgg27,
  z22 := Try.sizeOf27,
  v22 := Try.zeroValue27,
  a24 := Try.isAgg3,
  z24 := Try.sizeOf3,
  t25 := Try.underlying145,
  a25 := Try.isAgg145,
  z25 := Try.sizeOf145,
  v25 := Try.zeroValue145,
  t39 := Try.underlying102,
  a39 := Try.isAgg102,
  z39 := Try.sizeOf102,
  v39 := Try.zeroValue102,
  t45 := Try.underlying202,
  a45 := Try.isAgg202,
  z45 := Try.sizeOf202,
  v45 := Try.zeroValue202,
  t46 := Try.underlying203,
  a46 := Try.isAgg203,
  z46 := Try.sizeOf203,
  v46 := Try.zeroValue203,
  t50 := Try.underlying34,
  a50 := Try.isAgg34,
  z50 := Try.sizeOf34,
  v50 := Try.zeroValue34,
  t53 := Try.underlying195,
  a53 := Try.isAgg195,
  z53 := Try.sizeOf195,
  v53 := Try.zeroValue195,
  t55 := Try.underlying117,
  a55 := Try.isAgg117,
  z55 := Try.sizeOf117,
  v55 := Try.zeroValue117,
  t66 := Try.underlying223,
  a66 := Try.isAgg223,
  z66 := Try.sizeOf223,
  v66 := Try.zeroValue223,
  t70 := Try.underlying97,
  a70 := Try.isAgg97,
  z70 := Try.sizeOf97,
  v70 := Try.zeroValue97,
  t76 := Try.underlying234,
  a76 := Try.isAgg234,
  z76 := Try.sizeOf234,
  v76 := Try.zeroValue234,
  t77 := Try.underlying235,
  a77 := Try.isAgg235,
  z77 := Try.sizeOf235,
  v77 := Try.zeroValue235 }
end Go.Proofs
namespace Go.Proofs.Ytpknjfeiiaopgaa.Share
open Go.RowKit Go.Proofs.Ytpknjfeiiaopgaa.E Go.Shelf Go.Lib Go.Sort

set_option maxHeartbeats 1000000 in
/-- The closure: whose part of its want is less. -/
theorem closE (W : World) {g4 g5 : Nat} {A1 A2 : Option Addr} {n m c1 c2 : Nat} {ws ts : List Int} (h4 : W.cell? ⟨g4, 0, none⟩ = some (.slice A1 n c1)) (h5 : W.cell? ⟨g5, 0, none⟩ = some (.slice A2 m c2))
    (hw : RdI .i64 W A1 ws) (ht : RdI .i64 W A2 ts) (hwl : ws.length = n) (htl : ts.length = m) {x y : Nat} (hx : x < n) (hy : y < n) (hxm : x < m) (hym : y < m) (hn : n ≤ 1000) (hm : m ≤ 1000) {a b c d : Int} (ha : gI ws x = a) (hb : gI ts y = b) (hc : gI ws y = c) (hd : gI ts x = d)
    (ba : 0 ≤ a ∧ a ≤ 1048576) (bb : 1 ≤ b ∧ b ≤ 1000) (bc : 0 ≤ c ∧ c ≤ 1048576) (bd : 1 ≤ d ∧ d ≤ 1000) :
    Calls Try.prog 84 #[(.int .i64 ((x : Int))), (.int .i64 ((y : Int))), .pointer (some ⟨g4, 0, none⟩), .pointer (some ⟨g5, 0, none⟩)] W fun e w' => e = .returned (.int .i64 (a * b - c * d)) ∧ ∃ q, w' = W.drewN q := by
  obtain ⟨b1, o1, rfl, hwx⟩ := hw.at_ (show x < ws.length by omega)
  obtain ⟨b1', o1', e1, hwy⟩ := hw.at_ (show y < ws.length by omega)
  obtain ⟨rfl, rfl⟩ : b1 = b1' ∧ o1 = o1' := by injection e1 with e1; injection e1 with e1 e2; exact ⟨e1, e2⟩
  obtain ⟨b2, o2, rfl, htx⟩ := ht.at_ (show x < ts.length by omega)
  obtain ⟨b2', o2', e2, hty⟩ := ht.at_ (show y < ts.length by omega)
  obtain ⟨rfl, rfl⟩ : b2 = b2' ∧ o2 = o2' := by injection e2 with e1; injection e1 with e1 e2; exact ⟨e1, e2⟩
  rw [show ws[x] = a by rw [← ha, gI, List.getD_eq_getElem?_getD, List.getElem?_eq_getElem (by omega)]; rfl] at hwx
  rw [show ws[y] = c by rw [← hc, gI, List.getD_eq_getElem?_getD, List.getElem?_eq_getElem (by omega)]; rfl] at hwy
  rw [show ts[x] = d by rw [← hd, gI, List.getD_eq_getElem?_getD, List.getElem?_eq_getElem (by omega)]; rfl] at htx
  rw [show ts[y] = b by rw [← hb, gI, List.getD_eq_getElem?_getD, List.getElem?_eq_getElem (by omega)]; rfl] at hty
  clear ha hb hc hd hw ht hwl htl e1 e2
  have p1 : 0 ≤ a * b ∧ a * b ≤ 1048576000 := ⟨Int.mul_nonneg (by omega) (by omega), by
    have := Int.mul_le_mul (show a ≤ 1048576 by omega) (show b ≤ 1000 by omega) (by omega) (by omega); omega⟩
  have p2 : 0 ≤ c * d ∧ c * d ≤ 1048576000 := ⟨Int.mul_nonneg (by omega) (by omega), by
    have := Int.mul_le_mul (show c ≤ 1048576 by omega) (show d ≤ 1000 by omega) (by omega) (by omega); omega⟩
  go_enter Try.func84, Try.ntmps84
  go_wp2_with fail
  go_quiet (fail)
  go_wp2_with fail
  go_ret
  exact ⟨rfl, _, rfl⟩

theorem extract_all {α : Type} {a : Array α} {n : Nat} (h : a.size = n) : (a.extract 0 n).toList = a.toList := by
  subst h
  rw [Array.extract_size]
variable {α : Type} [Inhabited α]
theorem putCells_row (enc : α → Value) (off : Nat) (dk : Array α) (cur : Array Value) (h : off + dk.size ≤ cur.size) : ((putCells enc off dk cur).toList.drop off).take dk.size = dk.toList.map enc := by
  apply List.ext_getElem?
  intro i
  rw [List.getElem?_take]
  by_cases hi : i < dk.size
  · rw [if_pos hi, List.getElem?_drop, Array.getElem?_toList, putCells, Array.getElem?_mapIdx, Array.getElem?_eq_getElem (by omega), List.getElem?_map, Array.getElem?_toList, Array.getElem?_eq_getElem hi]
    simp only [Option.map_some]
    rw [if_pos (by omega), show off + i - off = i by omega, getElem!_pos dk i hi]
  · rw [if_neg hi, List.getElem?_eq_none (by simp; omega)]
theorem sortWorld_heap (enc : α → Value) (w : World) (blk off m : Nat) (dk : Array α) (os : Array Obj) : (sortWorld enc w blk off m dk os).heap = w.heap.modify blk (onCells (putCells enc off dk)) ++ os := rfl
theorem st_sort {w0 w : World} {T : List Res} {e blk off cap n : Nat} {enc : α → Value} {xs : List Value} (hS : St w0 w (vec e 1 (.slice (some ⟨blk, off, none⟩) n cap) n xs :: T)) (m : Nat) (os : Array Obj) (dk : Array α) (hd : dk.size = n) :
    St w0 (sortWorld enc w blk off m dk os) (vec e 1 (.slice (some ⟨blk, off, none⟩) n cap) n (dk.toList.map enc) :: T) := by
  have hv := hS.holds 0 _ rfl
  have hlt := hS.lt 0 _ rfl
  obtain ⟨hl, h0 | ⟨g, o, cp, cur, hv, hg, h1, h2, h3, h4⟩⟩ := hv
  · cases h0.1
  · injection hv with hv1 hv2 hv3
    injection hv1 with hv1
    injection hv1 with hv1 hv4
    subst hv1; subst hv4; subst hv3
    have hb : blk < w.heap.size := (hlt blk (by simp [vec, Value.ownBlock])).2
    refine hS.turn (k := 0) (r' := vec e 1 (.slice (some ⟨blk, off, none⟩) n cap) n (dk.toList.map enc)) rfl rfl rfl rfl ?_ (fun b hb' hne => ?_) ?_ (fun b hb' => ?_)
    · rw [sortWorld_heap]; simp
    · rw [sortWorld_heap, Array.getElem?_append_left (by simpa using hb'), Array.getElem?_modify]
      rw [if_neg (fun e => hne (by simp [vec, Value.ownBlock, e]))]
    · refine ⟨by simp [hd], .inr ⟨blk, off, cap, putCells enc off dk cur, rfl, ?_, h1, h2, by simp only [putCells, Array.size_mapIdx]; exact h3, ?_⟩⟩
      · rw [sortWorld_heap, Array.getElem?_append_left (by simpa using hb), Array.getElem?_modify, if_pos rfl, hg]
        rfl
      · rw [← hd, Nat.mul_one]
        exact putCells_row enc off dk cur (by omega)
    · rw [sortWorld_heap]
      have : b = blk := by simpa [vec, Value.ownBlock] using hb'
      subst this
      exact ⟨by simp; omega, .inl (by simp [vec, Value.ownBlock])⟩
theorem holds_of {w : World} {e blk off cap n : Nat} {enc : α → Value} {d : Array α} (hd : d.size = n) (h : OwnV w e 1 (.slice (some ⟨blk, off, none⟩) n cap) n (d.toList.map enc)) : Holds enc w blk off d := by
  obtain ⟨hl, h0 | ⟨g, o, cp, cur, hv, hg, h1, h2, h3, h4⟩⟩ := h
  · cases h0.1
  · injection hv with hv1 hv2 hv3
    injection hv1 with hv1
    injection hv1 with hv1 hv4
    subst hv1; subst hv4; subst hv3
    intro j hj
    refine ⟨?_, by simp [World.frozen?, hg]⟩
    have h5 := congrArg (·[j]?) h4
    simp only [Nat.mul_one] at h5
    rw [List.getElem?_take, if_pos (by omega), List.getElem?_drop, Array.getElem?_toList, List.getElem?_map, Array.getElem?_toList, Array.getElem?_eq_getElem hj] at h5
    simp only [World.cell?, hg]
    rw [getElem!_pos d j hj]
    simpa using h5
theorem blk_cell {w : World} {b : Nat} {v : Value} (h : (blk b [v]).holds w) : w.cell? ⟨b, 0, none⟩ = some v := by
  obtain ⟨T, h⟩ := h
  simp [World.cell?, h]
/-- The order that the closure makes. -/
def cfS (w t : Nat → Int) (n : Nat) (x y : Fin n) : Int := w x * t y - w y * t x
theorem ltS {w t : Nat → Int} {n : Nat} [Inhabited (Fin n)] (x y : Fin n) : ltOf (cfS w t n) x y = decide (w x * t y < w y * t x) := by
  unfold ltOf cfS
  rw [decide_eq_decide]; omega
theorem mul_right3 {a b c : Int} : a * b * c = a * c * b := by rw [Int.mul_assoc, Int.mul_comm b c, ← Int.mul_assoc]
theorem swoS {w t : Nat → Int} {n : Nat} [Inhabited (Fin n)] (hr : Rg w t n) : SWO (ltOf (cfS w t n)) where
  irrefl x := by rw [ltS]; simp
  trans x y z h1 h2 := by
    rw [ltS, decide_eq_true_eq] at *
    have tx := hr.t x x.2
    have ty := hr.t y y.2
    have tz := hr.t z z.2
    refine Int.lt_of_mul_lt_mul_right (a := t y) ?_ (by omega)
    calc w x * t z * t y = w x * t y * t z := mul_right3
      _ < w y * t x * t z := Int.mul_lt_mul_of_pos_right h1 (by omega)
      _ = w y * t z * t x := mul_right3
      _ < w z * t y * t x := Int.mul_lt_mul_of_pos_right h2 (by omega)
      _ = w z * t x * t y := mul_right3
  ntrans x y z h1 h2 := by
    rw [ltS, decide_eq_false_iff_not, Int.not_lt] at *
    have tx := hr.t x x.2
    have ty := hr.t y y.2
    have tz := hr.t z z.2
    refine Int.le_of_mul_le_mul_right (a := t y) ?_ (by omega)
    calc w z * t x * t y = w z * t y * t x := mul_right3
      _ ≤ w y * t z * t x := Int.mul_le_mul_of_nonneg_right h2 (by omega)
      _ = w y * t x * t z := mul_right3
      _ ≤ w x * t y * t z := Int.mul_le_mul_of_nonneg_right h1 (by omega)
      _ = w x * t z * t y := mul_right3
/-- Places in order. -/
def Ord (w t : Nat → Int) (n : Nat) (o : List Nat) : Prop := o.Perm (List.range n) ∧ ∀ i j, i < j → j < n → w (o.getD i 0) * t (o.getD j 0) ≤ w (o.getD j 0) * t (o.getD i 0)
def oV (o : List Nat) : List Value := o.map fun k : Nat => (.int .i64 ((k : Int)))
set_option maxHeartbeats 2000000 in
theorem sortE {A A1 A2 : Option Addr} {n c c1 c2 g4 g5 : Nat} {ws ts : List Int} {w0 w : World} {T : List Res} (hw : Rd w0 A1 (ws.map (.int .i64))) (ht : Rd w0 A2 (ts.map (.int .i64))) (hwl : ws.length = n) (htl : ts.length = n) (hr : Rg (gI ws) (gI ts) n)
    (hS : St w0 w (vec 3 1 (.slice A n c) n (oV (List.range n)) :: blk g4 [.slice A1 n c1] :: blk g5 [.slice A2 n c2] :: T)) :
    Calls Try.prog 83 #[.slice A n c, .func (.func 84) #[] #[.pointer (some ⟨g4, 0, none⟩), .pointer (some ⟨g5, 0, none⟩)]] w fun e w' => ∃ o : List Nat, Ord (gI ws) (gI ts) n o ∧ e = .returned (.tuple #[]) ∧
      St w0 w' (vec 3 1 (.slice A n c) n (oV o) :: blk g4 [.slice A1 n c1] :: blk g5 [.slice A2 n c2] :: T) := by
  have hn16 := hr.n16
  by_cases hn : n = 0
  · subst hn
    have h := AnyF.slices_SortFunc_none (P := Try.prog) (ρ := sortL_ren) { sortL with } A c (.func (.func 84) #[] #[.pointer (some ⟨g4, 0, none⟩), .pointer (some ⟨g5, 0, none⟩)]) w
    refine Calls.mono (show Calls Try.prog 83 _ _ _ from h) ?_
    rintro e w' ⟨rfl, rfl⟩
    exact ⟨[], ⟨.nil, fun i j _ h => by omega⟩, rfl, hS⟩
  · have hv : OwnV w 3 1 (.slice A n c) n (oV (List.range n)) := hS.holds 0 _ rfl
    obtain ⟨blk', off, rfl⟩ : ∃ b o, A = some ⟨b, o, none⟩ := by
      obtain ⟨_, h0 | ⟨g, o, cp, cur, hv, _⟩⟩ := hv
      · exact absurd h0.2 hn
      · injection hv with hv1 hv2 hv3
        exact ⟨g, o, hv1⟩
    have hb : blk' < w.heap.size := (hS.lt 0 _ rfl blk' (by simp [vec, Value.ownBlock])).2
    letI : Inhabited (Fin n) := ⟨⟨0, by omega⟩⟩
    let enc : Fin n → Value := fun x => (.int .i64 (((x : Nat) : Int)))
    let d : Array (Fin n) := (List.finRange n).toArray
    have hds : d.size = n := by simp [d]
    have hdl : d.toList.map enc = oV (List.range n) := by
      apply List.ext_getElem
      · simp [d, oV]
      · intro i h1 h2
        simp [d, oV, enc]
    have eg : ∀ args w, (callFunc 84 args).run Try.prog w = .ok (.enter 84 args) w := enters_of Try.func84 (by kernel_rfl) rfl
    have hcmp : CmpReads Try.prog 84 #[.pointer (some ⟨g4, 0, none⟩), .pointer (some ⟨g5, 0, none⟩)] enc (cfS (gI ws) (gI ts) n) blk' off d.size w := by
      intro m os dk hdk x y
      have hS' := st_sort (enc := enc) hS m os dk (by omega)
      have c4 := blk_cell (hS'.holds 1 _ rfl)
      have c5 := blk_cell (hS'.holds 2 _ rfl)
      exact closE _ c4 c5 (Rd.below hw hS'.below) (Rd.below ht hS'.below) hwl htl x.2 y.2 x.2 y.2 (by omega) (by omega) rfl rfl rfl rfl (hr.w x x.2) (hr.t y y.2) (hr.w y y.2) (hr.t x x.2)
    have h := Any.slices_SortFunc sortL enc (fun _ => rfl) (cfS (gI ws) (gI ts) n) (swoS hr) 84 #[.pointer (some ⟨g4, 0, none⟩), .pointer (some ⟨g5, 0, none⟩)] blk' off c d w eg hcmp.lays (holds_of (n := n) (e := 3) (cap := c) hds (by rw [hdl]; exact hv)) hb (by omega)
    rw [hds] at h
    refine Calls.mono (show Calls Try.prog 83 _ _ _ from h) ?_
    rintro e w' ⟨rfl, d', q, os, hp, hs, rfl⟩
    have hd's : d'.size = n := by rw [hp.1, hds]
    have hpp : d'.toList.Perm (List.finRange n) := by
      have := hp.2.2
      rw [extract_all hd's, extract_all hds] at this
      exact this
    have hval : (List.finRange n).map (fun x : Fin n => (x : Nat)) = List.range n := by
      apply List.ext_getElem
      · simp
      · intro i h1 h2
        simp
    have hget : ∀ i (hi : i < n), (d'.toList.map fun x : Fin n => (x : Nat)).getD i 0 = (d'[i]! : Fin n) := fun i hi => by
      rw [List.getD_eq_getElem?_getD, List.getElem?_map, Array.getElem?_toList, Array.getElem?_eq_getElem (by omega), getElem!_pos d' i (by omega)]
      rfl
    refine ⟨d'.toList.map fun x : Fin n => (x : Nat), ⟨by rw [← hval]; exact hpp.map _, fun i j hij hj => ?_⟩, rfl, ?_⟩
    · have := hs i j (Nat.zero_le _) hij hj
      rw [ltS, decide_eq_false_iff_not, Int.not_lt] at this
      rw [hget i (by omega), hget j hj]
      exact this
    · have := st_sort (enc := enc) hS q os d' hd's
      rw [show d'.toList.map enc = oV (d'.toList.map fun x : Fin n => (x : Nat)) by simp [oV, enc]] at this
      exact this
end Go.Proofs.Ytpknjfeiiaopgaa.Share
