/- slices.SortFunc of ints by a closure that reads two slices; the closure of share.Level. -/
import Derived.Test.YtoibebmhfcjpfaaGreatDoorZfShM
import Derived.Test.YtoibebmhfcjpfaaGreatDoorZfE5
import Derived.Shelf.SlSortCmp.NoneTotal
import Derived.Ground.SlsfProg
import Derived.BigQuiet
import Derived.Deep.QuietTactic
namespace Go.Proofs
open Go.Shelf
def YtoibebmhfcjpfaaGreatDoor.Share.sortL_ren : Go.Shelf.Ren := ⟨fun | 6 => 23 | 15 => 34 | 14 => 33 | 28 => 53 | 29 => 54 | 20 => 45 | 21 => 46 | 22 => 47 | 23 => 48 | 24 => 49 | 25 => 50 | 26 => 51 | 27 => 52 | 46 => 66 | 47 => 67 | 48 => 68 | 49 => 69 | 50 => 70 | 57 => 84 | n => n, fun | 22 => 22 | 24 => 3 | 25 => 80 | 3 => 3 | 39 => 43 | 0 => 0 | 53 => 69 | 55 => 72 | 4 => 4 | 46 => 110 | 45 => 109 | 50 => 96 | 5 => 5 | 9 => 9 | 66 => 135 | 70 => 94 | 76 => 148 | 77 => 149 | n => n, fun | n => n⟩
theorem YtoibebmhfcjpfaaGreatDoor.Share.sortL : Go.Proofs.SlLaysF.n6 Tryz.prog YtoibebmhfcjpfaaGreatDoor.Share.sortL_ren := {
  mixed := by kernel_rfl
  f6 := ⟨Tryz.f23.name, by decide, Tryz.func23.trans (congrArg some (by kernel_rfl))⟩
  f14 := ⟨Tryz.f33.name, by decide, Tryz.func33.trans (congrArg some (by kernel_rfl))⟩
  f15 := Tryz.func34.trans (congrArg some (by kernel_rfl))
  f20 := ⟨Tryz.f45.name, by decide, Tryz.func45.trans (congrArg some (by kernel_rfl))⟩
  f21 := ⟨Tryz.f46.name, by decide, Tryz.func46.trans (congrArg some (by kernel_rfl))⟩
  f22 := ⟨Tryz.f47.name, by decide, Tryz.func47.trans (congrArg some (by kernel_rfl))⟩
  f23 := ⟨Tryz.f48.name, by decide, Tryz.func48.trans (congrArg some (by kernel_rfl))⟩
  f24 := ⟨Tryz.f49.name, by decide, Tryz.func49.trans (congrArg some (by kernel_rfl))⟩
  f25 := ⟨Tryz.f50.name, by decide, Tryz.func50.trans (congrArg some (by kernel_rfl))⟩
  f26 := ⟨Tryz.f51.name, by decide, Tryz.func51.trans (congrArg some (by kernel_rfl))⟩
  f27 := ⟨Tryz.f52.name, by decide, Tryz.func52.trans (congrArg some (by kernel_rfl))⟩
  f28 := Tryz.func53.trans (congrArg some (by kernel_rfl))
  f29 := Tryz.func54.trans (congrArg some (by kernel_rfl))
  f46 := ⟨Tryz.f66.name, by decide, Tryz.func66.trans (congrArg some (by kernel_rfl))⟩
  f47 := Tryz.func67.trans (congrArg some (by kernel_rfl))
  f48 := Tryz.func68.trans (congrArg some (by kernel_rfl))
  f49 := ⟨Tryz.f69.name, by decide, Tryz.func69.trans (congrArg some (by kernel_rfl))⟩
  f50 := ⟨Tryz.f70.name, by decide, Tryz.func70.trans (congrArg some (by kernel_rfl))⟩
  f57 := ⟨Tryz.f84.name, by decide, Tryz.func84.trans (congrArg some (by kernel_rfl))⟩
  t0 := Tryz.underlying0
  a0 := Tryz.isAgg0
  z0 := Tryz.sizeOf0
  v0 := Tryz.zeroValue0
  t3 := Tryz.underlying3
  a3 := Tryz.isAgg3
  z3 := Tryz.sizeOf3
  v3 := Tryz.zeroValue3
  t4 := Tryz.underlying4
  a4 := Tryz.isAgg4
  z4 := Tryz.sizeOf4
  v4 := Tryz.zeroValue4
  t5 := Tryz.underlying5
  a5 := Tryz.isAgg5
  z5 := Tryz.sizeOf5
  v5 := Tryz.zeroValue5
  t9 := Tryz.underlying9
  a9 := Tryz.isAgg9
  z9 := Tryz.sizeOf9
  v9 := Tryz.zeroValue9
  t22 := Tryz.underlying22
  a22 := Tryz.isAgg22
  z22 := Tryz.sizeOf22
  v22 := Tryz.zeroValue22
  a24 := Tryz.isAgg3
  z24 := Tryz.sizeOf3
  t25 := Tryz.underlying80
  a25 := Tryz.isAgg80
  z25 := Tryz.sizeOf80
  v25 := Tryz.zeroValue80
  t39 := Tryz.underlying43
  a39 := Tryz.isAgg43
  z39 := Tryz.sizeOf43
  v39 := Tryz.zeroValue43
  t45 := Tryz.underlying109
  a45 := Tryz.isAgg109
  z45 := Tryz.sizeOf109
  v45 := Tryz.zeroValue109
  t46 := Tryz.underlying110
  a46 := Tryz.isAgg110
  z46 := Tryz.sizeOf110
  v46 := Tryz.zeroValue110
  t50 := Tryz.underlying96
  a50 := Tryz.isAgg96
  z50 := Tryz.sizeOf96
  v50 := Tryz.zeroValue96
  t53 := Tryz.underlying69
  a53 := Tryz.isAgg69
  z53 := Tryz.sizeOf69
  v53 := Tryz.zeroValue69
  t55 := Tryz.underlying72
  a55 := Tryz.isAgg72
  z55 := Tryz.sizeOf72
  v55 := Tryz.zeroValue72
  t66 := Tryz.underlying135
  a66 := Tryz.isAgg135
  z66 := Tryz.sizeOf135
  v66 := Tryz.zeroValue135
  t70 := Tryz.underlying94
  a70 := Tryz.isAgg94
  z70 := Tryz.sizeOf94
  v70 := Tryz.zeroValue94
  t76 := Tryz.underlying148
  a76 := Tryz.isAgg148
  z76 := Tryz.sizeOf148
  v76 := Tryz.zeroValue148
  t77 := Tryz.underlying149
  a77 := Tryz.isAgg149
  z77 := Tryz.sizeOf149
  v77 := Tryz.zeroValue149 }
end Go.Proofs
namespace Go.Proofs.YtoibebmhfcjpfaaGreatDoor.Share
open Go.RowKit Go.Proofs.YtoibebmhfcjpfaaGreatDoor.E Go.Shelf Go.Lib Go.Sort

set_option maxHeartbeats 1000000 in
/-- The closure: whose part of its want is less. -/
theorem closE (W : World) {g4 g5 : Nat} {A1 A2 : Option Addr} {n m c1 c2 : Nat} {ws ts : List Int} (h4 : W.cell? ⟨g4, 0, none⟩ = some (.slice A1 n c1)) (h5 : W.cell? ⟨g5, 0, none⟩ = some (.slice A2 m c2))
    (hw : RdI .i64 W A1 ws) (ht : RdI .i64 W A2 ts) (hwl : ws.length = n) (htl : ts.length = m) {x y : Nat} (hx : x < n) (hy : y < n) (hxm : x < m) (hym : y < m) (hn : n ≤ 1000) (hm : m ≤ 1000) {a b c d : Int} (ha : gI ws x = a) (hb : gI ts y = b) (hc : gI ws y = c) (hd : gI ts x = d)
    (ba : 0 ≤ a ∧ a ≤ 1048576) (bb : 1 ≤ b ∧ b ≤ 1000) (bc : 0 ≤ c ∧ c ≤ 1048576) (bd : 1 ≤ d ∧ d ≤ 1000) :
    Calls Tryz.prog 24 #[(.int .i64 ((x : Int))), (.int .i64 ((y : Int))), .pointer (some ⟨g4, 0, none⟩), .pointer (some ⟨g5, 0, none⟩)] W fun e w' => e = .returned (.int .i64 (a * b - c * d)) ∧ ∃ q, w' = W.drewN q := by
  obtain ⟨b1, o1, rfl, hwx⟩ := hw.at_ (show x < ws.length by omega)
  obtain ⟨b1', o1', e1, hwy⟩ := hw.at_ (show y < ws.length by omega)
  obtain ⟨rfl, rfl⟩ : b1 = b1' ∧ o1 = o1' := by injection e1 with e1; injection e1 with e1 e2; exact ⟨e1, e2⟩
  obtain ⟨b2, o2, rfl, htx⟩ := ht.at_ (show x < ts.length by omega)
  obtain ⟨b2', o2', e2, hty⟩ := ht.at_ (show y < ts.length by omega)
  obtain ⟨rfl, rfl⟩ : b2 = b2' ∧ o2 = o2' := by injection e2 with e1; injection e1 with e1 e2; exact ⟨e1, e2⟩
  rw [show ws[x] = a by rw [← ha, gI, List.getD_eq_getElem?_getD, List.getElem?_eq_getElem (by omega)]; rfl] at hwx
  rw [show ws[y] = c by rw [← hc, gI, List.getD_eq_getElem?_getD, List.getElem?_eq_getElem (by omega)]; rfl] at hwy
  rw [show ts[x] = d by rw [← hd, gI, List.getD_eq_getElem?_getD, List.getElem?_eq_getElem (by omega)]; rfl] at htx
  rw [show ts[y] = b by rw [← hb, gI, List.getD_eq_getElem?_getD, List.getElem?_eq_getElem (by omega)]; rfl] at hty
  clear ha hb hc hd hw ht hwl htl e1 e2
  have p1 : 0 ≤ a * b ∧ a * b ≤ 1048576000 := ⟨Int.mul_nonneg (by omega) (by omega), by
    have := Int.mul_le_mul (show a ≤ 1048576 by omega) (show b ≤ 1000 by omega) (by omega) (by omega); omega⟩
  have p2 : 0 ≤ c * d ∧ c * d ≤ 1048576000 := ⟨Int.mul_nonneg (by omega) (by omega), by
    have := Int.mul_le_mul (show c ≤ 1048576 by omega) (show d ≤ 1000 by omega) (by omega) (by omega); omega⟩
  go_enter Tryz.func24, Tryz.ntmps24
  go_wp2_with fail
  go_quiet (fail)
  go_wp2_with fail
  go_ret
  exact ⟨rfl, _, rfl⟩

theorem extract_all {α : Type} {a : Array α} {n : Nat} (h : a.size = n) : (a.extract 0 n).toList = a.toList := by
  subst h
  rw [Array.extract_size]
variable {α : Type} [Inhabited α]
theorem putCells_row (enc : α → Value) (off : Nat) (dk : Array α) (cur : Array Value) (h : off + dk.size ≤ cur.size) : ((putCells enc off dk cur).toList.drop off).take dk.size = dk.toList.map enc := by
  apply List.ext_getElem?
  intro i
  rw [List.getElem?_take]
  by_cases hi : i < dk.size
  · rw [if_pos hi, List.getElem?_drop, Array.getElem?_toList, putCells, Array.getElem?_mapIdx, Array.getElem?_eq_getElem (by omega), List.getElem?_map, Array.getElem?_toList, Array.getElem?_eq_getElem hi]
    simp only [Option.map_some]
    rw [if_pos (by omega), show off + i - off = i by omega, getElem!_pos dk i hi]
  · rw [if_neg hi, List.getElem?_eq_none (by simp; omega)]
theorem sortWorld_heap (enc : α → Value) (w : World) (blk off m : Nat) (dk : Array α) (os : Array Obj) : (sortWorld enc w blk off m dk os).heap = w.heap.modify blk (onCells (putCells enc off dk)) ++ os := rfl
theorem st_sort {w0 w : World} {T : List Res} {e blk off cap n : Nat} {enc : α → Value} {xs : List Value} (hS : St w0 w (vec e 1 (.slice (some ⟨blk, off, none⟩) n cap) n xs :: T)) (m : Nat) (os : Array Obj) (dk : Array α) (hd : dk.size = n) :
    St w0 (sortWorld enc w blk off m dk os) (vec e 1 (.slice (some ⟨blk, off, none⟩) n cap) n (dk.toList.map enc) :: T) := by
  have hv := hS.holds 0 _ rfl
  have hlt := hS.lt 0 _ rfl
  obtain ⟨hl, h0 | ⟨g, o, cp, cur, hv, hg, h1, h2, h3, h4⟩⟩ := hv
  · cases h0.1
  · injection hv with hv1 hv2 hv3
    injection hv1 with hv1
    injection hv1 with hv1 hv4
    subst hv1; subst hv4; subst hv3
    have hb : blk < w.heap.size := (hlt blk (by simp [vec, Value.ownBlock])).2
    refine hS.turn (k := 0) (r' := vec e 1 (.slice (some ⟨blk, off, none⟩) n cap) n (dk.toList.map enc)) rfl rfl rfl rfl ?_ (fun b hb' hne => ?_) ?_ (fun b hb' => ?_)
    · rw [sortWorld_heap]; simp
    · rw [sortWorld_heap, Array.getElem?_append_left (by simpa using hb'), Array.getElem?_modify]
      rw [if_neg (fun e => hne (by simp [vec, Value.ownBlock, e]))]
    · refine ⟨by simp [hd], .inr ⟨blk, off, cap, putCells enc off dk cur, rfl, ?_, h1, h2, by simp only [putCells, Array.size_mapIdx]; exact h3, ?_⟩⟩
      · rw [sortWorld_heap, Array.getElem?_append_left (by simpa using hb), Array.getElem?_modify, if_pos rfl, hg]
        rfl
      · rw [← hd, Nat.mul_one]
        exact putCells_row enc off dk cur (by omega)
    · rw [sortWorld_heap]
      have : b = blk := by simpa [vec, Value.ownBlock] using hb'
      subst this
      exact ⟨by simp; omega, .inl (by simp [vec, Value.ownBlock])⟩
theorem holds_of {w : World} {e blk off cap n : Nat} {enc : α → Value} {d : Array α} (hd : d.size = n) (h : OwnV w e 1 (.slice (some ⟨blk, off, none⟩) n cap) n (d.toList.map enc)) : Holds enc w blk off d := by
  obtain ⟨hl, h0 | ⟨g, o, cp, cur, hv, hg, h1, h2, h3, h4⟩⟩ := h
  · cases h0.1
  · injection hv with hv1 hv2 hv3
    injection hv1 with hv1
    injection hv1 with hv1 hv4
    subst hv1; subst hv4; subst hv3
    intro j hj
    refine ⟨?_, by simp [World.frozen?, hg]⟩
    have h5 := congrArg (·[j]?) h4
    simp only [Nat.mul_one] at h5
    rw [List.getElem?_take, if_pos (by omega), List.getElem?_drop, Array.getElem?_toList, List.getElem?_map, Array.getElem?_toList, Array.getElem?_eq_getElem hj] at h5
    simp only [World.cell?, hg]
    rw [getElem!_pos d j hj]
    simpa using h5
theorem blk_cell {w : World} {b : Nat} {v : Value} (h : (blk b [v]).holds w) : w.cell? ⟨b, 0, none⟩ = some v := by
  obtain ⟨T, h⟩ := h
  simp [World.cell?, h]
/-- The order that the closure makes. -/
def cfS (w t : Nat → Int) (n : Nat) (x y : Fin n) : Int := w x * t y - w y * t x
theorem ltS {w t : Nat → Int} {n : Nat} [Inhabited (Fin n)] (x y : Fin n) : ltOf (cfS w t n) x y = decide (w x * t y < w y * t x) := by
  unfold ltOf cfS
  rw [decide_eq_decide]; omega
theorem mul_right3 {a b c : Int} : a * b * c = a * c * b := by rw [Int.mul_assoc, Int.mul_comm b c, ← Int.mul_assoc]
theorem swoS {w t : Nat → Int} {n : Nat} [Inhabited (Fin n)] (hr : Rg w t n) : SWO (ltOf (cfS w t n)) where
  irrefl x := by rw [ltS]; simp
  trans x y z h1 h2 := by
    rw [ltS, decide_eq_true_eq] at *
    have tx := hr.t x x.2
    have ty := hr.t y y.2
    have tz := hr.t z z.2
    refine Int.lt_of_mul_lt_mul_right (a := t y) ?_ (by omega)
    calc w x * t z * t y = w x * t y * t z := mul_right3
      _ < w y * t x * t z := Int.mul_lt_mul_of_pos_right h1 (by omega)
      _ = w y * t z * t x := mul_right3
      _ < w z * t y * t x := Int.mul_lt_mul_of_pos_right h2 (by omega)
      _ = w z * t x * t y := mul_right3
  ntrans x y z h1 h2 := by
    rw [ltS, decide_eq_false_iff_not, Int.not_lt] at *
    have tx := hr.t x x.2
    have ty := hr.t y y.2
    have tz := hr.t z z.2
    refine Int.le_of_mul_le_mul_right (a := t y) ?_ (by omega)
    calc w z * t x * t y = w z * t y * t x := mul_right3
      _ ≤ w y * t z * t x := Int.mul_le_mul_of_nonneg_right h2 (by omega)
      _ = w y * t x * t z := mul_right3
      _ ≤ w x * t y * t z := Int.mul_le_mul_of_nonneg_right h1 (by omega)
      _ = w x * t z * t y := mul_right3
/-- Places in order. -/
def Ord (w t : Nat → Int) (n : Nat) (o : List Nat) : Prop := o.Perm (List.range n) ∧ ∀ i j, i < j → j < n → w (o.getD i 0) * t (o.getD j 0) ≤ w (o.getD j 0) * t (o.getD i 0)
def oV (o : List Nat) : List Value := o.map fun k : Nat => (.int .i64 ((k : Int)))
set_option maxHeartbeats 2000000 in
theorem sortE {A A1 A2 : Option Addr} {n c c1 c2 g4 g5 : Nat} {ws ts : List Int} {w0 w : World} {T : List Res} (hw : Rd w0 A1 (ws.map (.int .i64))) (ht : Rd w0 A2 (ts.map (.int .i64))) (hwl : ws.length = n) (htl : ts.length = n) (hr : Rg (gI ws) (gI ts) n)
    (hS : St w0 w (vec 3 1 (.slice A n c) n (oV (List.range n)) :: blk g4 [.slice A1 n c1] :: blk g5 [.slice A2 n c2] :: T)) :
    Calls Tryz.prog 23 #[.slice A n c, .func (.func 24) #[] #[.pointer (some ⟨g4, 0, none⟩), .pointer (some ⟨g5, 0, none⟩)]] w fun e w' => ∃ o : List Nat, Ord (gI ws) (gI ts) n o ∧ e = .returned (.tuple #[]) ∧
      St w0 w' (vec 3 1 (.slice A n c) n (oV o) :: blk g4 [.slice A1 n c1] :: blk g5 [.slice A2 n c2] :: T) := by
  have hn16 := hr.n16
  by_cases hn : n = 0
  · subst hn
    have h := AnyF.slices_SortFunc_none (P := Tryz.prog) (ρ := sortL_ren) { sortL with } A c (.func (.func 24) #[] #[.pointer (some ⟨g4, 0, none⟩), .pointer (some ⟨g5, 0, none⟩)]) w
    refine Calls.mono (show Calls Tryz.prog 23 _ _ _ from h) ?_
    rintro e w' ⟨rfl, rfl⟩
    exact ⟨[], ⟨.nil, fun i j _ h => by omega⟩, rfl, hS⟩
  · have hv : OwnV w 3 1 (.slice A n c) n (oV (List.range n)) := hS.holds 0 _ rfl
    obtain ⟨blk', off, rfl⟩ : ∃ b o, A = some ⟨b, o, none⟩ := by
      obtain ⟨_, h0 | ⟨g, o, cp, cur, hv, _⟩⟩ := hv
      · exact absurd h0.2 hn
      · injection hv with hv1 hv2 hv3
        exact ⟨g, o, hv1⟩
    have hb : blk' < w.heap.size := (hS.lt 0 _ rfl blk' (by simp [vec, Value.ownBlock])).2
    letI : Inhabited (Fin n) := ⟨⟨0, by omega⟩⟩
    let enc : Fin n → Value := fun x => (.int .i64 (((x : Nat) : Int)))
    let d : Array (Fin n) := (List.finRange n).toArray
    have hds : d.size = n := by simp [d]
    have hdl : d.toList.map enc = oV (List.range n) := by
      apply List.ext_getElem
      · simp [d, oV]
      · intro i h1 h2
        simp [d, oV, enc]
    have eg : ∀ args w, (callFunc 24 args).run Tryz.prog w = .ok (.enter 24 args) w := enters_of Tryz.func24 (by kernel_rfl) rfl
    have hcmp : CmpReads Tryz.prog 24 #[.pointer (some ⟨g4, 0, none⟩), .pointer (some ⟨g5, 0, none⟩)] enc (cfS (gI ws) (gI ts) n) blk' off d.size w := by
      intro m os dk hdk x y
      have hS' := st_sort (enc := enc) hS m os dk (by omega)
      have c4 := blk_cell (hS'.holds 1 _ rfl)
      have c5 := blk_cell (hS'.holds 2 _ rfl)
      exact closE _ c4 c5 (Rd.below hw hS'.below) (Rd.below ht hS'.below) hwl htl x.2 y.2 x.2 y.2 (by omega) (by omega) rfl rfl rfl rfl (hr.w x x.2) (hr.t y y.2) (hr.w y y.2) (hr.t x x.2)
    have h := Any.slices_SortFunc sortL enc (fun _ => rfl) (cfS (gI ws) (gI ts) n) (swoS hr) 24 #[.pointer (some ⟨g4, 0, none⟩), .pointer (some ⟨g5, 0, none⟩)] blk' off c d w eg hcmp.lays (holds_of (n := n) (e := 3) (cap := c) hds (by rw [hdl]; exact hv)) hb (by omega)
    rw [hds] at h
    refine Calls.mono (show Calls Tryz.prog 23 _ _ _ from h) ?_
    rintro e w' ⟨rfl, d', q, os, hp, hs, rfl⟩
    have hd's : d'.size = n := by rw [hp.1, hds]
    have hpp : d'.toList.Perm (List.finRange n) := by
      have := hp.2.2
      rw [extract_all hd's, extract_all hds] at this
      exact this
    have hval : (List.finRange n).map (fun x : Fin n => (x : Nat)) = List.range n := by
      apply List.ext_getElem
      · simp
      · intro i h1 h2
        simp
    have hget : ∀ i (hi : i < n), (d'.toList.map fun x : Fin n => (x : Nat)).getD i 0 = (d'[i]! : Fin n) := fun i hi => by
      rw [List.getD_eq_getElem?_getD, List.getElem?_map, Array.getElem?_toList, Array.getElem?_eq_getElem (by omega), getElem!_pos d' i (by omega)]
      rfl
    refine ⟨d'.toList.map fun x : Fin n => (x : Nat), ⟨by rw [← hval]; exact hpp.map _, fun i j hij hj => ?_⟩, rfl, ?_⟩
    · have := hs i j (Nat.zero_le _) hij hj
      rw [ltS, decide_eq_false_iff_not, Int.not_lt] at this
      rw [hget i (by omega), hget j hj]
      exact this
    · have := st_sort (enc := enc) hS q os d' hd's
      rw [show d'.toList.map enc = oV (d'.toList.map fun x : Fin n => (x : Nat)) by simp [oV, enc]] at this
      exact this
end Go.Proofs.YtoibebmhfcjpfaaGreatDoor.Share
