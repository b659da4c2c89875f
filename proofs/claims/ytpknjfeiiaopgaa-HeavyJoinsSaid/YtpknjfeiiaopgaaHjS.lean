/- slices.SortFunc of counts by number; slices.Sort of ints. -/
import Derived.Test.YtpknjfeiiaopgaaHvN
import Derived.Shelf.SlSortCmp.NoneTotal
import Derived.Shelf.Sort.Plain
import Derived.Ground.SlsfProg
import Derived.Ground.NamesProg
import Derived.BigQuiet
import Derived.Deep.QuietTactic
namespace Go.Proofs
open Go.Shelf
def Ytpknjfeiiaopgaa.Heavy.sortC_ren : Go.Shelf.Ren := ⟨fun | 6 => 87 | 15 => 119 | 14 => 121 | 28 => 146 | 29 => 147 | 20 => 148 | 21 => 149 | 22 => 150 | 23 => 151 | 24 => 152 | 25 => 153 | 26 => 154 | 27 => 155 | 46 => 174 | 47 => 170 | 48 => 171 | 49 => 175 | 50 => 176 | 57 => 188 | n => n, fun | 22 => 87 | 24 => 92 | 25 => 159 | 3 => 3 | 39 => 102 | 0 => 0 | 53 => 195 | 55 => 117 | 4 => 4 | 46 => 203 | 45 => 202 | 50 => 34 | 5 => 5 | 9 => 9 | 66 => 223 | 70 => 97 | 76 => 234 | 77 => 235 | n => n, fun | n => n⟩
theorem Ytpknjfeiiaopgaa.Heavy.sortC : Go.Proofs.SlLaysF0.n6 Try.prog Ytpknjfeiiaopgaa.Heavy.sortC_ren := {
  mixed := by kernel_rfl,
  f6 := ⟨Try.f87.name, by decide, Try.func87.trans (congrArg some (by kernel_rfl))⟩,
  f14 := ⟨Try.f121.name, by decide, Try.func121.trans (congrArg some (by kernel_rfl))⟩,
  f15 := Try.func119.trans (congrArg some (by kernel_rfl)),
  f20 := ⟨Try.f148.name, by decide, Try.func148.trans (congrArg some (by kernel_rfl))⟩,
  f21 := ⟨Try.f149.name, by decide, Try.func149.trans (congrArg some (by kernel_rfl))⟩,
  f22 := ⟨Try.f150.name, by decide, Try.func150.trans (congrArg some (by kernel_rfl))⟩,
  f23 := ⟨Try.f151.name, by decide, Try.func151.trans (congrArg some (by kernel_rfl))⟩,
  f24 := ⟨Try.f152.name, by decide, Try.func152.trans (congrArg some (by kernel_rfl))⟩,
  f25 := ⟨Try.f153.name, by decide, Try.func153.trans (congrArg some (by kernel_rfl))⟩,
  f26 := ⟨Try.f154.name, by decide, Try.func154.trans (congrArg some (by kernel_rfl))⟩,
  f27 := ⟨Try.f155.name, by decide, Try.func155.trans (congrArg some (by kernel_rfl))⟩,
  f28 := Try.func146.trans (congrArg some (by kernel_rfl)),
  f29 := Try.func147.trans (congrArg some (by kernel_rfl)),
  f46 := ⟨Try.f174.name, by decide, Try.func174.trans (congrArg some (by kernel_rfl))⟩,
  f47 := Try.func170.trans (congrArg some (by kernel_rfl)),
  f48 := Try.func171.trans (congrArg some (by kernel_rfl)),
  f49 := ⟨Try.f175.name, by decide, Try.func175.trans (congrArg some (by kernel_rfl))⟩,
  f50 := ⟨Try.f176.name, by decide, Try.func176.trans (congrArg some (by kernel_rfl))⟩,
  f57 := ⟨Try.f188.name, by decide, Try.func188.trans (congrArg some (by kernel_rfl))⟩,
  t0 := Try.underlying0,
  a0 := Try.isAgg0,
  z0 := Try.sizeOf0,
  v0 := Try.zeroValue0,
  t3 := Try.underlying3,
  a3 := Try.isAgg3,
  z3 := Try.sizeOf3,
  v3 := Try.zeroValue3,
  t4 := Try.underlying4,
  a4 := Try.isAgg4,
  z4 := Try.sizeOf4,
  v4 := Try.zeroValue4,
  t5 := Try.underlying5,
  a5 := Try.isAgg5,
  z5 := Try.sizeOf5,
  v5 := Try.zeroValue5,
  t9 := Try.underlying9,
  a9 := Try.isAgg9,
  z9 := Try.sizeOf9,
  v9 := Try.zeroValue9,
  t22 := Try.underlying87,
  a22 := Try.isAgg87,
  z22 := Try.sizeOf87,
  v22 := Try.zeroValue87,
  t25 := Try.underlying159,
  a25 := Try.isAgg159,
  z25 := Try.sizeOf159,
  v25 := Try.zeroValue159,
  t39 := Try.underlying102,
  a39 := Try.isAgg102,
  z39 := Try.sizeOf102,
  v39 := Try.zeroValue102,
  t45 := Try.underlying202,
  a45 := Try.isAgg202,
  z45 := Try.sizeOf202,
  v45 := Try.zeroValue202,
  t46 := Try.underlying203,
  a46 := Try.isAgg203,
  z46 := Try.sizeOf203,
  v46 := Try.zeroValue203,
  t50 := Try.underlying34,
  a50 := Try.isAgg34,
  z50 := Try.sizeOf34,
  v50 := Try.zeroValue34,
  t53 := Try.underlying195,
  a53 := Try.isAgg195,
  z53 := Try.sizeOf195,
  v53 := Try.zeroValue195,
  t55 := Try.underlying117,
  a55 := Try.isAgg117,
  z55 := Try.sizeOf117,
  v55 := Try.zeroValue117,
  t66 := Try.underlying223,
  a66 := Try.isAgg223,
  z66 := Try.sizeOf223,
  v66 := Try.zeroValue223,
  t70 := Try.underlying97,
  a70 := Try.isAgg97,
  z70 := Try.sizeOf97,
  v70 := Try.zeroValue97,
  t76 := Try.underlying234,
  a76 := Try.isAgg234,
  z76 := Try.sizeOf234,
  v76 := Try.zeroValue234,
  t77 := Try.underlying235,
  a77 := Try.isAgg235,
  z77 := Try.sizeOf235,
  v77 := Try.zeroValue235 }
def Ytpknjfeiiaopgaa.Heavy.sortI_ren : Go.Shelf.Ren := ⟨fun | 189 => 89 | 125 => 119 | 257 => 122 | 128 => 146 | 129 => 147 | 294 => 156 | 295 => 157 | 296 => 158 | 297 => 159 | 298 => 160 | 299 => 161 | 216 => 162 | 300 => 163 | 301 => 164 | 328 => 177 | 329 => 170 | 330 => 171 | 331 => 178 | 332 => 179 | 215 => 180 | 343 => 189 | n => n, fun | 28 => 27 | 3 => 3 | 46 => 102 | 0 => 0 | 51 => 195 | 53 => 117 | 4 => 4 | 183 => 203 | 182 => 202 | 131 => 34 | 5 => 5 | 9 => 9 | 218 => 223 | 222 => 97 | 228 => 234 | 229 => 235 | n => n, fun | n => n⟩
theorem Ytpknjfeiiaopgaa.Heavy.sortI : Go.Proofs.Lays.n189 Try.prog Ytpknjfeiiaopgaa.Heavy.sortI_ren := {
  mixed := by kernel_rfl,
  f125 := Try.func119.trans (congrArg some (by kernel_rfl)),
  f128 := Try.func146.trans (congrArg some (by kernel_rfl)),
  f129 := Try.func147.trans (congrArg some (by kernel_rfl)),
  f189 := Try.func89.trans (congrArg some (by kernel_rfl)),
  f215 := Try.func180.trans (congrArg some (by kernel_rfl)),
  f216 := Try.func162.trans (congrArg some (by kernel_rfl)),
  f257 := Try.func122.trans (congrArg some (by kernel_rfl)),
  f294 := Try.func156.trans (congrArg some (by kernel_rfl)),
  f295 := Try.func157.trans (congrArg some (by kernel_rfl)),
  f296 := Try.func158.trans (congrArg some (by kernel_rfl)),
  f297 := Try.func159.trans (congrArg some (by kernel_rfl)),
  f298 := Try.func160.trans (congrArg some (by kernel_rfl)),
  f299 := Try.func161.trans (congrArg some (by kernel_rfl)),
  f300 := Try.func163.trans (congrArg some (by kernel_rfl)),
  f301 := Try.func164.trans (congrArg some (by kernel_rfl)),
  f328 := Try.func177.trans (congrArg some (by kernel_rfl)),
  f329 := Try.func170.trans (congrArg some (by kernel_rfl)),
  f330 := Try.func171.trans (congrArg some (by kernel_rfl)),
  f331 := Try.func178.trans (congrArg some (by kernel_rfl)),
  f332 := Try.func179.trans (congrArg some (by kernel_rfl)),
  f343 := Try.func189.trans (congrArg some (by kernel_rfl)),
  t0 := Try.underlying0,
  a0 := Try.isAgg0,
  z0 := Try.sizeOf0,
  v0 := Try.zeroValue0,
  t3 := Try.underlying3,
  a3 := Try.isAgg3,
  z3 := Try.sizeOf3,
  v3 := Try.zeroValue3,
  t4 := Try.underlying4,
  a4 := Try.isAgg4,
  z4 := Try.sizeOf4,
  v4 := Try.zeroValue4,
  t5 := Try.underlying5,
  a5 := Try.isAgg5,
  z5 := Try.sizeOf5,
  v5 := Try.zeroValue5,
  t9 := Try.underlying9,
  a9 := Try.isAgg9,
  z9 := Try.sizeOf9,
  v9 := Try.zeroValue9,
  t28 := Try.underlying27,
  a28 := Try.isAgg27,
  z28 := Try.sizeOf27,
  v28 := Try.zeroValue27,
  t46 := Try.underlying102,
  a46 := Try.isAgg102,
  z46 := Try.sizeOf102,
  v46 := Try.zeroValue102,
  t51 := Try.underlying195,
  a51 := Try.isAgg195,
  z51 := Try.sizeOf195,
  v51 := Try.zeroValue195,
  t53 := Try.underlying117,
  a53 := Try.isAgg117,
  z53 := Try.sizeOf117,
  v53 := Try.zeroValue117,
  t131 := Try.underlying34,
  a131 := Try.isAgg34,
  z131 := Try.sizeOf34,
  v131 := Try.zeroValue34,
  t182 := Try.underlying202,
  a182 := Try.isAgg202,
  z182 := Try.sizeOf202,
  v182 := Try.zeroValue202,
  t183 := Try.underlying203,
  a183 := Try.isAgg203,
  z183 := Try.sizeOf203,
  v183 := Try.zeroValue203,
  t218 := Try.underlying223,
  a218 := Try.isAgg223,
  z218 := Try.sizeOf223,
  v218 := Try.zeroValue223,
  t222 := Try.underlying97,
  a222 := Try.isAgg97,
  z222 := Try.sizeOf97,
  v222 := Try.zeroValue97,
  t228 := Try.underlying234,
  a228 := Try.isAgg234,
  z228 := Try.sizeOf234,
  v228 := Try.zeroValue234,
  t229 := Try.underlying235,
  a229 := Try.isAgg235,
  z229 := Try.sizeOf235,
  v229 := Try.zeroValue235 }
end Go.Proofs
namespace Go.Proofs.Ytpknjfeiiaopgaa.Heavy
open Go.RowKit Go.Proofs.Ytpknjfeiiaopgaa.E Go.Shelf Go.Lib Go.Sort

section
variable {α : Type} [Inhabited α]
theorem putCells_rowS (enc : α → Value) (off : Nat) (dk : Array α) (cur : Array Value) (h : off + dk.size ≤ cur.size) : ((putCells enc off dk cur).toList.drop off).take dk.size = dk.toList.map enc := by
  apply List.ext_getElem?
  intro i
  rw [List.getElem?_take]
  by_cases hi : i < dk.size
  · rw [if_pos hi, List.getElem?_drop, Array.getElem?_toList, putCells, Array.getElem?_mapIdx, Array.getElem?_eq_getElem (by omega), List.getElem?_map, Array.getElem?_toList, Array.getElem?_eq_getElem hi]
    simp only [Option.map_some]
    rw [if_pos (by omega), show off + i - off = i by omega, getElem!_pos dk i hi]
  · rw [if_neg hi, List.getElem?_eq_none (by simp; omega)]
theorem st_sortS {w0 w : World} {T : List Res} {e s blk off cap n : Nat} {enc : α → Value} {xs : List Value} (hS : St w0 w (vec e s (.slice (some ⟨blk, off, none⟩) n cap) n xs :: T)) (m : Nat) (os : Array Obj) (dk : Array α) (hd : dk.size = n * s) :
    St w0 (Sort.grow (putRow enc (Sort.ahead w m) blk off dk) os) (vec e s (.slice (some ⟨blk, off, none⟩) n cap) n (dk.toList.map enc) :: T) := by
  have hv := hS.holds 0 _ rfl
  have hlt := hS.lt 0 _ rfl
  obtain ⟨hl, h0 | ⟨g, o, cp, cur, hv, hg, h1, h2, h3, h4⟩⟩ := hv
  · cases h0.1
  · injection hv with hv1 hv2 hv3
    injection hv1 with hv1
    injection hv1 with hv1 hv4
    subst hv1; subst hv4; subst hv3
    have hb : blk < w.heap.size := (hlt blk (by simp [vec, Value.ownBlock])).2
    have hh : (Sort.grow (putRow enc (Sort.ahead w m) blk off dk) os).heap = w.heap.modify blk (onCells (putCells enc off dk)) ++ os := rfl
    have hns : n * s ≤ cap * s := Nat.mul_le_mul_right s h1
    refine hS.turn (k := 0) (r' := vec e s (.slice (some ⟨blk, off, none⟩) n cap) n (dk.toList.map enc)) rfl rfl rfl rfl ?_ (fun b hb' hne => ?_) ?_ (fun b hb' => ?_)
    · rw [hh]; simp
    · rw [hh, Array.getElem?_append_left (by simpa using hb'), Array.getElem?_modify]
      rw [if_neg (fun e => hne (by simp [vec, Value.ownBlock, e]))]
    · refine ⟨by simp [hd], .inr ⟨blk, off, cap, putCells enc off dk cur, rfl, ?_, h1, h2, by simp only [putCells, Array.size_mapIdx]; exact h3, ?_⟩⟩
      · rw [hh, Array.getElem?_append_left (by simpa using hb), Array.getElem?_modify, if_pos rfl, hg]
        rfl
      · rw [← hd]
        exact putCells_rowS enc off dk cur (by omega)
    · rw [hh]
      have : b = blk := by simpa [vec, Value.ownBlock] using hb'
      subst this
      exact ⟨by simp; omega, .inl (by simp [vec, Value.ownBlock])⟩
theorem holds_ofS {w : World} {e s blk off cap n : Nat} {enc : α → Value} {d : Array α} (hd : d.size = n * s) (h : OwnV w e s (.slice (some ⟨blk, off, none⟩) n cap) n (d.toList.map enc)) : Holds enc w blk off d := by
  obtain ⟨hl, h0 | ⟨g, o, cp, cur, hv, hg, h1, h2, h3, h4⟩⟩ := h
  · cases h0.1
  · injection hv with hv1 hv2 hv3
    injection hv1 with hv1
    injection hv1 with hv1 hv4
    subst hv1; subst hv4; subst hv3
    intro j hj
    refine ⟨?_, by simp [World.frozen?, hg]⟩
    have h5 := congrArg (·[j]?) h4
    replace h5 : (List.take (n * s) (List.drop off cur.toList))[j]? = (d.toList.map enc)[j]? := h5
    rw [List.getElem?_take, if_pos (by omega), List.getElem?_drop, Array.getElem?_toList, List.getElem?_map, Array.getElem?_toList, Array.getElem?_eq_getElem hj] at h5
    simp only [World.cell?, hg]
    rw [getElem!_pos d j hj]
    simpa using h5
end
theorem flat2 (d : Array (Int × Int)) : (flatK c2 2 d).toList = d.toList.flatMap c2 := by
  apply List.ext_getElem?
  intro t
  by_cases ht : t < d.size * 2
  · have h := flatMap_get (f := c2) (n := 2) d.toList (fun _ _ => rfl) (t / 2) (t % 2) (by simp; omega) (by omega)
    rw [show t / 2 * 2 + t % 2 = t by omega] at h
    have hd : t / 2 < d.size := by omega
    rw [h, Array.getElem?_toList, Array.getElem?_eq_getElem (by simpa using ht), ← getElem!_pos, get_flatK _ _ _ _ ht, getElem!_pos d (t / 2) hd, Array.getElem_toList]
    rcases Nat.mod_two_eq_zero_or_one t with e | e <;> rw [e] <;> rfl
  · rw [List.getElem?_eq_none (by simpa using ht), List.getElem?_eq_none (by rw [lenK (n := d.size) (by simp)]; omega)]
def cfC (x y : Int × Int) : Int := if x.1 < y.1 then -1 else 1
theorem ltC (x y : Int × Int) : ltOf cfC x y = decide (x.1 < y.1) := by
  unfold ltOf cfC
  rw [decide_eq_decide]
  split <;> omega
theorem swoC : SWO (ltOf cfC) where
  irrefl x := by rw [ltC]; simp
  trans x y z h1 h2 := by rw [ltC] at *; simp at *; omega
  ntrans x y z h1 h2 := by rw [ltC] at *; simp at *; omega
set_option maxHeartbeats 1000000 in
theorem closC (x y : Int × Int) (W : World) : Calls Try.prog 88 #[.agg #[(.int .i64 x.1), (.int .i64 x.2)], .agg #[(.int .i64 y.1), (.int .i64 y.2)]] W fun e w' => e = .returned (.int .i64 (cfC x y)) ∧ ∃ q os', w' = Sort.grow (W.drewN q) os' := by
  unfold cfC
  by_cases h : x.1 < y.1
  · rw [if_pos h]
    go_enter Try.func88, Try.ntmps88
    go_wp2_with fail
    go_ret
    exact ⟨rfl, 0, _, by rw [alloc_eq_grow, alloc_eq_grow, grow_grow]; rfl⟩
  · rw [if_neg h]
    go_enter Try.func88, Try.ntmps88
    go_wp2_with fail
    go_ret
    exact ⟨rfl, 0, _, by rw [alloc_eq_grow, alloc_eq_grow, grow_grow]; rfl⟩
theorem some_of {w : World} {e s n c : Nat} {A : Option Addr} {xs : List Value} (h : OwnV w e s (.slice A n c) n xs) (hn : n ≠ 0) : ∃ b o, A = some ⟨b, o, none⟩ := by
  obtain ⟨_, h0 | ⟨g, o, cp, cur, hv, _⟩⟩ := h
  · exact absurd h0.2 hn
  · injection hv with hv1 hv2 hv3
    exact ⟨g, o, hv1⟩
theorem ext_all {α : Type} {a : Array α} {n : Nat} (h : a.size = n) : (a.extract 0 n).toList = a.toList := by
  subst h
  rw [Array.extract_size]
theorem k1_arr {d : Array (Int × Int)} {i : Nat} (h : i < d.size) : k1 d.toList i = d[i]!.1 := by
  unfold k1
  rw [List.getD_eq_getElem?_getD, Array.getElem?_toList, Array.getElem?_eq_getElem h, getElem!_pos d i h]
  rfl
set_option maxHeartbeats 1000000 in
theorem sortCE {w0 w : World} {T : List Res} {A : Option Addr} {n c : Nat} {l : List (Int × Int)} (hS : St w0 w (vec 92 2 (.slice A n c) n (l.flatMap c2) :: T)) (hn : l.length = n) (h4 : n ≤ 1000000) (hnd : (l.map (·.1)).Nodup) :
    Calls Try.prog 87 #[.slice A n c, .func (.func 88) #[] #[]] w fun e w' => ∃ r : List (Int × Int), (r.Perm l ∧ Up r) ∧ e = .returned (.tuple #[]) ∧ St w0 w' (vec 92 2 (.slice A n c) n (r.flatMap c2) :: T) := by
  by_cases h0 : n = 0
  · subst h0
    have h := AnyF.slices_SortFunc_none sortC A c (.func (.func 88) #[] #[]) w
    refine Calls.mono (show Calls Try.prog 87 _ _ _ from h) ?_
    rintro e w' ⟨rfl, rfl⟩
    have : l = [] := List.eq_nil_of_length_eq_zero hn
    subst this
    exact ⟨[], ⟨.nil, fun i j _ h => by simp at h⟩, rfl, hS⟩
  · have hv : OwnV w 92 2 (.slice A n c) n (l.flatMap c2) := hS.holds 0 _ rfl
    obtain ⟨blk', off, rfl⟩ := some_of hv h0
    have hb : blk' < w.heap.size := (hS.lt 0 _ rfl blk' (by simp [vec, Value.ownBlock])).2
    have hds : l.toArray.size = n := by simpa using hn
    have eg : ∀ args w, (callFunc 88 args).run Try.prog w = .ok (.enter 88 args) w := enters_of Try.func88 (by kernel_rfl) rfl
    have hcmp : CmpLays Try.prog 88 #[] c2 2 cfC blk' off l.toArray.size w := fun _ _ _ _ x y => closC x y _
    have hH : HoldsK c2 2 w blk' off l.toArray := holds_ofS (n := n) (s := 2) (e := 92) (cap := c) (by rw [size_flatK, hds]) (by rw [List.map_id, flat2]; exact hv)
    have h := AnyQ.slices_SortFunc sortC 2 Try.isAgg92 Try.sizeOf92 c2 (fun _ => rfl) (fun x v hv => by simp [c2] at hv; rcases hv with rfl | rfl <;> rfl) cfC swoC 88 #[] blk' off c l.toArray w eg hcmp hH hb (by rw [hds]; omega)
    rw [hds] at h
    refine Calls.mono (show Calls Try.prog 87 _ _ _ from h) ?_
    rintro e w' ⟨rfl, d', q, os, hp, hs, rfl⟩
    have hd's : d'.size = n := by rw [hp.1, hds]
    have hpp : d'.toList.Perm l := by
      have := hp.2.2
      rw [ext_all hd's, ext_all hds] at this
      exact this
    refine ⟨d'.toList, ⟨hpp, fun i j hij hj => ?_⟩, rfl, ?_⟩
    · have hj' : j < d'.size := by simpa using hj
      have h1 := hs i j (Nat.zero_le _) hij (by omega)
      rw [ltC, decide_eq_false_iff_not, Int.not_lt] at h1
      rw [k1_arr (by omega), k1_arr hj']
      have hnd' : (d'.toList.map (·.1)).Nodup := (hpp.map _).nodup_iff.2 hnd
      have h2 := List.pairwise_iff_getElem.1 hnd' i j (by simp; omega) (by simpa using hj') hij
      simp only [List.getElem_map, Array.getElem_toList] at h2
      rw [getElem!_pos d' i (by omega), getElem!_pos d' j hj'] at h1 ⊢
      omega
    · have h1 := st_sortS (enc := id) hS q os (flatK c2 2 d') (by rw [size_flatK, hd's])
      rw [List.map_id, flat2] at h1
      exact h1
set_option maxHeartbeats 1000000 in
theorem sortIE {w0 w : World} {T : List Res} {A : Option Addr} {n c : Nat} {zs : List Int} (hS : St w0 w (vec 3 1 (.slice A n c) n (zs.map (Value.int .i64)) :: T)) (hn : zs.length = n) (h4 : n ≤ 1000000) (h0 : n ≠ 0) :
    Calls Try.prog 89 #[.slice A n c] w fun e w' => ∃ r : List Int, (r.Perm zs ∧ r.Pairwise (· ≤ ·)) ∧ e = .returned (.tuple #[]) ∧ St w0 w' (vec 3 1 (.slice A n c) n (r.map (Value.int .i64)) :: T) := by
  have hv : OwnV w 3 1 (.slice A n c) n (zs.map (Value.int .i64)) := hS.holds 0 _ rfl
  obtain ⟨blk', off, rfl⟩ := some_of hv h0
  have hb : blk' < w.heap.size := (hS.lt 0 _ rfl blk' (by simp [vec, Value.ownBlock])).2
  have h := Any.slices_Sort_int sortI blk' off c zs w (holds_ofS (n := n) (s := 1) (e := 3) (cap := c) (d := zs.toArray) (by simpa using hn) hv) hb (by omega)
  rw [hn] at h
  refine Calls.mono (show Calls Try.prog 89 _ _ _ from h) ?_
  rintro e w' ⟨rfl, q, os, rfl⟩
  have hp := List.mergeSort_perm zs fun x y => decide (x ≤ y)
  refine ⟨zs.mergeSort fun x y => decide (x ≤ y), ⟨hp, ?_⟩, rfl, ?_⟩
  · have := List.pairwise_mergeSort (le := fun x y : Int => decide (x ≤ y)) (fun a b c h1 h2 => by simp at *; omega) (fun a b => by simp; omega) zs
    exact this.imp fun h => by simpa using h
  · have h1 := st_sortS (enc := Value.int .i64) hS q os (zs.mergeSort fun x y => decide (x ≤ y)).toArray (by have := hp.length_eq; simp; omega)
    exact h1
end Go.Proofs.Ytpknjfeiiaopgaa.Heavy
