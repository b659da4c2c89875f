/- Maps keyed by int64 that the call holds, with those that range over them. -/
import Derived.Test.YtfcpmcdlgkfolaaDoorZhEA
import Derived.Maps.RangeRun
namespace Go.Proofs.YtfcpmcdlgkfolaaDoor.E
open Go.RowKit Go.MapKept
open Go.ChangeMaps (setBlock)

/-- A map as its keys and elements, in the order in which they came. -/
def mget : List (Int × Value) → Int → Option Value
  | [], _ => none
  | (j, v) :: l, k => if j = k then some v else mget l k
def mput : List (Int × Value) → Int → Value → List (Int × Value)
  | [], k, v => [(k, v)]
  | (j, u) :: l, k, v => if j = k then (j, v) :: l else (j, u) :: mput l k v
def mdel : List (Int × Value) → Int → List (Int × Value)
  | [], _ => []
  | (j, u) :: l, k => if j = k then l else (j, u) :: mdel l k
def keys (m : List (Int × Value)) : List Int := m.map (·.1)

theorem mget_none {m : List (Int × Value)} {k : Int} : mget m k = none ↔ k ∉ keys m := by
  induction m with
  | nil => simp [mget, keys]
  | cons p l ih =>
    obtain ⟨j, u⟩ := p
    simp only [mget, keys, List.map_cons, List.mem_cons, not_or]
    by_cases h : j = k
    · simp [h]
    · rw [if_neg h, ih]
      exact ⟨fun h2 => ⟨fun e => h e.symm, h2⟩, fun h2 => h2.2⟩
theorem mget_of_mem {m : List (Int × Value)} {k : Int} {v : Value} (hn : (keys m).Nodup) (h : (k, v) ∈ m) : mget m k = some v := by
  induction m with
  | nil => cases h
  | cons p l ih =>
    obtain ⟨j, u⟩ := p
    simp only [keys, List.map_cons, List.nodup_cons] at hn
    simp only [mget]
    rcases List.mem_cons.1 h with e | h2
    · cases e
      simp
    · have : j ≠ k := fun e => hn.1 (by rw [e]; exact List.mem_map.2 ⟨_, h2, rfl⟩)
      rw [if_neg this]
      exact ih hn.2 h2
theorem mput_get (m : List (Int × Value)) (k j : Int) (v : Value) : mget (mput m k v) j = if j = k then some v else mget m j := by
  induction m with
  | nil =>
    simp only [mput, mget]
    by_cases h : j = k
    · simp [h]
    · rw [if_neg (fun e => h e.symm), if_neg h]
  | cons p l ih =>
    obtain ⟨i, u⟩ := p
    simp only [mput]
    by_cases h : i = k
    · subst h
      simp only [if_true, mget]
      by_cases h2 : i = j
      · subst h2; simp
      · rw [if_neg h2, if_neg (fun e => h2 e.symm), if_neg h2]
    · rw [if_neg h]
      simp only [mget, ih]
      by_cases h2 : i = j
      · subst h2
        simp [h]
      · simp [h2]
theorem mput_new {m : List (Int × Value)} {k : Int} {v : Value} (h : k ∉ keys m) : mput m k v = m ++ [(k, v)] := by
  induction m with
  | nil => rfl
  | cons p l ih =>
    obtain ⟨i, u⟩ := p
    simp only [keys, List.map_cons, List.mem_cons, not_or] at h
    simp only [mput]
    rw [if_neg (fun e => h.1 e.symm), ih h.2]
    rfl
def vw (e : MapEntry) : Value × Value := (e.key, e.val)
def kv (p : Int × Value) : Value × Value := (.int .i64 p.1, p.2)
theorem find_view (k : Int) (v : Value) : ∀ (l : List MapEntry) (m : List (Int × Value)) (i : Nat), l.map vw = m.map kv →
    (Instr.findNow (.int .i64) (.int .i64 k) l i = some none ∧ (∀ x ∈ l, x.key ≠ .int .i64 k) ∧ mget m k = none) ∨
    ∃ j e, Instr.findNow (.int .i64) (.int .i64 k) l i = some (some (i + j, e.val)) ∧ l[j]? = some e ∧ e.key = .int .i64 k ∧ mget m k = some e.val ∧
      (l.modify j fun e => { e with key := .int .i64 k, val := v }).map vw = (mput m k v).map kv ∧ (l.eraseIdx j).map vw = (mdel m k).map kv
  | [], m, i, h => by
    have : m = [] := by cases m with | nil => rfl | cons _ _ => simp at h
    subst this
    exact .inl ⟨rfl, by simp, rfl⟩
  | e :: es, [], i, h => by simp at h
  | e :: es, (j, u) :: ms, i, h => by
    simp only [List.map_cons, List.cons.injEq] at h
    obtain ⟨h1, h2⟩ := h
    simp only [vw, kv, Prod.mk.injEq] at h1
    obtain ⟨hk, hv⟩ := h1
    by_cases hj : j = k
    · subst hj
      refine .inr ⟨0, e, by simp [Instr.findNow, hk, Instr.sameNow], rfl, hk, by simp [mget, hv], ?_, ?_⟩
      · simp only [List.modify_zero_cons, List.map_cons, mput, if_true, h2]
        rfl
      · simp only [List.eraseIdx_cons_zero, mdel, if_true, h2]
    · have hs : Instr.sameNow (.int .i64) (.int .i64 k) e.key = some false := by
        rw [hk]
        simp [Instr.sameNow]
        exact fun e => hj e.symm
      rcases find_view k v es ms (i + 1) h2 with ⟨g1, g2, g3⟩ | ⟨q, x, g1, g2, g3, g4, g5, g6⟩
      · refine .inl ⟨by simp [Instr.findNow, hs, g1], fun x hx => ?_, by simp [mget, hj, g3]⟩
        rcases List.mem_cons.1 hx with rfl | hx
        · rw [hk]
          intro e
          injection e with _ e
          exact hj e
        · exact g2 x hx
      · refine .inr ⟨q + 1, x, by simp [Instr.findNow, hs, g1]; omega, by simpa using g2, g3, by simp [mget, hj, g4], ?_, ?_⟩
        · simp only [List.modify_succ_cons, List.map_cons, mput, if_neg hj, g5]
          simp [vw, kv, hk, hv]
        · simp only [List.eraseIdx_cons_succ, List.map_cons, mdel, if_neg hj, g6]
          simp [vw, kv, hk, hv]

/-- The map lies in block b. -/
structure MapIs (w : World) (b : Nat) (m : List (Int × Value)) (es : Array MapEntry) (clock : Nat) : Prop where
  at_ : w.heap[b]? = some (.map es clock)
  st : Stamped es clock
  view : es.toList.map vw = m.map kv
/-- One that ranges over a map: its block, the keys still to come, the last one that came. -/
structure It where
  r : Nat
  left : List Int
  last : Option Int
def ItIs (w : World) (b : Nat) (es : Array MapEntry) (clock : Nat) (t : It) : Prop :=
  ∃ seen, w.heap[t.r]? = some (.mapIter (some b) clock seen clock) ∧ (leftOf es seen).toList.map (·.key) = t.left.map (.int .i64) ∧
    ∀ k, t.last = some k → ∃ e seen', e ∈ es.toList ∧ seen = Array.push seen' e.born ∧ e.key = .int .i64 k

/-- A map with those that range over it. -/
def mpR (b : Nat) (m : List (Int × Value)) (its : List It) : Res where
  foot := b :: its.map (·.r)
  holds w := ∃ es clock, MapIs w b m es clock ∧ (∀ t ∈ its, ItIs w b es clock t) ∧ (b :: its.map (·.r)).Nodup
  stable w w' hf hh := by
    obtain ⟨es, clock, ⟨h1, h2, h3⟩, h4, h5⟩ := hh
    refine ⟨es, clock, ⟨(hf b (List.mem_cons_self ..)).trans h1, h2, h3⟩, fun t ht => ?_, h5⟩
    obtain ⟨seen, g1, g2, g3⟩ := h4 t ht
    exact ⟨seen, (hf t.r (List.mem_cons_of_mem _ (List.mem_map.2 ⟨t, ht, rfl⟩))).trans g1, g2, g3⟩

theorem MapIs.nodup {w : World} {b : Nat} {m : List (Int × Value)} {es : Array MapEntry} {clock : Nat} (h : MapIs w b m es clock) : (keys m).Nodup := by
  have h1 := h.st.2.2
  have h2 : es.toList.map (·.key) = (keys m).map (.int .i64) := by
    have := congrArg (List.map (·.1)) h.view
    simpa [List.map_map, vw, kv, keys, Function.comp_def] using this
  rw [h2] at h1
  exact List.Pairwise.of_map (S := (· ≠ ·)) _ (fun a b hab e => hab (by rw [e])) h1
theorem MapIs.keys_eq {w : World} {b : Nat} {m : List (Int × Value)} {es : Array MapEntry} {clock : Nat} (h : MapIs w b m es clock) : es.toList.map (·.key) = (keys m).map (.int .i64) := by
  have := congrArg (List.map (·.1)) h.view
  simpa [List.map_map, vw, kv, keys, Function.comp_def] using this
theorem MapIs.get {w : World} {b : Nat} {m : List (Int × Value)} {es : Array MapEntry} {clock : Nat} (h : MapIs w b m es clock) {e : MapEntry} (he : e ∈ es.toList) : ∃ k, e.key = .int .i64 k ∧ mget m k = some e.val := by
  have h1 : vw e ∈ m.map kv := by rw [← h.view]; exact List.mem_map.2 ⟨e, he, rfl⟩
  obtain ⟨⟨k, v⟩, h2, h3⟩ := List.mem_map.1 h1
  simp only [vw, kv, Prod.mk.injEq] at h3
  exact ⟨k, h3.1.symm, by rw [← h3.2]; exact mget_of_mem h.nodup h2⟩

section
variable {P : Program} {N : Nat} {w0 : World} {F : Frm} {L : List Res} {d : Option Tmp} {x y z : Operand} {v u : Value} {ty t kt et : TypeId} {pos : String} {af : Array Edge} {gd : Option (Nat × Bool)} {K : Frm → List Res → Prop} {b k' : Nat} {m : List (Int × Value)} {its : List It}

theorem oj_makeMap (h : ∀ b, K (fput F d (.map (some b))) (mpR b [] [] :: L)) : OpJ P N w0 F L ⟨d, .makeMap t none, ty, pos, af, gd⟩ K := fun a w hF hS => by
  have hr : (execOp a.eval ⟨d, .makeMap t none, ty, pos, af, gd⟩).run P w = .ok (.value (.map (some w.heap.size))) (w.alloc (.map #[] 0)) := by
    simp [execOp, Instr.makeMap, newObj, run_new]
  unfold Oper.wp
  rw [hr]
  refine ⟨_, _, h w.heap.size, hF.put _ _, hS.add (alloc_new w _) ⟨#[], 0, ⟨heap_alloc_new w _, stamped_empty 0, rfl⟩, fun _ h => by simp at h, by simp⟩ (fun b hb => ?_)⟩
  simp only [mpR, List.map_nil, List.mem_singleton] at hb
  subst hb
  exact ⟨Nat.le_refl _, by simp⟩

theorem y_lookup {k : Int} (i : Nat) (hm : P.underlying t = some (.map kt et)) (hkt : P.underlying kt = some (.int .i64)) (hz : ∀ w, (zeroValue et).run P w = .ok v w) (hx : FE N F x (.map (some b))) (hy : FE N F y (.int .i64 k)) (hk : lget L i = some (mpR b m its)) :
    Yld P N w0 F L ⟨d, .lookup t x y false, ty, pos, af, gd⟩ ((mget m k).getD v) := fun a w hF hS => by
  obtain ⟨es, clock, ⟨h1, h2, h3⟩, _⟩ := hS.holds i _ hk
  rcases find_view k v es.toList m 0 h3 with ⟨g1, g2, g3⟩ | ⟨j, e, g1, g2, g3, g4, _⟩
  · simp [execOp, Instr.lookup, hx a hF, hy a hF, run_underlying hm, MapKept.run_getObj_map h1, run_checkKey (k := .int .i64 k) hkt rfl, run_findKey hkt g1, Result.andThen, hz, g3]
  · simp [execOp, Instr.lookup, hx a hF, hy a hF, run_underlying hm, MapKept.run_getObj_map h1, run_checkKey (k := .int .i64 k) hkt rfl, run_findKey hkt g1, Result.andThen, hz, g4]
theorem turn_mp {w : World} {i : Nat} {es' : Array MapEntry} {clock' : Nat} {m' : List (Int × Value)} (hS : St w0 w L) (hk : lget L i = some (mpR b m its)) (h : (mpR b m' its).holds (setBlock w b (.map es' clock'))) : St w0 (setBlock w b (.map es' clock')) (lset L i (mpR b m' its)) := by
  refine hS.turn hk rfl rfl rfl (by simp [setBlock]) (fun c _ hc => ?_) h (fun c hc => ⟨by simpa [setBlock] using (hS.lt i _ hk c hc).2, .inl hc⟩)
  have : b ≠ c := fun e => hc (by subst e; exact List.mem_cons_self ..)
  simp [setBlock, this]

theorem leftOf_toList (es : Array MapEntry) (seen : Array Nat) : (leftOf es seen).toList = es.toList.filter fun e => !seen.contains e.born := by simp [leftOf]
theorem left_modify (seen : Array Nat) (f : MapEntry → MapEntry) (hf : ∀ e, (f e).born = e.born) : ∀ (l : List MapEntry) (j : Nat), (∀ e, l[j]? = some e → (f e).key = e.key) →
    ((l.modify j f).filter fun e => !seen.contains e.born).map (·.key) = (l.filter fun e => !seen.contains e.born).map (·.key)
  | [], j, _ => by simp
  | e :: l, 0, h => by
    simp only [List.modify_zero_cons, List.filter_cons, hf]
    split
    · simp [h e rfl]
    · rfl
  | e :: l, j + 1, h => by
    simp only [List.modify_succ_cons, List.filter_cons]
    have := left_modify seen f hf l j (fun e' he => h e' (by simpa using he))
    split
    · rw [List.map_cons, List.map_cons, this]
    · exact this

/-- A store at a key; where somebody ranges over the map, at one that is there. -/
theorem oj_mapPut {k : Int} (i : Nat) (hm : P.underlying t = some (.map kt et)) (hkt : P.underlying kt = some (.int .i64)) (hx : FE N F x (.map (some b))) (hy : FE N F y (.int .i64 k)) (hv : FE N F z v) (hk : lget L i = some (mpR b m its)) (hits : its = [] ∨ k ∈ keys m)
    (h : K (fput F d undef) (lset L i (mpR b (mput m k v) its))) : OpJ P N w0 F L ⟨d, .mapUpdate t x y z, ty, pos, af, gd⟩ K := fun a w hF hS => by
  obtain ⟨es, clock, ⟨h1, h2, h3⟩, h4, h5⟩ := hS.holds i _ hk
  have hb : b < w.heap.size := (Array.getElem?_eq_some_iff.1 h1).1
  have hset : ∀ o, (setBlock w b o).heap[b]? = some o := fun o => by simp [setBlock, hb]
  rcases find_view k v es.toList m 0 h3 with ⟨g1, g2, g3⟩ | ⟨j, e, g1, g2, g3, g4, g5, _⟩
  · have hi : its = [] := by
      rcases hits with h | h
      · exact h
      · exact absurd h (mget_none.1 g3)
    subst hi
    have hr : (execOp a.eval ⟨d, .mapUpdate t x y z, ty, pos, af, gd⟩).run P w = .ok .skip (setBlock w b (.map (es.push { key := .int .i64 k, val := v, born := clock }) (clock + 1))) := by
      simp [execOp, Instr.mapUpdate, hx a hF, hy a hF, hv a hF, run_underlying hm, MapKept.run_getObj_map h1, run_checkKey (k := .int .i64 k) hkt rfl, run_findKey hkt g1, MapKept.run_setObj_map _ h1, Result.andThen, setBlock]
    unfold Oper.wp
    rw [hr]
    refine ⟨_, _, h, hF.put _ _, turn_mp hS hk ⟨_, _, ⟨hset _, stamped_push h2 g2, ?_⟩, fun _ h => by simp at h, h5⟩⟩
    rw [mput_new (mget_none.1 g3)]
    simp [h3, vw, kv]
  · have hj : es[j]? = some e := by simpa using g2
    have hr : (execOp a.eval ⟨d, .mapUpdate t x y z, ty, pos, af, gd⟩).run P w = .ok .skip (setBlock w b (.map (es.modify j fun e => { e with key := .int .i64 k, val := v }) clock)) := by
      simp [execOp, Instr.mapUpdate, hx a hF, hy a hF, hv a hF, run_underlying hm, MapKept.run_getObj_map h1, run_checkKey (k := .int .i64 k) hkt rfl, run_findKey hkt g1, hj, g3, run_keyThatStays (d := .int .i64) (k := .int .i64 k) rfl, MapKept.run_setObj_map _ h1, Result.andThen, setBlock]
    unfold Oper.wp
    rw [hr]
    have hkey : ∀ e', es[j]? = some e' → ({ e' with key := .int .i64 k, val := v } : MapEntry).key = e'.key := fun e' he' => by rw [hj] at he'; cases he'; exact g3.symm
    have htl : (es.modify j fun e => { e with key := .int .i64 k, val := v }).toList = es.toList.modify j fun e => { e with key := .int .i64 k, val := v } := by simp
    refine ⟨_, _, h, hF.put _ _, turn_mp hS hk ⟨_, _, ⟨hset _, stamped_modify h2 _ _ (fun _ _ => rfl) (fun e' _ he' => hkey e' he'), ?_⟩, fun q hq => ?_, h5⟩⟩
    · rw [htl]; exact g5
    · obtain ⟨seen, f1, f2, f3⟩ := h4 q hq
      have hne : b ≠ q.r := fun e => (List.nodup_cons.1 h5).1 (by rw [e]; exact List.mem_map.2 ⟨q, hq, rfl⟩)
      refine ⟨seen, by simpa [setBlock, hne] using f1, ?_, fun k2 hk2 => ?_⟩
      · rw [leftOf_toList, htl, left_modify seen _ (fun _ => by rfl) _ _ (fun e' he' => hkey e' (by simpa using he')), ← leftOf_toList]
        exact f2
      · obtain ⟨e2, s2, p1, p2, p3⟩ := f3 k2 hk2
        obtain ⟨n, hn⟩ := List.mem_iff_getElem?.1 p1
        have : (es.toList.modify j fun e => { e with key := .int .i64 k, val := v })[n]? = some (if j = n then { e2 with key := .int .i64 k, val := v } else e2) := by
          rw [List.getElem?_modify, hn]
          split <;> rfl
        refine ⟨_, s2, by rw [htl]; exact List.mem_of_getElem? this, ?_, ?_⟩
        · split <;> exact p2
        · split
          · rename_i e3
            subst e3
            have := hkey e2 (by simpa using hn)
            rw [this]
            exact p3
          · exact p3

/-- A range over the map begins. -/
theorem oj_range (i : Nat) (hm : P.underlying t = some (.map kt et)) (hx : FE N F x (.map (some b))) (hk : lget L i = some (mpR b m its))
    (h : ∀ r, K (fput F d (.pointer (some ⟨r, 0, none⟩))) (lset L i (mpR b m (⟨r, keys m, none⟩ :: its)))) : OpJ P N w0 F L ⟨d, .range t x, ty, pos, af, gd⟩ K := fun a w hF hS => by
  have hh := hS.holds i _ hk
  obtain ⟨es, clock, hM, h4, h5⟩ := hh
  have hr : (execOp a.eval ⟨d, .range t x, ty, pos, af, gd⟩).run P w = .ok (.value (.pointer (some ⟨w.heap.size, 0, none⟩))) (w.alloc (.mapIter (some b) clock #[] clock)) := by
    simp [execOp, hx a hF, run_range_map w t kt et b es clock hm hM.at_]
  unfold Oper.wp
  rw [hr]
  have hlt : ∀ c ∈ (mpR b m its).foot, c < w.heap.size := fun c hc => (hS.lt i _ hk c hc).2
  refine ⟨_, _, h w.heap.size, hF.put _ _, hS.turn hk rfl rfl rfl (by simp) (fun c hc _ => heap_alloc_old w _ hc) ?_ (fun c hc => ?_)⟩
  · refine ⟨es, clock, ⟨?_, hM.st, hM.view⟩, fun q hq => ?_, ?_⟩
    · rw [heap_alloc_old w _ (hlt b (List.mem_cons_self ..))]
      exact hM.at_
    · rcases List.mem_cons.1 hq with rfl | hq
      · refine ⟨#[], heap_alloc_new w _, ?_, fun k hk => by cases hk⟩
        rw [leftOf_toList, List.filter_eq_self.2 (fun x _ => by simp)]
        exact hM.keys_eq
      · obtain ⟨seen, f1, f2, f3⟩ := h4 q hq
        refine ⟨seen, ?_, f2, f3⟩
        rw [heap_alloc_old w _ (hlt q.r (List.mem_cons_of_mem _ (List.mem_map.2 ⟨q, hq, rfl⟩)))]
        exact f1
    · simp only [List.map_cons]
      refine List.nodup_cons.2 ⟨?_, List.nodup_cons.2 ⟨?_, (List.nodup_cons.1 h5).2⟩⟩
      · simp only [List.mem_cons, not_or]
        exact ⟨Nat.ne_of_lt (hlt b (List.mem_cons_self ..)), (List.nodup_cons.1 h5).1⟩
      · intro hc
        exact Nat.lt_irrefl _ (hlt _ (List.mem_cons_of_mem _ hc))
  · simp only [mpR, List.map_cons, List.mem_cons] at hc
    rcases hc with rfl | rfl | hc
    · exact ⟨by simpa using Nat.lt_succ_of_lt (hlt c (List.mem_cons_self ..)), .inl (List.mem_cons_self ..)⟩
    · exact ⟨by simp, .inr (Nat.le_refl _)⟩
    · exact ⟨by simpa using Nat.lt_succ_of_lt (hlt c (List.mem_cons_of_mem _ hc)), .inl (List.mem_cons_of_mem _ hc)⟩

def notk (k : Int) : Value → Bool
  | .int _ a => a != k
  | _ => true
theorem left_step {es : Array MapEntry} {clock : Nat} {seen : Array Nat} {left : List Int} {e : MapEntry} {k : Int} (hs : Stamped es clock) (he : e ∈ es.toList) (hk : e.key = .int .i64 k) (h : (leftOf es seen).toList.map (·.key) = left.map (.int .i64)) :
    (leftOf es (seen.push e.born)).toList.map (·.key) = (left.filter (· != k)).map (.int .i64) := by
  have h1 : (left.filter (· != k)).map (Value.int .i64) = (left.map (Value.int .i64)).filter (notk k) := by
    rw [List.filter_map]
    rfl
  have h2 : (leftOf es (seen.push e.born)).toList = (leftOf es seen).toList.filter (fun x => x.born != e.born) := by
    rw [leftOf_toList, leftOf_toList, List.filter_filter]
    congr 1
    funext x
    rw [Bool.eq_iff_iff]
    simp [and_comm]
  rw [h1, ← h, h2, List.filter_map]
  congr 1
  refine List.filter_congr (fun x hx => ?_)
  have hx' : x ∈ es.toList := by rw [leftOf_toList] at hx; exact (List.mem_filter.1 hx).1
  have hst := (stamped_iff es clock).1 hs
  by_cases hb : x.born = e.born
  · have := born_inj hst.2.1 hx' he hb
    subst this
    simp [notk, hk]
  · have hne : x.key ≠ e.key := fun q => hb (congrArg MapEntry.born (entry_eq_of_key hst.2.2 hx' he q))
    rw [hk] at hne
    simp only [bne_iff_ne, ne_eq, hb, not_false_eq_true, Function.comp_apply]
    rw [show (x.born != e.born) = true by simp [hb]]
    symm
    cases hkx : x.key with
    | int q a =>
      simp only [notk, bne_iff_ne, ne_eq]
      rintro rfl
      have hv : x.key ∈ (leftOf es seen).toList.map (·.key) := List.mem_map.2 ⟨x, hx, rfl⟩
      rw [h] at hv
      obtain ⟨a2, _, h3⟩ := List.mem_map.1 hv
      rw [hkx] at h3
      injection h3 with h4 h5
      subst h4 h5
      exact hne hkx
    | _ => rfl

/-- The next one of the map, whichever it be. -/
theorem oj_next {r : Nat} {left : List Int} {la : Option Int} {isS : Bool} (i : Nat) (hx : FE N F x (.pointer (some ⟨r, 0, none⟩))) (his : isS = false) (hk : lget L i = some (mpR b m (⟨r, left, la⟩ :: its)))
    (h0 : left = [] → K (fput F d (.tuple #[.bool false])) L)
    (h1 : ∀ k v, k ∈ left → mget m k = some v → K (fput F d (.tuple #[.bool true, .int .i64 k, v])) (lset L i (mpR b m (⟨r, left.filter (· != k), some k⟩ :: its)))) : OpJ P N w0 F L ⟨d, .next x isS, ty, pos, af, gd⟩ K := fun a w hF hS => by
  subst his
  obtain ⟨es, clock, hM, h4, h5⟩ := hS.holds i _ hk
  obtain ⟨seen, f1, f2, f3⟩ := h4 _ (List.mem_cons_self ..)
  rcases run_next_at (P := P) w ty r b clock clock seen es clock f1 hM.at_ hM.st.1 (Nat.le_refl _) with ⟨g0, hrun⟩ | ⟨e, he, w1, hal, hrun⟩
  · have hr : (execOp a.eval ⟨d, .next x false, ty, pos, af, gd⟩).run P w = .ok (.value (.tuple #[.bool false])) w := by
      simp [execOp, hx a hF, hrun]
    unfold Oper.wp
    rw [hr]
    have hl : left = [] := by
      have : (leftOf es seen).toList = [] := by
        apply List.eq_nil_of_length_eq_zero
        simpa using g0
      rw [this] at f2
      cases left with
      | nil => rfl
      | cons _ _ => simp at f2
    exact ⟨_, _, h0 hl, hF.put _ _, hS⟩
  · have hr : (execOp a.eval ⟨d, .next x false, ty, pos, af, gd⟩).run P w = .ok (.value (.tuple #[.bool true, e.key, e.val])) (setBlock w1 r (.mapIter (some b) clock (seen.push e.born) clock)) := by
      simp [execOp, hx a hF, hrun]
    unfold Oper.wp
    rw [hr]
    have hmem : e ∈ es.toList := by rw [leftOf_toList] at he; exact (List.mem_filter.1 he).1
    obtain ⟨k, hek, hg⟩ := hM.get hmem
    have hkl : k ∈ left := by
      have : e.key ∈ (leftOf es seen).toList.map (·.key) := List.mem_map.2 ⟨e, he, rfl⟩
      rw [f2, hek] at this
      obtain ⟨k2, h6, h7⟩ := List.mem_map.1 this
      injection h7 with _ h7
      subst h7
      exact h6
    rw [hek]
    have hS1 : St w0 w1 L := by rcases hal with rfl | rfl; exact hS; exact hS.drew
    have hh1 : w1.heap = w.heap := by rcases hal with rfl | rfl <;> rfl
    have hrl : r < w1.heap.size := by rw [hh1]; exact (Array.getElem?_eq_some_iff.1 f1).1
    have hnd := List.nodup_cons.1 h5
    have hbr : b ≠ r := fun e => hnd.1 (by rw [e]; exact List.mem_cons_self ..)
    refine ⟨_, _, h1 k e.val hkl hg, hF.put _ _, hS1.turn hk rfl rfl rfl (by simp [setBlock]) (fun c _ hc => ?_) ⟨es, clock, ⟨?_, hM.st, hM.view⟩, fun q hq => ?_, h5⟩ (fun c hc => ⟨by simpa [setBlock] using (hS1.lt i _ hk c hc).2, .inl hc⟩)⟩
    · have : r ≠ c := fun e => hc (by subst e; exact List.mem_cons_of_mem _ (List.mem_cons_self ..))
      simp [setBlock, this]
    · simp only [setBlock, Array.getElem?_setIfInBounds_ne (Ne.symm hbr), hh1]
      exact hM.at_
    · rcases List.mem_cons.1 hq with rfl | hq
      · refine ⟨seen.push e.born, by simp [setBlock, hrl], left_step hM.st hmem hek f2, fun k2 hk2 => ?_⟩
        simp only [Option.some.injEq] at hk2
        subst hk2
        exact ⟨e, seen, hmem, rfl, hek⟩
      · obtain ⟨s2, p1, p2, p3⟩ := h4 q (List.mem_cons_of_mem _ hq)
        have hqr : r ≠ q.r := fun e => (List.nodup_cons.1 hnd.2).1 (by show r ∈ _; rw [e]; exact List.mem_map.2 ⟨q, hq, rfl⟩)
        refine ⟨s2, ?_, p2, p3⟩
        simp only [setBlock, Array.getElem?_setIfInBounds_ne hqr, hh1]
        exact p1

/-- The entry that came last. -/
theorem y_entry {r : Nat} {left : List Int} {k : Int} (i : Nat) (hx : FE N F x (.pointer (some ⟨r, 0, none⟩))) (hk : lget L i = some (mpR b m (⟨r, left, some k⟩ :: its))) (hg : mget m k = some v) : Yld P N w0 F L ⟨d, .entry x, ty, pos, af, gd⟩ (.tuple #[.int .i64 k, v]) := fun a w hF hS => by
  obtain ⟨es, clock, hM, h4, h5⟩ := hS.holds i _ hk
  obtain ⟨seen, f1, f2, f3⟩ := h4 _ (List.mem_cons_self ..)
  obtain ⟨e, s2, p1, rfl, p3⟩ := f3 k rfl
  have hrun := run_entry_at (P := P) w r b clock s2 es clock e f1 hM.at_ p1 hM.st.2.1
  obtain ⟨k2, hk2, hg2⟩ := hM.get p1
  rw [p3] at hk2
  injection hk2 with _ hk2
  subst hk2
  rw [hg] at hg2
  cases hg2
  rw [p3] at hrun
  simp [execOp, hx a hF, hrun]

/-- Each key once. -/
theorem St.nodup {w : World} {i : Nat} (h : St w0 w L) (hk : lget L i = some (mpR b m its)) : (keys m).Nodup := by
  obtain ⟨es, clock, hM, _⟩ := h.holds i _ hk
  exact hM.nodup
end
end Go.Proofs.YtfcpmcdlgkfolaaDoor.E
