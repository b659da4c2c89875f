/- Maps keyed by int64 that the call holds, with those that range over them. -/
import Derived.Test.YtfcpmcdlgkfolaaDoorZsEA
import Derived.Maps.RangeRun
namespace Go.Proofs.YtfcpmcdlgkfolaaDoor.E
open Go.RowKit Go.MapKept
open Go.ChangeMaps (setBlock)

/-- A map as its keys and elements, in the order in which they came. -/
def mget : List (Int × Value) → Int → Option Value
  | [], _ => none
  | (j, v) :: l, k => if j = k then some v else mget l k
def mput : List (Int × Value) → Int → Value → List (Int × Value)
  | [], k, v => [(k, v)]
  | (j, u) :: l, k, v => if j = k then (j, v) :: l else (j, u) :: mput l k v
def mdel : List (Int × Value) → Int → List (Int × Value)
  | [], _ => []
  | (j, u) :: l, k => if j = k then l else (j, u) :: mdel l k
def keys (m : List (Int × Value)) : List Int := m.map (·.1)

theorem mget_none {m : List (Int × Value)} {k : Int} : mget m k = none ↔ k ∉ keys m := by
  induction m with
  | nil => simp [mget, keys]
  | cons p l ih =>
    obtain ⟨j, u⟩ := p
    simp only [mget, keys, List.map_cons, List.mem_cons, not_or]
    by_cases h : j = k
    · simp [h]
    · rw [if_neg h, ih]
      exact ⟨fun h2 => ⟨fun e => h e.symm, h2⟩, fun h2 => h2.2⟩
theorem mget_of_mem {m : List (Int × Value)} {k : Int} {v : Value} (hn : (keys m).Nodup) (h : (k, v) ∈ m) : mget m k = some v := by
  induction m with
  | nil => cases h
  | cons p l ih =>
    obtain ⟨j, u⟩ := p
    simp only [keys, List.map_cons, List.nodup_cons] at hn
    simp only [mget]
    rcases List.mem_cons.1 h with e | h2
    · cases e
      simp
    · have : j ≠ k := fun e => hn.1 (by rw [e]; exact List.mem_map.2 ⟨_, h2, rfl⟩)
      rw [if_neg this]
      exact ih hn.2 h2
theorem mput_get (m : List (Int × Value)) (k j : Int) (v : Value) : mget (mput m k v) j = if j = k then some v else mget m j := by
  induction m with
  | nil =>
    simp only [mput, mget]
    by_cases h : j = k
    · simp [h]
    · rw [if_neg (fun e => h e.symm), if_neg h]
  | cons p l ih =>
    obtain ⟨i, u⟩ := p
    simp only [mput]
    by_cases h : i = k
    · subst h
      simp only [if_true, mget]
      by_cases h2 : i = j
      · subst h2; simp
      · rw [if_neg h2, if_neg (fun e => h2 e.symm), if_neg h2]
    · rw [if_neg h]
      simp only [mget, ih]
      by_cases h2 : i = j
      · subst h2
        simp [h]
      · simp [h2]
theorem mput_new {m : List (Int × Value)} {k : Int} {v : Value} (h : k ∉ keys m) : mput m k v = m ++ [(k, v)] := by
  induction m with
  | nil => rfl
  | cons p l ih =>
    obtain ⟨i, u⟩ := p
    simp only [keys, List.map_cons, List.mem_cons, not_or] at h
    simp only [mput]
    rw [if_neg (fun e => h.1 e.symm), ih h.2]
    rfl
theorem mdel_get {m : List (Int × Value)} (hn : (keys m).Nodup) (k j : Int) : mget (mdel m k) j = if j = k then none else mget m j := by
  induction m with
  | nil => simp [mdel, mget]
  | cons p l ih =>
    obtain ⟨i, u⟩ := p
    simp only [keys, List.map_cons, List.nodup_cons] at hn
    simp only [mdel]
    by_cases h : i = k
    · subst h
      simp only [if_true, mget]
      by_cases h2 : j = i
      · subst h2
        rw [if_pos rfl]
        exact mget_none.2 hn.1
      · rw [if_neg h2, if_neg (fun e => h2 e.symm)]
    · rw [if_neg h]
      simp only [mget, ih hn.2]
      by_cases h2 : i = j
      · subst h2
        simp [h]
      · simp [h2]
theorem mdel_none {m : List (Int × Value)} {k : Int} (h : k ∉ keys m) : mdel m k = m := by
  induction m with
  | nil => rfl
  | cons p l ih =>
    obtain ⟨i, u⟩ := p
    simp only [keys, List.map_cons, List.mem_cons, not_or] at h
    simp only [mdel]
    rw [if_neg (fun e => h.1 e.symm), ih h.2]
theorem mdel_len {m : List (Int × Value)} {k : Int} (h : k ∈ keys m) : (mdel m k).length + 1 = m.length := by
  induction m with
  | nil => simp [keys] at h
  | cons p l ih =>
    obtain ⟨i, u⟩ := p
    simp only [mdel]
    by_cases e : i = k
    · simp [e]
    · rw [if_neg e]
      have : k ∈ keys l := by
        simp only [keys, List.map_cons, List.mem_cons] at h
        rcases h with h | h
        · exact absurd h.symm e
        · exact h
      simp [ih this]
def vw (e : MapEntry) : Value × Value := (e.key, e.val)
def kv (p : Int × Value) : Value × Value := (.int .i64 p.1, p.2)
theorem find_view (k : Int) (v : Value) : ∀ (l : List MapEntry) (m : List (Int × Value)) (i : Nat), l.map vw = m.map kv →
    (Instr.findNow (.int .i64) (.int .i64 k) l i = some none ∧ (∀ x ∈ l, x.key ≠ .int .i64 k) ∧ mget m k = none) ∨
    ∃ j e, Instr.findNow (.int .i64) (.int .i64 k) l i = some (some (i + j, e.val)) ∧ l[j]? = some e ∧ e.key = .int .i64 k ∧ mget m k = some e.val ∧
      (l.modify j fun e => { e with key := .int .i64 k, val := v }).map vw = (mput m k v).map kv ∧ (l.eraseIdx j).map vw = (mdel m k).map kv
  | [], m, i, h => by
    have : m = [] := by cases m with | nil => rfl | cons _ _ => simp at h
    subst this
    exact .inl ⟨rfl, by simp, rfl⟩
  | e :: es, [], i, h => by simp at h
  | e :: es, (j, u) :: ms, i, h => by
    simp only [List.map_cons, List.cons.injEq] at h
    obtain ⟨h1, h2⟩ := h
    simp only [vw, kv, Prod.mk.injEq] at h1
    obtain ⟨hk, hv⟩ := h1
    by_cases hj : j = k
    · subst hj
      refine .inr ⟨0, e, by simp [Instr.findNow, hk, Instr.sameNow], rfl, hk, by simp [mget, hv], ?_, ?_⟩
      · simp only [List.modify_zero_cons, List.map_cons, mput, if_true, h2]
        rfl
      · simp only [List.eraseIdx_cons_zero, mdel, if_true, h2]
    · have hs : Instr.sameNow (.int .i64) (.int .i64 k) e.key = some false := by
        rw [hk]
        simp [Instr.sameNow]
        exact fun e => hj e.symm
      rcases find_view k v es ms (i + 1) h2 with ⟨g1, g2, g3⟩ | ⟨q, x, g1, g2, g3, g4, g5, g6⟩
      · refine .inl ⟨by simp [Instr.findNow, hs, g1], fun x hx => ?_, by simp [mget, hj, g3]⟩
        rcases List.mem_cons.1 hx with rfl | hx
        · rw [hk]
          intro e
          injection e with _ e
          exact hj e
        · exact g2 x hx
      · refine .inr ⟨q + 1, x, by simp [Instr.findNow, hs, g1]; omega, by simpa using g2, g3, by simp [mget, hj, g4], ?_, ?_⟩
        · simp only [List.modify_succ_cons, List.map_cons, mput, if_neg hj, g5]
          simp [vw, kv, hk, hv]
        · simp only [List.eraseIdx_cons_succ, List.map_cons, mdel, if_neg hj, g6]
          simp [vw, kv, hk, hv]

/-- The map lies in block b. -/
structure MapIs (w : World) (b : Nat) (m : List (Int × Value)) (es : Array MapEntry) (clock : Nat) : Prop where
  at_ : w.heap[b]? = some (.map es clock)
  st : Stamped es clock
  view : es.toList.map vw = m.map kv
/-- One that ranges over a map: its block, the keys still to come, the last one that came. -/
structure It where
  r : Nat
  left : List Int
  last : Option Int
def ItIs (w : World) (b : Nat) (es : Array MapEntry) (clock : Nat) (t : It) : Prop :=
  ∃ seen, w.heap[t.r]? = some (.mapIter (some b) clock seen clock) ∧ (leftOf es seen).toList.map (·.key) = t.left.map (.int .i64) ∧
    ∀ k, t.last = some k → ∃ e seen', e ∈ es.toList ∧ seen = Array.push seen' e.born ∧ e.key = .int .i64 k

/-- A map with those that range over it. -/
def mpR (b : Nat) (m : List (Int × Value)) (its : List It) : Res where
  foot := b :: its.map (·.r)
  holds w := ∃ es clock, MapIs w b m es clock ∧ (∀ t ∈ its, ItIs w b es clock t) ∧ (b :: its.map (·.r)).Nodup
  stable w w' hf hh := by
    obtain ⟨es, clock, ⟨h1, h2, h3⟩, h4, h5⟩ := hh
    refine ⟨es, clock, ⟨(hf b (List.mem_cons_self ..)).trans h1, h2, h3⟩, fun t ht => ?_, h5⟩
    obtain ⟨seen, g1, g2, g3⟩ := h4 t ht
    exact ⟨seen, (hf t.r (List.mem_cons_of_mem _ (List.mem_map.2 ⟨t, ht, rfl⟩))).trans g1, g2, g3⟩

theorem MapIs.nodup {w : World} {b : Nat} {m : List (Int × Value)} {es : Array MapEntry} {clock : Nat} (h : MapIs w b m es clock) : (keys m).Nodup := by
  have h1 := h.st.2.2
  have h2 : es.toList.map (·.key) = (keys m).map (.int .i64) := by
    have := congrArg (List.map (·.1)) h.view
    simpa [List.map_map, vw, kv, keys, Function.comp_def] using this
  rw [h2] at h1
  exact List.Pairwise.of_map (S := (· ≠ ·)) _ (fun a b hab e => hab (by rw [e])) h1
theorem MapIs.get {w : World} {b : Nat} {m : List (Int × Value)} {es : Array MapEntry} {clock : Nat} (h : MapIs w b m es clock) {e : MapEntry} (he : e ∈ es.toList) : ∃ k, e.key = .int .i64 k ∧ mget m k = some e.val := by
  have h1 : vw e ∈ m.map kv := by rw [← h.view]; exact List.mem_map.2 ⟨e, he, rfl⟩
  obtain ⟨⟨k, v⟩, h2, h3⟩ := List.mem_map.1 h1
  simp only [vw, kv, Prod.mk.injEq] at h3
  exact ⟨k, h3.1.symm, by rw [← h3.2]; exact mget_of_mem h.nodup h2⟩

section
variable {P : Program} {N : Nat} {w0 : World} {F : Frm} {L : List Res} {d : Option Tmp} {x y z : Operand} {v u : Value} {ty t kt et : TypeId} {pos : String} {af : Array Edge} {gd : Option (Nat × Bool)} {K : Frm → List Res → Prop} {b k' : Nat} {m : List (Int × Value)} {its : List It}

theorem oj_makeMap (h : ∀ b, K (fput F d (.map (some b))) (mpR b [] [] :: L)) : OpJ P N w0 F L ⟨d, .makeMap t none, ty, pos, af, gd⟩ K := fun a w hF hS => by
  have hr : (execOp a.eval ⟨d, .makeMap t none, ty, pos, af, gd⟩).run P w = .ok (.value (.map (some w.heap.size))) (w.alloc (.map #[] 0)) := by
    simp [execOp, Instr.makeMap, newObj, run_new]
  unfold Oper.wp
  rw [hr]
  refine ⟨_, _, h w.heap.size, hF.put _ _, hS.add (alloc_new w _) ⟨#[], 0, ⟨heap_alloc_new w _, stamped_empty 0, rfl⟩, fun _ h => by simp at h, by simp⟩ (fun b hb => ?_)⟩
  simp only [mpR, List.map_nil, List.mem_singleton] at hb
  subst hb
  exact ⟨Nat.le_refl _, by simp⟩

theorem y_lookup2 {k : Int} (i : Nat) (hm : P.underlying t = some (.map kt et)) (hkt : P.underlying kt = some (.int .i64)) (hz : ∀ w, (zeroValue et).run P w = .ok v w) (hx : FE N F x (.map (some b))) (hy : FE N F y (.int .i64 k)) (hk : lget L i = some (mpR b m its)) :
    Yld P N w0 F L ⟨d, .lookup t x y true, ty, pos, af, gd⟩ (.tuple #[(mget m k).getD v, .bool (mget m k).isSome]) := fun a w hF hS => by
  obtain ⟨es, clock, ⟨h1, h2, h3⟩, _⟩ := hS.holds i _ hk
  rcases find_view k v es.toList m 0 h3 with ⟨g1, g2, g3⟩ | ⟨j, e, g1, g2, g3, g4, _⟩
  · simp [execOp, Instr.lookup, hx a hF, hy a hF, run_underlying hm, MapKept.run_getObj_map h1, run_checkKey (k := .int .i64 k) hkt rfl, run_findKey hkt g1, Result.andThen, hz, g3]
  · simp [execOp, Instr.lookup, hx a hF, hy a hF, run_underlying hm, MapKept.run_getObj_map h1, run_checkKey (k := .int .i64 k) hkt rfl, run_findKey hkt g1, Result.andThen, hz, g4]
theorem turn_mp {w : World} {i : Nat} {es' : Array MapEntry} {clock' : Nat} {m' : List (Int × Value)} (hS : St w0 w L) (hk : lget L i = some (mpR b m its)) (h : (mpR b m' its).holds (setBlock w b (.map es' clock'))) : St w0 (setBlock w b (.map es' clock')) (lset L i (mpR b m' its)) := by
  refine hS.turn hk rfl rfl rfl (by simp [setBlock]) (fun c _ hc => ?_) h (fun c hc => ⟨by simpa [setBlock] using (hS.lt i _ hk c hc).2, .inl hc⟩)
  have : b ≠ c := fun e => hc (by subst e; exact List.mem_cons_self ..)
  simp [setBlock, this]

theorem leftOf_toList (es : Array MapEntry) (seen : Array Nat) : (leftOf es seen).toList = es.toList.filter fun e => !seen.contains e.born := by simp [leftOf]
theorem left_modify (seen : Array Nat) (f : MapEntry → MapEntry) (hf : ∀ e, (f e).born = e.born) : ∀ (l : List MapEntry) (j : Nat), (∀ e, l[j]? = some e → (f e).key = e.key) →
    ((l.modify j f).filter fun e => !seen.contains e.born).map (·.key) = (l.filter fun e => !seen.contains e.born).map (·.key)
  | [], j, _ => by simp
  | e :: l, 0, h => by
    simp only [List.modify_zero_cons, List.filter_cons, hf]
    split
    · simp [h e rfl]
    · rfl
  | e :: l, j + 1, h => by
    simp only [List.modify_succ_cons, List.filter_cons]
    have := left_modify seen f hf l j (fun e' he => h e' (by simpa using he))
    split
    · rw [List.map_cons, List.map_cons, this]
    · exact this

/-- A store at a key; where somebody ranges over the map, at one that is there. -/
theorem oj_mapPut {k : Int} (i : Nat) (hm : P.underlying t = some (.map kt et)) (hkt : P.underlying kt = some (.int .i64)) (hx : FE N F x (.map (some b))) (hy : FE N F y (.int .i64 k)) (hv : FE N F z v) (hk : lget L i = some (mpR b m its)) (hits : its = [] ∨ k ∈ keys m)
    (h : K (fput F d undef) (lset L i (mpR b (mput m k v) its))) : OpJ P N w0 F L ⟨d, .mapUpdate t x y z, ty, pos, af, gd⟩ K := fun a w hF hS => by
  obtain ⟨es, clock, ⟨h1, h2, h3⟩, h4, h5⟩ := hS.holds i _ hk
  have hb : b < w.heap.size := (Array.getElem?_eq_some_iff.1 h1).1
  have hset : ∀ o, (setBlock w b o).heap[b]? = some o := fun o => by simp [setBlock, hb]
  rcases find_view k v es.toList m 0 h3 with ⟨g1, g2, g3⟩ | ⟨j, e, g1, g2, g3, g4, g5, _⟩
  · have hi : its = [] := by
      rcases hits with h | h
      · exact h
      · exact absurd h (mget_none.1 g3)
    subst hi
    have hr : (execOp a.eval ⟨d, .mapUpdate t x y z, ty, pos, af, gd⟩).run P w = .ok .skip (setBlock w b (.map (es.push { key := .int .i64 k, val := v, born := clock }) (clock + 1))) := by
      simp [execOp, Instr.mapUpdate, hx a hF, hy a hF, hv a hF, run_underlying hm, MapKept.run_getObj_map h1, run_checkKey (k := .int .i64 k) hkt rfl, run_findKey hkt g1, MapKept.run_setObj_map _ h1, Result.andThen, setBlock]
    unfold Oper.wp
    rw [hr]
    refine ⟨_, _, h, hF.put _ _, turn_mp hS hk ⟨_, _, ⟨hset _, stamped_push h2 g2, ?_⟩, fun _ h => by simp at h, h5⟩⟩
    rw [mput_new (mget_none.1 g3)]
    simp [h3, vw, kv]
  · have hj : es[j]? = some e := by simpa using g2
    have hr : (execOp a.eval ⟨d, .mapUpdate t x y z, ty, pos, af, gd⟩).run P w = .ok .skip (setBlock w b (.map (es.modify j fun e => { e with key := .int .i64 k, val := v }) clock)) := by
      simp [execOp, Instr.mapUpdate, hx a hF, hy a hF, hv a hF, run_underlying hm, MapKept.run_getObj_map h1, run_checkKey (k := .int .i64 k) hkt rfl, run_findKey hkt g1, hj, g3, run_keyThatStays (d := .int .i64) (k := .int .i64 k) rfl, MapKept.run_setObj_map _ h1, Result.andThen, setBlock]
    unfold Oper.wp
    rw [hr]
    have hkey : ∀ e', es[j]? = some e' → ({ e' with key := .int .i64 k, val := v } : MapEntry).key = e'.key := fun e' he' => by rw [hj] at he'; cases he'; exact g3.symm
    have htl : (es.modify j fun e => { e with key := .int .i64 k, val := v }).toList = es.toList.modify j fun e => { e with key := .int .i64 k, val := v } := by simp
    refine ⟨_, _, h, hF.put _ _, turn_mp hS hk ⟨_, _, ⟨hset _, stamped_modify h2 _ _ (fun _ _ => rfl) (fun e' _ he' => hkey e' he'), ?_⟩, fun q hq => ?_, h5⟩⟩
    · rw [htl]; exact g5
    · obtain ⟨seen, f1, f2, f3⟩ := h4 q hq
      have hne : b ≠ q.r := fun e => (List.nodup_cons.1 h5).1 (by rw [e]; exact List.mem_map.2 ⟨q, hq, rfl⟩)
      refine ⟨seen, by simpa [setBlock, hne] using f1, ?_, fun k2 hk2 => ?_⟩
      · rw [leftOf_toList, htl, left_modify seen _ (fun _ => by rfl) _ _ (fun e' he' => hkey e' (by simpa using he')), ← leftOf_toList]
        exact f2
      · obtain ⟨e2, s2, p1, p2, p3⟩ := f3 k2 hk2
        obtain ⟨n, hn⟩ := List.mem_iff_getElem?.1 p1
        have : (es.toList.modify j fun e => { e with key := .int .i64 k, val := v })[n]? = some (if j = n then { e2 with key := .int .i64 k, val := v } else e2) := by
          rw [List.getElem?_modify, hn]
          split <;> rfl
        refine ⟨_, s2, by rw [htl]; exact List.mem_of_getElem? this, ?_, ?_⟩
        · split <;> exact p2
        · split
          · rename_i e3
            subst e3
            have := hkey e2 (by simpa using hn)
            rw [this]
            exact p3
          · exact p3

theorem oj_mapDel {k : Int} (i : Nat) (hm : P.underlying t = some (.map kt et)) (hkt : P.underlying kt = some (.int .i64)) (hx : FE N F x (.map (some b))) (hy : FE N F y (.int .i64 k)) (hk : lget L i = some (mpR b m []))
    (h : K (fput F d (.tuple #[])) (lset L i (mpR b (mdel m k) []))) {t2 : TypeId} : OpJ P N w0 F L ⟨d, .call ⟨.builtin .delete, #[x, y], #[t, t2]⟩, ty, pos, af, gd⟩ K := fun a w hF hS => by
  obtain ⟨es, clock, ⟨h1, h2, h3⟩, h4, h5⟩ := hS.holds i _ hk
  have hb : b < w.heap.size := (Array.getElem?_eq_some_iff.1 h1).1
  have hset : ∀ o, (setBlock w b o).heap[b]? = some o := fun o => by simp [setBlock, hb]
  rcases find_view k (.int .i64 0) es.toList m 0 h3 with ⟨g1, g2, g3⟩ | ⟨j, e, g1, g2, g3, g4, _, g6⟩
  · have hr : (execOp a.eval ⟨d, .call ⟨.builtin .delete, #[x, y], #[t, t2]⟩, ty, pos, af, gd⟩).run P w = .ok (.value (.tuple #[])) (setBlock w b (.map es clock)) := by
      simp [execOp, resolve, invoke, builtin, Builtin.delete_, hx a hF, hy a hF, run_underlying hm, MapKept.run_getObj_map h1, run_checkKey (k := .int .i64 k) hkt rfl, run_findKey hkt g1, MapKept.run_setObj_map _ h1, Result.andThen, setBlock]
    unfold Oper.wp
    rw [hr]
    refine ⟨_, _, h, hF.put _ _, turn_mp hS hk ⟨_, _, ⟨hset _, h2, ?_⟩, fun _ h => by simp at h, h5⟩⟩
    rw [mdel_none (mget_none.1 g3)]
    exact h3
  · have hjl : j < es.size := by simpa using (List.getElem?_eq_some_iff.1 g2).1
    have hsub : (es.eraseIdxIfInBounds j).toList = es.toList.eraseIdx j := by
      unfold Array.eraseIdxIfInBounds
      rw [dif_pos hjl]
      simp
    have hr : (execOp a.eval ⟨d, .call ⟨.builtin .delete, #[x, y], #[t, t2]⟩, ty, pos, af, gd⟩).run P w = .ok (.value (.tuple #[])) (setBlock w b (.map (es.eraseIdxIfInBounds j) clock)) := by
      simp [execOp, resolve, invoke, builtin, Builtin.delete_, hx a hF, hy a hF, run_underlying hm, MapKept.run_getObj_map h1, run_checkKey (k := .int .i64 k) hkt rfl, run_findKey hkt g1, MapKept.run_setObj_map _ h1, Result.andThen, setBlock]
    unfold Oper.wp
    rw [hr]
    exact ⟨_, _, h, hF.put _ _, turn_mp hS hk ⟨_, _, ⟨hset _, stamped_erase h2 j, by rw [hsub]; exact g6⟩, fun _ h => by simp at h, h5⟩⟩

/-- Each key once. -/
theorem St.nodup {w : World} {i : Nat} (h : St w0 w L) (hk : lget L i = some (mpR b m its)) : (keys m).Nodup := by
  obtain ⟨es, clock, hM, _⟩ := h.holds i _ hk
  exact hM.nodup
end
end Go.Proofs.YtfcpmcdlgkfolaaDoor.E
