/- Rules for strings: joined, compared, measured, cut, as bytes; maps keyed by strings. -/
import Derived.Test.YtfcpmcdlgkfolaaDoorEA
import Derived.Test.YtfcpmcdlgkfolaaDoorEM
import Derived.Lib.ConvBytes
namespace Go.Proofs.YtfcpmcdlgkfolaaDoor.E
open Go.RowKit Go.MapKept
open Go.ChangeMaps (setBlock)

/-- A string of these bytes. -/
@[reducible] def str (l : List UInt8) : Value := .string ⟨l.toArray⟩
theorem str_of (s : ByteArray) : Value.string s = str s.data.toList := rfl
theorem mk_inj {a b : List UInt8} : (ByteArray.mk a.toArray = ByteArray.mk b.toArray) ↔ a = b := by
  constructor
  · intro h
    injection h with h
    exact congrArg Array.toList h
  · rintro rfl; rfl
theorem mk_size (a : List UInt8) : (ByteArray.mk a.toArray).size = a.length := by simp [ByteArray.size]

theorem beq_str (a b : List UInt8) : (ByteArray.mk a.toArray == ByteArray.mk b.toArray) = decide (a = b) := by
  have : (ByteArray.mk a.toArray == ByteArray.mk b.toArray) = (a.toArray == b.toArray) := rfl
  rw [this]
  by_cases h : a = b <;> simp [h]

section
variable {P : Program} {N : Nat} {w0 : World} {F : Frm} {L : List Res} {d : Option Tmp} {x y z : Operand} {v u : Value} {ty t t' kt et : TypeId} {pos : String} {af : Array Edge} {gd : Option (Nat × Bool)} {K : Frm → List Res → Prop} {a b : List UInt8}

theorem y_cat (hx : FE N F x (str a)) (hy : FE N F y (str b)) (h : a.length + b.length ≤ 4611686018427387904) : Yld P N w0 F L ⟨d, .binOp .add t x y t', ty, pos, af, gd⟩ (str (a ++ b)) :=
  y_binop hx hy fun w => by
    have h1 : ¬ (((ByteArray.mk a.toArray).size + (ByteArray.mk b.toArray).size : Nat) : Int) > IntKind.i64.max := by
      rw [mk_size, mk_size]
      have : IntKind.i64.max = 9223372036854775807 := by decide
      omega
    have h2 : ByteArray.mk a.toArray ++ ByteArray.mk b.toArray = ByteArray.mk (a ++ b).toArray := by
      apply ByteArray.ext
      simp
    simp only [eqGuard, binOp, Op.stringOp, if_neg h1, h2]
    simp
theorem y_eqs (hx : FE N F x (str a)) (hy : FE N F y (str b)) : Yld P N w0 F L ⟨d, .binOp .eql t x y t', ty, pos, af, gd⟩ (.bool (decide (a = b))) :=
  y_binop hx hy fun w => by
    simp only [eqGuard, binOp, Op.stringOp, ByteArray.toList_mk]
    by_cases h : a = b <;> simp [h]
theorem y_nes (hx : FE N F x (str a)) (hy : FE N F y (str b)) : Yld P N w0 F L ⟨d, .binOp .neq t x y t', ty, pos, af, gd⟩ (.bool (decide (¬ a = b))) :=
  y_binop hx hy fun w => by
    simp only [eqGuard, binOp, Op.stringOp, ByteArray.toList_mk]
    by_cases h : a = b <;> simp [h]
theorem y_slen {s : TypeId} (hs : P.underlying s = some .string) (hx : FE N F x (str a)) : Yld P N w0 F L ⟨d, .call ⟨.builtin .len, #[x], #[s]⟩, ty, pos, af, gd⟩ (.int .i64 (a.length : Int)) := fun q w hF _ => by
  simp [execOp, resolve, invoke, builtin, hx q hF, run_len_string w s ty _ hs, goInt, mk_size]
theorem y_sidx {i : Nat} {k : IntKind} (hs : P.underlying t = some .string) (hx : FE N F x (str a)) (hy : FE N F y (.int k (i : Int))) (h : i < a.length) : Yld P N w0 F L ⟨d, .index t x y, ty, pos, af, gd⟩ (.int .u8 ((a[i]'h).toNat : Int)) := fun q w hF _ => by
  have h1 : (0 : Int) ≤ (i : Int) ∧ (i : Int) < ((ByteArray.mk a.toArray).size : Int) := by rw [mk_size]; omega
  have h2 := run_index_string (P := P) w t ⟨a.toArray⟩ k (i : Int) hs
  rw [dif_pos h1] at h2
  have h3 : ((ByteArray.mk a.toArray)[i]'(by rw [mk_size]; exact h)) = a[i]'h := by
    simp [ByteArray.getElem_eq_getElem_data]
  simp [execOp, hx q hF, hy q hF, h2, h3]

theorem extract_str (a : List UInt8) (i j : Nat) : (ByteArray.mk a.toArray).extract i j = ByteArray.mk ((a.drop i).take (j - i)).toArray := by
  apply ByteArray.ext
  simp [ByteArray.data_extract]
/-- A piece of a string. -/
theorem y_scut {i j : Nat} {k k' : IntKind} (hs : P.underlying t = some .string) (hx : FE N F x (str a)) (hy : FE N F y (.int k (i : Int))) (hz : FE N F z (.int k' (j : Int))) (h1 : i ≤ j) (h2 : j ≤ a.length) : Yld P N w0 F L ⟨d, .slice t x (some y) (some z) none, ty, pos, af, gd⟩ (str ((a.drop i).take (j - i))) := fun q w hF _ => by
  have h3 : ¬ ((i : Int) < 0) := by omega
  simp [execOp, hx q hF, hy q hF, hz q hF, run_sliceAt_string w t _ _ _ _ hs, Instr.slice, run_underlying hs, Instr.sliceBounds, Instr.sliceBound, asIntOf, mk_size, extract_str, h1, h2, Result.andThen]

def bC (l : List UInt8) : List Value := l.map fun b => .int .u8 (b.toNat : Int)
theorem bC_len (l : List UInt8) : (bC l).length = l.length := by simp [bC]
theorem bC_get {l : List UInt8} {i : Nat} (h : i < l.length) : (bC l)[i]? = some (.int .u8 ((l[i]'h).toNat : Int)) := by simp [bC, h]

/-- Cells that are only read. -/
def rdo (g : Nat) (xs : List Value) : Res where
  foot := [g]
  holds w := ∀ (i : Nat) (u : Value), xs[i]? = some u → w.cell? ⟨g, i, none⟩ = some u
  stable w w' hf hh i u hu := by
    have := hh i u hu
    rw [← this]
    simp [World.cell?, hf g (List.mem_cons_self ..)]
theorem rdl_rdo {g : Nat} {xs : List Value} (i : Nat) (h : lget L i = some (rdo g xs)) : RdL w0 L (some ⟨g, 0, none⟩) xs := fun w hS => .inr ⟨g, 0, rfl, fun j u hu => by
  have := hS.holds _ _ h j u hu
  simpa using this⟩
/-- The bytes of a string as a slice. -/
theorem oj_sbytes {e : Nat} {ds : TypeDesc} (hs : P.underlying t = some ds) (hd : P.underlying t' = some (.slice e)) (he : P.underlying e = some (.int .u8)) (hx : FE N F x (str a)) (h : ∀ g c, K (fput F d (.slice (some ⟨g, 0, none⟩) a.length c)) (rdo g (bC a) :: L)) : OpJ P N w0 F L ⟨d, .convert t t' x, ty, pos, af, gd⟩ K := fun q w hF hS => by
  have hr := Lib.run_convert_string_bytes (P := P) w t t' e ⟨a.toArray⟩ hs hd he
  have hr2 : (execOp q.eval ⟨d, .convert t t' x, ty, pos, af, gd⟩).run P w = .ok (.value (.slice (some ⟨w.heap.size, 0, none⟩) (ByteArray.mk a.toArray).size (grownCap w (ByteArray.mk a.toArray).size 0 e))) (Lib.bytesWorld w e ⟨a.toArray⟩) := by
    simp [execOp, hx q hF, hr]
  unfold Oper.wp
  rw [hr2, mk_size]
  refine ⟨_, _, h w.heap.size _, hF.put _ _, hS.add ⟨rfl, rfl, rfl, by rw [Lib.bytesWorld_size]; omega, fun k hk => Lib.bytesWorld_at_old w e _ k hk⟩ (fun i u hu => ?_) (fun b hb => ?_)⟩
  · obtain ⟨hi, hu2⟩ := List.getElem?_eq_some_iff.1 hu
    rw [bC_len] at hi
    have := Lib.bytesWorld_cell w e ⟨a.toArray⟩ i (by rw [mk_size]; exact hi)
    rw [this, ← hu2]
    simp [bC, hi]
  · simp only [rdo, List.mem_singleton] at hb
    subst hb
    exact ⟨Nat.le_refl _, by rw [Lib.bytesWorld_size]; omega⟩

/-! ### Maps keyed by strings -/

def kvS (p : List UInt8 × Value) : Value × Value := (str p.1, p.2)
def sget : List (List UInt8 × Value) → List UInt8 → Option Value
  | [], _ => none
  | (j, v) :: l, k => if j = k then some v else sget l k
theorem find_viewS (k : List UInt8) : ∀ (l : List MapEntry) (m : List (List UInt8 × Value)) (i : Nat), l.map vw = m.map kvS →
    (Instr.findNow .string (str k) l i = some none ∧ sget m k = none) ∨ ∃ j e, Instr.findNow .string (str k) l i = some (some (i + j, e)) ∧ sget m k = some e
  | [], m, i, h => by
    have : m = [] := by cases m with | nil => rfl | cons _ _ => simp at h
    subst this
    exact .inl ⟨rfl, rfl⟩
  | e :: es, [], i, h => by simp at h
  | e :: es, (j, u) :: ms, i, h => by
    simp only [List.map_cons, List.cons.injEq] at h
    obtain ⟨h1, h2⟩ := h
    simp only [vw, kvS, Prod.mk.injEq] at h1
    obtain ⟨hk, hv⟩ := h1
    by_cases hj : j = k
    · subst hj
      exact .inr ⟨0, e.val, by simp [Instr.findNow, hk, Instr.sameNow, beq_str], by simp [sget, hv]⟩
    · have hs : Instr.sameNow .string (str k) e.key = some false := by
        rw [hk]
        simp [Instr.sameNow, beq_str, Ne.symm hj]
      rcases find_viewS k es ms (i + 1) h2 with ⟨g1, g2⟩ | ⟨q, x, g1, g2⟩
      · exact .inl ⟨by simp [Instr.findNow, hs, g1], by simp [sget, hj, g2]⟩
      · exact .inr ⟨q + 1, x, by simp [Instr.findNow, hs, g1]; omega, by simp [sget, hj, g2]⟩

/-- A map keyed by strings. -/
def smR (b : Nat) (m : List (List UInt8 × Value)) : Res where
  foot := [b]
  holds w := ∃ es clock, w.heap[b]? = some (.map es clock) ∧ es.toList.map vw = m.map kvS
  stable w w' hf hh := by
    obtain ⟨es, clock, h1, h2⟩ := hh
    exact ⟨es, clock, (hf b (List.mem_cons_self ..)).trans h1, h2⟩

theorem oj_makeMapS (h : ∀ b, K (fput F d (.map (some b))) (smR b [] :: L)) : OpJ P N w0 F L ⟨d, .makeMap t none, ty, pos, af, gd⟩ K := fun a w hF hS => by
  have hr : (execOp a.eval ⟨d, .makeMap t none, ty, pos, af, gd⟩).run P w = .ok (.value (.map (some w.heap.size))) (w.alloc (.map #[] 0)) := by
    simp [execOp, Instr.makeMap, newObj, run_new]
  unfold Oper.wp
  rw [hr]
  refine ⟨_, _, h w.heap.size, hF.put _ _, hS.add (alloc_new w _) ⟨#[], 0, heap_alloc_new w _, rfl⟩ (fun b hb => ?_)⟩
  simp only [smR, List.mem_singleton] at hb
  subst hb
  exact ⟨Nat.le_refl _, by simp⟩

theorem y_lookupS {b : Nat} {m : List (List UInt8 × Value)} {k : List UInt8} (i : Nat) (hm : P.underlying t = some (.map kt et)) (hkt : P.underlying kt = some .string) (hz : ∀ w, (zeroValue et).run P w = .ok v w) (hx : FE N F x (.map (some b))) (hy : FE N F y (str k)) (hk : lget L i = some (smR b m)) :
    Yld P N w0 F L ⟨d, .lookup t x y false, ty, pos, af, gd⟩ ((sget m k).getD v) := fun a w hF hS => by
  obtain ⟨es, clock, h1, h3⟩ := hS.holds i _ hk
  rcases find_viewS k es.toList m 0 h3 with ⟨g1, g2⟩ | ⟨j, e, g1, g2⟩
  · simp [execOp, Instr.lookup, hx a hF, hy a hF, run_underlying hm, MapKept.run_getObj_map h1, run_checkKey (k := str k) hkt trivial, run_findKey hkt g1, Result.andThen, hz, g2]
  · simp [execOp, Instr.lookup, hx a hF, hy a hF, run_underlying hm, MapKept.run_getObj_map h1, run_checkKey (k := str k) hkt trivial, run_findKey hkt g1, Result.andThen, hz, g2]

/-- A new key of a literal. -/
theorem oj_mapLit {b : Nat} {m : List (List UInt8 × Value)} {k : List UInt8} (i : Nat) (hm : P.underlying t = some (.map kt et)) (hkt : P.underlying kt = some .string) (hx : FE N F x (.map (some b))) (hy : FE N F y (str k)) (hv : FE N F z v) (hk : lget L i = some (smR b m)) (hn : sget m k = none)
    (h : K (fput F d undef) (lset L i (smR b (m ++ [(k, v)])))) : OpJ P N w0 F L ⟨d, .insert t x y z, ty, pos, af, gd⟩ K := fun a w hF hS => by
  obtain ⟨es, clock, h1, h3⟩ := hS.holds i _ hk
  have hb : b < w.heap.size := (Array.getElem?_eq_some_iff.1 h1).1
  have hset : ∀ o, (setBlock w b o).heap[b]? = some o := fun o => by simp [setBlock, hb]
  rcases find_viewS k es.toList m 0 h3 with ⟨g1, g2⟩ | ⟨j, e, g1, g2⟩
  · have hr : (execOp a.eval ⟨d, .insert t x y z, ty, pos, af, gd⟩).run P w = .ok .skip (setBlock w b (.map (es.push { key := str k, val := v, born := clock }) (clock + 1))) := by
      simp [execOp, Instr.mapUpdate, hx a hF, hy a hF, hv a hF, run_underlying hm, MapKept.run_getObj_map h1, run_checkKey (k := str k) hkt trivial, run_findKey hkt g1, MapKept.run_setObj_map _ h1, Result.andThen, setBlock]
    unfold Oper.wp
    rw [hr]
    refine ⟨_, _, h, hF.put _ _, hS.turn hk rfl rfl rfl (by simp [setBlock]) (fun c _ hc => ?_) ⟨_, _, hset _, by simp [h3, vw, kvS]⟩ (fun c hc => ⟨by simpa [setBlock] using (hS.lt i _ hk c hc).2, .inl hc⟩)⟩
    have : b ≠ c := fun e => hc (by subst e; exact List.mem_cons_self ..)
    simp [setBlock, this]
  · rw [hn] at g2
    cases g2
theorem y_subq {k : IntKind} {m n c : Int} (hx : FE N F x (.int k m)) (hy : FE N F y (.int k n)) (h : k.wrap (m - n) = c) : Yld P N w0 F L ⟨d, .binOp .sub t x y t', ty, pos, af, gd⟩ (.int k c) := h ▸ y_subk hx hy
/-- A string of one byte. -/
theorem y_b1 {e g : Nat} {b : UInt8} (i : Nat) (hs : P.underlying t = some (.slice e)) (he : P.underlying e = some (.int .u8)) (hd : P.underlying t' = some .string) (hx : FE N F x (.slice (some ⟨g, 0, none⟩) 1 1)) (hk : lget L i = some (blk g [.int .u8 (b.toNat : Int)])) : Yld P N w0 F L ⟨d, .convert t t' x, ty, pos, af, gd⟩ (str [b]) := fun a w hF hS => by
  obtain ⟨T, hg⟩ := hS.holds i _ hk
  have h1 := run_convert_bytes_string (P := P) w t t' e (some ⟨g, 0, none⟩) 1 1 hs he hd
  have h2 := run_bytesToString (P := P) w ⟨g, 0, none⟩ 1 1 [(b.toNat : Int)] (by
    have := run_loadCells_list (P := P) w ⟨g, 0, none⟩ [.int .u8 (b.toNat : Int)] (fun i u hu => by
      rw [Addr.add_lit, cell_of_row w g (0 + i) _ T (0, 0) hg]
      simpa using hu)
    simpa using this)
  have h3 : ([(b.toNat : Int)].foldl (fun r n => r.push (UInt8.ofNat n.toNat)) ByteArray.empty) = ⟨[b].toArray⟩ := by
    simp [ByteArray.push, ByteArray.empty, ByteArray.emptyWithCapacity]
    rfl
  rw [h3] at h2
  simp [execOp, hx a hF, h1, h2]
theorem y_to {o : Oper} (h : Yld P N w0 F L o v) (e : v = u) : Yld P N w0 F L o u := e ▸ h
/-- Is there no error? -/
theorem y_eqi {p : Bool} {ms : Array (String × TypeId)} (hu : P.underlying t = some (.interface ms)) (hx : FE N F x v) (h : (p = true ∧ v = .nilIface) ∨ (p = false ∧ ∃ a b, v = .iface a b)) : Yld P N w0 F L ⟨d, .binOp .eql t x (.const .nilIface) t', ty, pos, af, gd⟩ (.bool p) :=
  y_binop hx fe_c fun w => by
    have e1 : ∀ y, (Op.equal t v y).run P w = (Op.equalIn (9999 + 1) t v y).run P w := fun _ => rfl
    have e2 : (Op.equal t v .nilIface).run P w = .ok p w := by
      rw [e1]
      unfold Op.equalIn
      rcases h with ⟨rfl, rfl⟩ | ⟨rfl, a, b, rfl⟩ <;> simp only [Sem.run_bind, run_underlying hu, Result.andThen_ok] <;> rfl
    rcases h with ⟨rfl, rfl⟩ | ⟨rfl, a, b, rfl⟩ <;> simp [eqGuard, binOp, e2]
/-- A key of a literal is a key stored. -/
theorem oj_insert (h : OpJ P N w0 F L ⟨d, .mapUpdate t x y z, ty, pos, af, gd⟩ K) : OpJ P N w0 F L ⟨d, .insert t x y z, ty, pos, af, gd⟩ K := fun a w hF hS => h a w hF hS
/-- Literals of cells. -/
theorem oj_lit3 {e : Nat} {x0 x1 x2 : Operand} {v0 v1 v2 z : Value} (hu : P.underlying t = some (.slice e)) (hs : ∀ w, (sizeOf e).run P w = .ok 1 w) (hz : ∀ w, (zeroValue e).run P w = .ok z w) (hzc : z.cells = #[z]) (h0 : FE N F x0 v0) (h1 : FE N F x1 v1) (h2 : FE N F x2 v2)
    (c0 : v0.cells = #[v0]) (c1 : v1.cells = #[v1]) (c2 : v2.cells = #[v2])
    (h : ∀ g, K (fput F d (.slice (some ⟨g, 0, none⟩) 3 3)) (vec e 1 (.slice (some ⟨g, 0, none⟩) 3 3) 3 [v0, v1, v2] :: L)) : OpJ P N w0 F L ⟨d, .buildSlice t 3 #[(0, x0), (1, x1), (2, x2)], ty, pos, af, gd⟩ K := fun ac w hF hS => by
  have hfill : Instr.fill (fun i => some (i, 1)) ((Array.range 3).map (z.cells[· % z.cells.size]!)) [(0, v0), (1, v1), (2, v2)] = some #[v0, v1, v2] := by
    have hq : (Array.range 3).map (z.cells[· % z.cells.size]!) = #[z, z, z] := by
      rw [hzc]
      simp [show Array.range 3 = #[0, 1, 2] from rfl]
    rw [hq]
    simp [Instr.fill, c0, c1, c2]
    try rfl
  have hr : (execOp ac.eval ⟨d, .buildSlice t 3 #[(0, x0), (1, x1), (2, x2)], ty, pos, af, gd⟩).run P w = .ok (.value (.slice (some ⟨w.heap.size, 0, none⟩) 3 3)) (w.alloc (.cells #[v0, v1, v2] e)) := by
    simp [execOp, Instr.buildSlice, h0 ac hF, h1 ac hF, h2 ac hF, run_underlying hu, hs, hz, hfill, newRow, newObj, run_new]
  unfold Oper.wp
  rw [hr]
  refine ⟨_, _, h w.heap.size, hF.put _ _, hS.add (alloc_new w _) ⟨rfl, .inr ⟨w.heap.size, 0, 3, #[v0, v1, v2], rfl, heap_alloc_new w _, Nat.le_refl _, by decide, by simp, by simp⟩⟩ (fun b hb => ?_)⟩
  simp only [vec, Value.ownBlock, Option.toList_some, List.mem_singleton] at hb
  subst hb
  exact ⟨Nat.le_refl _, by simp⟩
theorem oj_lit4 {e : Nat} {x0 x1 x2 x3 : Operand} {v0 v1 v2 v3 z : Value} (hu : P.underlying t = some (.slice e)) (hs : ∀ w, (sizeOf e).run P w = .ok 1 w) (hz : ∀ w, (zeroValue e).run P w = .ok z w) (hzc : z.cells = #[z]) (h0 : FE N F x0 v0) (h1 : FE N F x1 v1) (h2 : FE N F x2 v2) (h3 : FE N F x3 v3)
    (c0 : v0.cells = #[v0]) (c1 : v1.cells = #[v1]) (c2 : v2.cells = #[v2]) (c3 : v3.cells = #[v3])
    (h : ∀ g, K (fput F d (.slice (some ⟨g, 0, none⟩) 4 4)) (vec e 1 (.slice (some ⟨g, 0, none⟩) 4 4) 4 [v0, v1, v2, v3] :: L)) : OpJ P N w0 F L ⟨d, .buildSlice t 4 #[(0, x0), (1, x1), (2, x2), (3, x3)], ty, pos, af, gd⟩ K := fun ac w hF hS => by
  have hfill : Instr.fill (fun i => some (i, 1)) ((Array.range 4).map (z.cells[· % z.cells.size]!)) [(0, v0), (1, v1), (2, v2), (3, v3)] = some #[v0, v1, v2, v3] := by
    have hq : (Array.range 4).map (z.cells[· % z.cells.size]!) = #[z, z, z, z] := by
      rw [hzc]
      simp [show Array.range 4 = #[0, 1, 2, 3] from rfl]
    rw [hq]
    simp [Instr.fill, c0, c1, c2, c3]
    try rfl
  have hr : (execOp ac.eval ⟨d, .buildSlice t 4 #[(0, x0), (1, x1), (2, x2), (3, x3)], ty, pos, af, gd⟩).run P w = .ok (.value (.slice (some ⟨w.heap.size, 0, none⟩) 4 4)) (w.alloc (.cells #[v0, v1, v2, v3] e)) := by
    simp [execOp, Instr.buildSlice, h0 ac hF, h1 ac hF, h2 ac hF, h3 ac hF, run_underlying hu, hs, hz, hfill, newRow, newObj, run_new]
  unfold Oper.wp
  rw [hr]
  refine ⟨_, _, h w.heap.size, hF.put _ _, hS.add (alloc_new w _) ⟨rfl, .inr ⟨w.heap.size, 0, 4, #[v0, v1, v2, v3], rfl, heap_alloc_new w _, Nat.le_refl _, by decide, by simp, by simp⟩⟩ (fun b hb => ?_)⟩
  simp only [vec, Value.ownBlock, Option.toList_some, List.mem_singleton] at hb
  subst hb
  exact ⟨Nat.le_refl _, by simp⟩
theorem oj_lit5 {e : Nat} {x0 x1 x2 x3 x4 : Operand} {v0 v1 v2 v3 v4 z : Value} (hu : P.underlying t = some (.slice e)) (hs : ∀ w, (sizeOf e).run P w = .ok 1 w) (hz : ∀ w, (zeroValue e).run P w = .ok z w) (hzc : z.cells = #[z]) (h0 : FE N F x0 v0) (h1 : FE N F x1 v1) (h2 : FE N F x2 v2) (h3 : FE N F x3 v3) (h4 : FE N F x4 v4)
    (c0 : v0.cells = #[v0]) (c1 : v1.cells = #[v1]) (c2 : v2.cells = #[v2]) (c3 : v3.cells = #[v3]) (c4 : v4.cells = #[v4])
    (h : ∀ g, K (fput F d (.slice (some ⟨g, 0, none⟩) 5 5)) (vec e 1 (.slice (some ⟨g, 0, none⟩) 5 5) 5 [v0, v1, v2, v3, v4] :: L)) : OpJ P N w0 F L ⟨d, .buildSlice t 5 #[(0, x0), (1, x1), (2, x2), (3, x3), (4, x4)], ty, pos, af, gd⟩ K := fun ac w hF hS => by
  have hfill : Instr.fill (fun i => some (i, 1)) ((Array.range 5).map (z.cells[· % z.cells.size]!)) [(0, v0), (1, v1), (2, v2), (3, v3), (4, v4)] = some #[v0, v1, v2, v3, v4] := by
    have hq : (Array.range 5).map (z.cells[· % z.cells.size]!) = #[z, z, z, z, z] := by
      rw [hzc]
      simp [show Array.range 5 = #[0, 1, 2, 3, 4] from rfl]
    rw [hq]
    simp [Instr.fill, c0, c1, c2, c3, c4]
    try rfl
  have hr : (execOp ac.eval ⟨d, .buildSlice t 5 #[(0, x0), (1, x1), (2, x2), (3, x3), (4, x4)], ty, pos, af, gd⟩).run P w = .ok (.value (.slice (some ⟨w.heap.size, 0, none⟩) 5 5)) (w.alloc (.cells #[v0, v1, v2, v3, v4] e)) := by
    simp [execOp, Instr.buildSlice, h0 ac hF, h1 ac hF, h2 ac hF, h3 ac hF, h4 ac hF, run_underlying hu, hs, hz, hfill, newRow, newObj, run_new]
  unfold Oper.wp
  rw [hr]
  refine ⟨_, _, h w.heap.size, hF.put _ _, hS.add (alloc_new w _) ⟨rfl, .inr ⟨w.heap.size, 0, 5, #[v0, v1, v2, v3, v4], rfl, heap_alloc_new w _, Nat.le_refl _, by decide, by simp, by simp⟩⟩ (fun b hb => ?_)⟩
  simp only [vec, Value.ownBlock, Option.toList_some, List.mem_singleton] at hb
  subst hb
  exact ⟨Nat.le_refl _, by simp⟩
end
end Go.Proofs.YtfcpmcdlgkfolaaDoor.E
