/- Arguments that are structs with slices among their fields, slices of slices, strings: opened to plain values. -/
import Derived.Test.YtfcpmcdlgkfolaaDoorFrame
import Derived.Test.YtfcpmcdlgkfolaaDoorBnK
import Derived.Test.YtfcpmcdlgkfolaaDoorUpto
import Derived.Test.YtfcpmcdlgkfolaaDoorTie
import Derived.ProofKit
import Derived.OpenShut
import Derived.LaidMore
import Derived.Lay
import Derived.SevenTiedAt
import Derived.JoinedCond
import Derived.Stop.Joined
import Derived.Stop.LaidErr
namespace Go.Proofs.YtfcpmcdlgkfolaaDoor
open Go.RowKit Go.ChangeShapes Go.WideShapes Go.ChangeAt

section
variable {H : Type} {enc : TypeId × Value → H} {P : Program} {W : World} {base base' : Nat} {spare : Nat → Bool} {held : Bool}

theorem weightsEach_get : ∀ {ts : List TypeId} {ds : List (DataW H)}, (DataW.weightsEach P ts ds).all (· ≤ reachBytes) = true → ∀ (i : Nat) (t : TypeId) (d : DataW H), ts[i]? = some t → ds[i]? = some d → (d.weights P t).all (· ≤ reachBytes) = true
  | [], _, _, i, t, d, h1, _ => by simp at h1
  | _ :: _, [], _, i, t, d, _, h2 => by simp at h2
  | t :: ts, d :: ds, h, 0, t', d', h1, h2 => by
    simp only [List.getElem?_cons_zero, Option.some.injEq] at h1 h2
    subst h1; subst h2
    exact (weights_cons h).1
  | t :: ts, d :: ds, h, i + 1, t', d', h1, h2 => weightsEach_get (weights_cons h).2 i t' d' (by simpa using h1) (by simpa using h2)

/-- A struct whose fields have one cell each. -/
theorem arg_mixed {t : TypeId} {fs : Array Field} {v : Value} {d : DataW H} {p : List MemPlace} (T : List TypeId) (ht : P.underlying t = some (.struct fs))
    (hT : fs.toList.map (fun f => (f.type, f.offset, P.cellsOf f.type)) = T.zipIdx.map (fun x => (x.1, x.2, 1))) (hc : P.cellsOf t = T.length)
    (hv : Value.okWide P W .any base' t v) (h : DataW.Trod enc P W base spare held t v d p) (hw : (d.weights P t).all (· ≤ reachBytes) = true) :
    ∃ cs : List Value, v = .agg cs.toArray ∧ cs.length = T.length ∧ ∀ (i : Nat) (ti : TypeId), T[i]? = some ti → ∃ (c : Value) (y : DataW H × List MemPlace) (n : Nat), cs[i]? = some c ∧ DataW.trod enc P W base spare held n ti [c] = some y ∧ (y.1.weights P ti).all (· ≤ reachBytes) = true := by
  obtain ⟨cs, rfl, hsz⟩ := okWide_struct ht hv
  obtain ⟨fuel, hf⟩ := h
  obtain ⟨xs, n, _, hd, hl, hlen, hfl⟩ := DataW.trod_struct ht hf
  obtain rfl : d = .agg (xs.map (·.1)) := congrArg Prod.fst hd
  rw [DataW.weights, ht] at hw
  refine ⟨cs.toList, by simp, by simpa [hc] using hsz, fun i ti hi => ?_⟩
  have h1 : (fs.toList.map (fun f => (f.type, f.offset, P.cellsOf f.type)))[i]? = some (ti, i, 1) := by
    rw [hT, List.getElem?_map, List.getElem?_zipIdx, hi]; simp
  rw [List.getElem?_map, Option.map_eq_some_iff] at h1
  obtain ⟨f, hfi, hfe⟩ := h1
  simp only [Prod.mk.injEq] at hfe
  obtain ⟨rfl, e2, e3⟩ := hfe
  have hfi' : fs[i]? = some f := by simpa using hfi
  have hit : i < T.length := (List.getElem?_eq_some_iff.1 hi).1
  have hil : i < cs.toList.length := by rw [Array.length_toList, hsz, hc]; exact hit
  have hix : i < xs.length := by rw [hlen]; exact (Array.getElem?_eq_some_iff.1 hfi').1
  have h2 := hfl i f hfi'
  rw [e2, e3, List.getElem?_eq_getElem hix] at h2
  have h3 : (cs.toList.drop i).take 1 = [cs.toList[i]] := by
    rw [List.drop_eq_getElem_cons hil]; rfl
  have h4 : (Value.agg cs).cells.toList = cs.toList := by simp [Value.cells]
  rw [h4, h3] at h2
  refine ⟨cs.toList[i], xs[i], n, List.getElem?_eq_getElem hil, h2, ?_⟩
  exact weightsEach_get hw i f.type xs[i].1 (by rw [List.getElem?_map, hfi]; rfl) (by rw [List.getElem?_map, List.getElem?_eq_getElem hix]; rfl)

theorem int_of {t : TypeId} {k : IntKind} {c : Value} {n : Nat} {y : DataW H × List MemPlace} (ht : P.underlying t = some (.int k)) (h : DataW.trod enc P W base spare held n t [c] = some y) : ∃ z, c = .int k z ∧ (Lit.int k z).wf = true := by
  obtain ⟨z, hz, _, hw⟩ := DataW.trod_int ht h
  simp only [List.cons.injEq, and_true] at hz
  exact ⟨z, hz, hw⟩

theorem ints_es {k : IntKind} (l : List (List Value)) (h : ∀ (i : Nat) (c : List Value), l[i]? = some c → ∃ z, c = [.int k z] ∧ (Lit.int k z).wf = true) : ∃ zs : List Int, l.flatten = zs.map (Value.int k) ∧ zs.length = l.length ∧ ∀ z ∈ zs, (Lit.int k z).wf = true := by
  induction l with
  | nil => exact ⟨[], rfl, rfl, by simp⟩
  | cons c l ih =>
    obtain ⟨z, rfl, hz⟩ := h 0 c rfl
    obtain ⟨zs, h1, h2, h3⟩ := ih (fun i c hi => h (i + 1) c hi)
    refine ⟨z :: zs, by simp [h1], by simp [h2], fun x hx => ?_⟩
    rcases List.mem_cons.1 hx with rfl | hx
    · exact hz
    · exact h3 x hx

/-- A cell that is a slice of integers. -/
theorem ints_of {t e : TypeId} {k : IntKind} {c : Value} {m : Nat} {y : DataW H × List MemPlace} (ht : P.underlying t = some (.slice e)) (he : P.underlying e = some (.int k)) (hc : P.cellsOf e = 1)
    (h : DataW.trod enc P W base spare held m t [c] = some y) (hw : (y.1.weights P t).all (· ≤ reachBytes) = true) :
    ∃ (A : Option Addr) (n cap : Nat) (zs : List Int), c = .slice A n cap ∧ n ≤ cap ∧ RdI k W A zs ∧ zs.length = n ∧ (∀ z ∈ zs, (Lit.int k z).wf = true) ∧ n * P.bytesOf e ≤ 140737488351232 := by
  obtain ⟨A', n', c', es, ds, m, hcs, hlc, hes, hds, hd, hrd, hel⟩ := sl_open ht (by rw [hc]; omega) h
  simp only [List.cons.injEq, and_true] at hcs
  subst hcs
  obtain ⟨zs, h1, h2, h3⟩ := ints_es (k := k) es (fun i c hi => by
    obtain ⟨_, y, hy, _⟩ := hel i c hi
    obtain ⟨z, hz, _, hw⟩ := DataW.trod_int he hy
    exact ⟨z, hz, hw⟩)
  refine ⟨A', n', c', zs, rfl, hlc, by unfold RdI; rw [← h1]; exact hrd, by rw [h2, hes], h3, ?_⟩
  rcases hd with ⟨rfl, _⟩ | ⟨sp, hd⟩
  · simp
  · rw [hd] at hw
    have := weights_sl ht hw
    rwa [hds] at this

/-- A cell that is a slice of structs of integers. -/
theorem sts_of {t e : TypeId} {ks : List IntKind} {c : Value} {m : Nat} {y : DataW H × List MemPlace} (ht : P.underlying t = some (.slice e)) (hL : flatO P 8 e 0 = some (ks.zipIdx.map fun x => (x.2, x.1))) (hc : P.cellsOf e = ks.length) (hpos : 0 < ks.length)
    (h : DataW.trod enc P W base spare held m t [c] = some y) (hw : (y.1.weights P t).all (· ≤ reachBytes) = true) :
    ∃ (A : Option Addr) (n cap : Nat) (rows : List (List Int)), c = .slice A n cap ∧ n ≤ cap ∧ rows.length = n ∧ Rd W A (rows.flatMap fun r => List.zipWith Value.int ks r) ∧
      (∀ r ∈ rows, r.length = ks.length ∧ ∀ (i : Nat) (k : IntKind) (z : Int), ks[i]? = some k → r[i]? = some z → (Lit.int k z).wf = true) ∧ n * P.bytesOf e ≤ 140737488351232 := by
  obtain ⟨A', n', c', es, ds, m, hcs, hlc, hes, hds, hd, hrd, hel⟩ := sl_open ht (by rw [hc]; exact hpos) h
  simp only [List.cons.injEq, and_true] at hcs
  subst hcs
  obtain ⟨rows, h1, h2, h3⟩ := rows_of (ks := ks) es (fun i c hi => by
    obtain ⟨hl, y, hy, _⟩ := hel i c hi
    refine ⟨by rw [hl, hc], fun i k hk => ?_⟩
    exact flat_val 8 hL hy (i, k) (List.mem_map.2 ⟨(k, i), List.mem_zipIdx_iff_getElem?.2 hk, rfl⟩))
  refine ⟨A', n', c', rows, rfl, hlc, by rw [h1, hes], by rw [← h2]; exact hrd, h3, ?_⟩
  rcases hd with ⟨rfl, _⟩ | ⟨sp, hd⟩
  · simp
  · rw [hd] at hw
    have := weights_sl ht hw
    rwa [hds] at this
end

theorem vals_3 {l : List Value} (h : l.length = 3) : ∃ a b c, l = [a, b, c] := by
  match l, h with
  | [a, b, c], _ => exact ⟨a, b, c, rfl⟩
theorem vals_4 {l : List Value} (h : l.length = 4) : ∃ a b c d, l = [a, b, c, d] := by
  match l, h with
  | [a, b, c, d], _ => exact ⟨a, b, c, d, rfl⟩

section
variable {H : Type} {enc : TypeId × Value → H} {P : Program} {W : World} {base base' : Nat} {spare : Nat → Bool} {held : Bool}

/-- A struct of two integers and a slice of integers. -/
theorem arg_iis {t e sl : TypeId} {fs : Array Field} {v : Value} {d : DataW H} {p : List MemPlace} (te : P.underlying e = some (.int .i64)) (ts : P.underlying sl = some (.slice e)) (hce : P.cellsOf e = 1) (ht : P.underlying t = some (.struct fs))
    (hT : fs.toList.map (fun f => (f.type, f.offset, P.cellsOf f.type)) = [e, e, sl].zipIdx.map (fun x => (x.1, x.2, 1))) (hc : P.cellsOf t = 3)
    (hv : Value.okWide P W .any base' t v) (h : DataW.Trod enc P W base spare held t v d p) (hw : (d.weights P t).all (· ≤ reachBytes) = true) :
    ∃ (x y : Int) (A : Option Addr) (n c : Nat) (zs : List Int), v = .agg #[.int .i64 x, .int .i64 y, .slice A n c] ∧ (Lit.int .i64 x).wf = true ∧ (Lit.int .i64 y).wf = true ∧ n ≤ c ∧ RdI .i64 W A zs ∧ zs.length = n ∧ (∀ z ∈ zs, (Lit.int .i64 z).wf = true) ∧ n * P.bytesOf e ≤ 140737488351232 := by
  obtain ⟨cs, rfl, hl, hk⟩ := arg_mixed [e, e, sl] ht hT hc hv h hw
  obtain ⟨a, b, c, rfl⟩ := vals_3 hl
  obtain ⟨c0, y0, n0, h0, g0, _⟩ := hk 0 _ rfl
  obtain ⟨c1, y1, n1, h1, g1, _⟩ := hk 1 _ rfl
  obtain ⟨c2, y2, n2, h2, g2, gw⟩ := hk 2 _ rfl
  simp only [List.getElem?_cons_zero, List.getElem?_cons_succ, Option.some.injEq] at h0 h1 h2
  subst h0 h1 h2
  obtain ⟨x, rfl, wx⟩ := int_of te g0
  obtain ⟨y, rfl, wy⟩ := int_of te g1
  obtain ⟨A, n, cap, zs, rfl, r1, r2, r3, r4, r5⟩ := ints_of ts te hce g2 gw
  exact ⟨x, y, A, n, cap, zs, rfl, wx, wy, r1, r2, r3, r4, r5⟩

/-- A struct of a slice of integers and three integers. -/
theorem arg_siii {t e sl : TypeId} {fs : Array Field} {v : Value} {d : DataW H} {p : List MemPlace} (te : P.underlying e = some (.int .i64)) (ts : P.underlying sl = some (.slice e)) (hce : P.cellsOf e = 1) (ht : P.underlying t = some (.struct fs))
    (hT : fs.toList.map (fun f => (f.type, f.offset, P.cellsOf f.type)) = [sl, e, e, e].zipIdx.map (fun x => (x.1, x.2, 1))) (hc : P.cellsOf t = 4)
    (hv : Value.okWide P W .any base' t v) (h : DataW.Trod enc P W base spare held t v d p) (hw : (d.weights P t).all (· ≤ reachBytes) = true) :
    ∃ (A : Option Addr) (n c : Nat) (zs : List Int) (x y z : Int), v = .agg #[.slice A n c, .int .i64 x, .int .i64 y, .int .i64 z] ∧ (Lit.int .i64 x).wf = true ∧ (Lit.int .i64 y).wf = true ∧ (Lit.int .i64 z).wf = true ∧ n ≤ c ∧ RdI .i64 W A zs ∧ zs.length = n ∧ (∀ z ∈ zs, (Lit.int .i64 z).wf = true) ∧ n * P.bytesOf e ≤ 140737488351232 := by
  obtain ⟨cs, rfl, hl, hk⟩ := arg_mixed [sl, e, e, e] ht hT hc hv h hw
  obtain ⟨a, b, c, d, rfl⟩ := vals_4 hl
  obtain ⟨c0, y0, n0, h0, g0, gw⟩ := hk 0 _ rfl
  obtain ⟨c1, y1, n1, h1, g1, _⟩ := hk 1 _ rfl
  obtain ⟨c2, y2, n2, h2, g2, _⟩ := hk 2 _ rfl
  obtain ⟨c3, y3, n3, h3, g3, _⟩ := hk 3 _ rfl
  simp only [List.getElem?_cons_zero, List.getElem?_cons_succ, Option.some.injEq] at h0 h1 h2 h3
  subst h0 h1 h2 h3
  obtain ⟨x, rfl, wx⟩ := int_of te g1
  obtain ⟨y, rfl, wy⟩ := int_of te g2
  obtain ⟨z, rfl, wz⟩ := int_of te g3
  obtain ⟨A, n, cap, zs, rfl, r1, r2, r3, r4, r5⟩ := ints_of ts te hce g0 gw
  exact ⟨A, n, cap, zs, x, y, z, rfl, wx, wy, wz, r1, r2, r3, r4, r5⟩

/-- A struct of three integers and a slice of structs of integers. -/
theorem arg_iiis {t e ee sl : TypeId} {fs : Array Field} {ks : List IntKind} {v : Value} {d : DataW H} {p : List MemPlace} (te : P.underlying e = some (.int .i64)) (ts : P.underlying sl = some (.slice ee)) (hL : flatO P 8 ee 0 = some (ks.zipIdx.map fun x => (x.2, x.1))) (hce : P.cellsOf ee = ks.length) (hpos : 0 < ks.length)
    (ht : P.underlying t = some (.struct fs)) (hT : fs.toList.map (fun f => (f.type, f.offset, P.cellsOf f.type)) = [e, e, e, sl].zipIdx.map (fun x => (x.1, x.2, 1))) (hc : P.cellsOf t = 4)
    (hv : Value.okWide P W .any base' t v) (h : DataW.Trod enc P W base spare held t v d p) (hw : (d.weights P t).all (· ≤ reachBytes) = true) :
    ∃ (x y z : Int) (A : Option Addr) (n c : Nat) (rows : List (List Int)), v = .agg #[.int .i64 x, .int .i64 y, .int .i64 z, .slice A n c] ∧ (Lit.int .i64 x).wf = true ∧ (Lit.int .i64 y).wf = true ∧ (Lit.int .i64 z).wf = true ∧ n ≤ c ∧ rows.length = n ∧ Rd W A (rows.flatMap fun r => List.zipWith Value.int ks r) ∧
      (∀ r ∈ rows, r.length = ks.length ∧ ∀ (i : Nat) (k : IntKind) (z : Int), ks[i]? = some k → r[i]? = some z → (Lit.int k z).wf = true) ∧ n * P.bytesOf ee ≤ 140737488351232 := by
  obtain ⟨cs, rfl, hl, hk⟩ := arg_mixed [e, e, e, sl] ht hT hc hv h hw
  obtain ⟨a, b, c, d, rfl⟩ := vals_4 hl
  obtain ⟨c0, y0, n0, h0, g0, _⟩ := hk 0 _ rfl
  obtain ⟨c1, y1, n1, h1, g1, _⟩ := hk 1 _ rfl
  obtain ⟨c2, y2, n2, h2, g2, _⟩ := hk 2 _ rfl
  obtain ⟨c3, y3, n3, h3, g3, gw⟩ := hk 3 _ rfl
  simp only [List.getElem?_cons_zero, List.getElem?_cons_succ, Option.some.injEq] at h0 h1 h2 h3
  subst h0 h1 h2 h3
  obtain ⟨x, rfl, wx⟩ := int_of te g0
  obtain ⟨y, rfl, wy⟩ := int_of te g1
  obtain ⟨z, rfl, wz⟩ := int_of te g2
  obtain ⟨A, n, cap, rows, rfl, r1, r2, r3, r4, r5⟩ := sts_of ts hL hce hpos g3 gw
  exact ⟨x, y, z, A, n, cap, rows, rfl, wx, wy, wz, r1, r2, r3, r4, r5⟩
end
end Go.Proofs.YtfcpmcdlgkfolaaDoor

namespace Go.Proofs.YtfcpmcdlgkfolaaDoor
open Go.ChangeShapes Go.WideShapes Go.ChangeAt Go.RowKit Go.Lib

section
variable {H : Type} {enc : TypeId × Value → H}
/-- A row with a condition, beside what holds of the world's blocks, at a world of the program's shape. -/
theorem ret_cond {a : Assume} {C : Checked} {os : Os} {f : FuncId} {fn : Func} {s : OpenSpec} {k : (H : Type) → List (DataW H) → Bool} (hk : s.cond = some k) {F : Stop.Interp} {conds : List PathCond} {apart fresh handsOn again : Bool} {X : World → Prop} (hX : ∀ w w' : World, w.heap = w'.heap → X w → X w')
    (own : ownKnob C.prog.godebug = none) (started : os.Started) (noInit : C.prog.inits.idxOf? f = none) (hfn : C.prog.funcs[f]? = some fn)
    (witness : ∃ (w : World) (tape : Tape) (i : Input), w.os = os ∧ (w.forCall tape i).Shaped C.prog ∧ i.vars = [] ∧ Input.okWide C.prog (w.forCall tape i) .any w.heap.size f i ∧
      ((s.pre enc C.prog fn conds apart (w.forCall tape i).memory i.args ∧ X (w.forCall tape i).memory) ∧ sizedMet enc C.prog fn s apart (w.forCall tape i).memory i.args) ∧ a.holds C.prog (lone (Frame.enter C.prog f i.args .normal) [] (w.forCall tape i)))
    (contract : ∀ (W : World) (base : Nat) (args : Array Value) (ds gs : List (DataW H)) (before : List MemPlace),
      (∀ (j : Nat) t v, fn.params[j]? = some t → args[j]? = some v → Value.okWide C.prog W .any base t v) →
      DataW.Whole enc C.prog fn.params.toList s.vars apart W args.toList ds gs before → k H (ds ++ gs) = true →
      (DataW.weightsEach C.prog (fn.params.toList ++ s.bare.plain.varTypes C.prog) (ds ++ gs)).all (· ≤ reachBytes) = true → X W → W.ShapedOpen C.prog →
      Calls C.prog f args W fun e W' => ∃ v, e = .returned v ∧ (s.at F).post enc C.prog fn apart fresh handsOn again W args v W') :
    ReturnsInHanded a C os f .any (fun w args => (s.pre enc C.prog fn conds apart w args ∧ X w) ∧ sizedMet enc C.prog fn s apart w args) ((s.at F).post enc C.prog fn apart fresh handsOn again) := by
  refine returnsInHanded_of_calls own started noInit witness ?_
  intro w tape i _ hsh _ hok hpre _
  obtain ⟨_, _, _, fn', hfn', _, _, _, _, hval⟩ := hok
  obtain rfl : fn' = fn := Option.some.inj (hfn'.symm.trans hfn)
  obtain ⟨⟨hp, hx⟩, hz⟩ := hpre
  obtain ⟨ds, gs, before, hw, _, hkk⟩ := (OpenSpec.pre_some hk conds apart _ _).1 hp
  have hw' := DataW.Whole.of_heap (w' := w.forCall tape i) (by rfl) hw
  refine (contract (w.forCall tape i) w.heap.size i.args ds gs before hval hw' hkk (hz.weights hw) (hX _ _ (by rfl) hx) hsh).mono fun e W' ⟨v, he, hpost⟩ => ?_
  subst he
  exact ChangeSpec.post_blind hpost
/-- The same for a row without a condition. -/
theorem ret_all {a : Assume} {C : Checked} {os : Os} {f : FuncId} {fn : Func} {s : ChangeSpec} {conds : List PathCond} {apart fresh handsOn again : Bool} {X : World → Prop} (hX : ∀ w w' : World, w.heap = w'.heap → X w → X w')
    (own : ownKnob C.prog.godebug = none) (started : os.Started) (noInit : C.prog.inits.idxOf? f = none) (hfn : C.prog.funcs[f]? = some fn)
    (witness : ∃ (w : World) (tape : Tape) (i : Input), w.os = os ∧ (w.forCall tape i).Shaped C.prog ∧ i.vars = [] ∧ Input.okWide C.prog (w.forCall tape i) .any w.heap.size f i ∧
      ((s.pre enc C.prog fn conds apart (w.forCall tape i).memory i.args ∧ X (w.forCall tape i).memory) ∧ sizedMet enc C.prog fn (OpenSpec.ofChange s) apart (w.forCall tape i).memory i.args) ∧ a.holds C.prog (lone (Frame.enter C.prog f i.args .normal) [] (w.forCall tape i)))
    (contract : ∀ (W : World) (base : Nat) (args : Array Value) (ds gs : List (DataW H)) (before : List MemPlace),
      (∀ (j : Nat) t v, fn.params[j]? = some t → args[j]? = some v → Value.okWide C.prog W .any base t v) →
      DataW.Whole enc C.prog fn.params.toList s.vars apart W args.toList ds gs before →
      (DataW.weightsEach C.prog (fn.params.toList ++ s.plain.varTypes C.prog) (ds ++ gs)).all (· ≤ reachBytes) = true → X W → W.ShapedOpen C.prog →
      Calls C.prog f args W fun e W' => ∃ v, e = .returned v ∧ s.post enc C.prog fn apart fresh handsOn again W args v W') :
    ReturnsInHanded a C os f .any (fun w args => (s.pre enc C.prog fn conds apart w args ∧ X w) ∧ sizedMet enc C.prog fn (OpenSpec.ofChange s) apart w args) (s.post enc C.prog fn apart fresh handsOn again) := by
  refine returnsInHanded_of_calls own started noInit witness ?_
  intro w tape i _ hsh _ hok hpre _
  obtain ⟨_, _, _, fn', hfn', _, _, _, _, hval⟩ := hok
  obtain rfl : fn' = fn := Option.some.inj (hfn'.symm.trans hfn)
  obtain ⟨⟨⟨ds, gs, before, hw, _⟩, hx⟩, hz⟩ := hpre
  have hw' := DataW.Whole.of_heap (w' := w.forCall tape i) (by rfl) hw
  refine (contract (w.forCall tape i) w.heap.size i.args ds gs before hval hw' (hz.weights hw) (hX _ _ (by rfl) hx) hsh).mono fun e W' ⟨v, he, hpost⟩ => ?_
  subst he
  exact ChangeSpec.post_blind hpost
/-- One start that fits. -/
theorem wit_cond {C : Checked} {os : Os} {f : FuncId} {fn : Func} {s : OpenSpec} {k : (H : Type) → List (DataW H) → Bool} (hk : s.cond = some k) {conds : List PathCond} {apart : Bool} {X : World → Prop} (w0 : World) (args : Array Value) (fuel : Nat) (hos : w0.os = os)
    (hsh : (w0.forCall (fun _ _ => 0) ⟨#[], args, []⟩).Shaped C.prog)
    (hok : Input.okWideB C.prog (w0.forCall (fun _ _ => 0) ⟨#[], args, []⟩) f ⟨#[], args, []⟩ = true)
    {x : List (DataW H) × List (DataW H) × List MemPlace} (hx : DataW.whole enc C.prog (w0.forCall (fun _ _ => 0) ⟨#[], args, []⟩).memory fn.params.toList s.vars apart args.toList fuel = some x)
    (hconds : conds.all (PathCond.test C.prog ⟨fn.params.toList, x.1, s.bare.plain.varTypes C.prog, x.2.1⟩) = true) (hkk : k H (x.1 ++ x.2.1) = true)
    (hsz : s.bare.sizedB enc C.prog fn apart (w0.forCall (fun _ _ => 0) ⟨#[], args, []⟩).memory args fuel = true)
    (hX : X (w0.forCall (fun _ _ => 0) ⟨#[], args, []⟩).memory) :
    ∃ (w : World) (tape : Tape) (i : Input), w.os = os ∧ (w.forCall tape i).Shaped C.prog ∧ i.vars = [] ∧ Input.okWide C.prog (w.forCall tape i) .any w.heap.size f i ∧
      ((s.pre enc C.prog fn conds apart (w.forCall tape i).memory i.args ∧ X (w.forCall tape i).memory) ∧ sizedMet enc C.prog fn s apart (w.forCall tape i).memory i.args) ∧ ({ modest := false } : Assume).holds C.prog (lone (Frame.enter C.prog f i.args .normal) [] (w.forCall tape i)) :=
  ⟨w0, fun _ _ => 0, ⟨#[], args, []⟩, hos, hsh, (Input.okWide_of_okWideB (base := 0) hok).1, (Input.okWide_of_okWideB hok).2,
    ⟨⟨(OpenSpec.pre_some hk conds apart _ _).2 ⟨x.1, x.2.1, x.2.2, DataW.Whole_of_whole hx, hconds, hkk⟩, hX⟩, sizedMet_of_sizedB hsz⟩, by
    simp only [Assume.holds]
    exact ⟨by simp, by simp, fun _ => Modest.zero, by simp, by simp⟩⟩
end

/-- What the rows list. -/
abbrev LD : List (String × DataW Unit) := Rows.benchReadsRow.laid
theorem laid_heap (w w' : World) (hh : w.heap = w'.heap) (h : laidMetH Tryd.prog LD w) : laidMetH Tryd.prog LD w' := h.of_heap hh
theorem laid_plain {w : World} (h : laidMetH Tryd.prog LD w) : laidMet Tryd.prog LD w := by
  rwa [MakeChecks.laidMetH_plain _ _ _ (by kernel_rfl)] at h

def esN : String := match (Rows.laid_strconv_ErrRange : DataW Unit) with
  | .iface nm _ => nm
  | _ => ""
theorem esRow (u : TypeId) (h : Tryd.prog.typeName? 3 u = some esN) : u = 239 :=
  typeName_ptr_named (nm := "errors.errorString") (by kernel_rfl) (by kernel_rfl) (by decide) u (h.trans (congrArg some (by kernel_rfl)))

theorem gw_of {W : World} (hsh : W.ShapedOpen Tryd.prog) (hL : laidMetH Tryd.prog LD W) : Bn.Gw W := by
  have h := laid_plain hL
  obtain ⟨m, hm⟩ := YtfcpmcdlgkfolaaDoor.Bench.cutL.s1_3 W hsh
  have htab := tabIs_of_head (k := .u64) (zs := pow10Tab) (g := YtfcpmcdlgkfolaaDoor.Bench.itoaL_ren.g 17) (t := 199) (e := 60) (n := 20) (by kernel_rfl) (by kernel_rfl) Tryd.underlying199 Tryd.underlying60 (by kernel_rfl) (by kernel_rfl) h.tail.tail
  obtain ⟨a1, s1, hr, _, _, _⟩ := laid_sentinel h.tail.tail.tail.tail (g := YtfcpmcdlgkfolaaDoor.Bench.atoiL_ren.g 16) (ti := 100) (by kernel_rfl) (by kernel_rfl) Tryd.underlying100 esRow Tryd.underlying239 Tryd.underlying241 rfl rfl Tryd.underlying9 (by kernel_rfl) (by kernel_rfl)
  obtain ⟨a2, s2, hs, _, _, _⟩ := laid_sentinel h.tail.tail.tail.tail.tail (g := YtfcpmcdlgkfolaaDoor.Bench.atoiL_ren.g 15) (ti := 100) (by kernel_rfl) (by kernel_rfl) Tryd.underlying100 esRow Tryd.underlying239 Tryd.underlying241 rfl rfl Tryd.underlying9 (by kernel_rfl) (by kernel_rfl)
  refine ⟨⟨m, hm⟩, ?_, ⟨239, .pointer (some a2), ?_⟩, ⟨239, .pointer (some a1), ?_⟩⟩
  · have e : ∀ {s : String}, s = Bn.pow10N → TabIs Tryd.prog W s .u64 pow10Tab → TabIs Tryd.prog W Bn.pow10N .u64 pow10Tab := fun e h => e ▸ h
    exact e (by kernel_rfl) htab
  · have h0 := World.var?_cell (g := YtfcpmcdlgkfolaaDoor.Bench.atoiL_ren.g 15) (by kernel_rfl) hs 0
    simpa using h0
  · have h0 := World.var?_cell (g := YtfcpmcdlgkfolaaDoor.Bench.atoiL_ren.g 16) (by kernel_rfl) hr 0
    simpa using h0
end Go.Proofs.YtfcpmcdlgkfolaaDoor

namespace Go.Proofs.YtfcpmcdlgkfolaaDoor
open Go.RowKit Go.ChangeShapes Go.WideShapes Go.ChangeAt

theorem bulk_nest {H : Type} {d : DataW H} {l : List (DataW H)} (h : d ∈ l) : Rows.uptoBulk d ≤ Rows.uptoBulk (.agg l) := by
  have := bulk_mem h
  simp only [Rows.uptoBulk]
  omega
theorem slice_bulk {H : Type} {enc : TypeId × Value → H} {P : Program} {W : World} {base : Nat} {spare : Nat → Bool} {held : Bool} {t e : TypeId} {A : Option Addr} {n c m : Nat} {y : DataW H × List MemPlace}
    (ht : P.underlying t = some (.slice e)) (hc : 0 < P.cellsOf e) (h : DataW.trod enc P W base spare held m t [.slice A n c] = some y) : n ≤ Rows.uptoBulk y.1 := by
  obtain ⟨A', n', c', es, ds, m', hcs, hlc, hes, hds, hd, hrd, hel⟩ := sl_open ht hc h
  simp only [List.cons.injEq, Value.slice.injEq, and_true] at hcs
  obtain ⟨rfl, rfl, rfl⟩ := hcs
  rcases hd with ⟨h0, _⟩ | ⟨sp, hd⟩
  · omega
  · rw [hd]
    have := bulk_len ds
    simp only [Rows.uptoBulk]
    omega
/-- The last field of a script. -/
theorem script_bulk {H : Type} {enc : TypeId × Value → H} {P : Program} {W : World} {base : Nat} {spare : Nat → Bool} {held : Bool} {t e ee sl : TypeId} {fs : Array Field} {x y z : Value} {A : Option Addr} {n c : Nat} {d : DataW H} {p : List MemPlace}
    (ts : P.underlying sl = some (.slice ee)) (hce : 0 < P.cellsOf ee) (ht : P.underlying t = some (.struct fs)) (hT : fs.toList.map (fun f => (f.type, f.offset, P.cellsOf f.type)) = [e, e, e, sl].zipIdx.map (fun x => (x.1, x.2, 1)))
    (h : DataW.Trod enc P W base spare held t (.agg #[x, y, z, .slice A n c]) d p) : n ≤ Rows.uptoBulk d := by
  obtain ⟨fuel, hf⟩ := h
  obtain ⟨xs, m, _, hd, hl, hlen, hfl⟩ := DataW.trod_struct ht hf
  obtain rfl : d = .agg (xs.map (·.1)) := congrArg Prod.fst hd
  have h1 : (fs.toList.map (fun f => (f.type, f.offset, P.cellsOf f.type)))[3]? = some (sl, 3, 1) := by rw [hT]; rfl
  rw [List.getElem?_map, Option.map_eq_some_iff] at h1
  obtain ⟨f, hfi, hfe⟩ := h1
  simp only [Prod.mk.injEq] at hfe
  obtain ⟨e1, e2, e3⟩ := hfe
  have hfi' : fs[3]? = some f := by simpa using hfi
  have hix : 3 < xs.length := by rw [hlen]; exact (Array.getElem?_eq_some_iff.1 hfi').1
  have h2 := hfl 3 f hfi'
  rw [e2, e3, e1, List.getElem?_eq_getElem hix] at h2
  exact Nat.le_trans (slice_bulk ts hce h2) (bulk_nest (List.mem_map.2 ⟨xs[3], List.getElem_mem hix, rfl⟩))
end Go.Proofs.YtfcpmcdlgkfolaaDoor
