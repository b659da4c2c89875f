/- The frame of a law's proof, once for all laws of a seat: arguments that read as data, opened to plain values; what is kept in the end. -/
import Derived.Test.YtoibebmhfcjpfaaGreatDoorZfMem
import Derived.ProofKit
import Derived.OpenShut
import Derived.SizedLaws
import Derived.Carry
namespace Go.Proofs.YtoibebmhfcjpfaaGreatDoor
open Go.RowKit Go.ChangeShapes Go.WideShapes Go.ChangeAt

theorem own : ownKnob Tryz.prog.godebug = none := by kernel_rfl
theorem laidOut : laidOutB Tryz.prog = true := by kernel_rfl

section
variable {H : Type} {enc : TypeId × Value → H} {P : Program} {w : World} {base : Nat} {spare : Nat → Bool} {held : Bool}

theorem addr_add_add (a : Addr) (i j : Nat) : (a.add i).add j = a.add (i + j) := by
  unfold Addr.add
  by_cases hi : i = 0 <;> by_cases hj : j = 0 <;> simp [hi, hj, Nat.add_assoc]

theorem addr_add (b off n : Nat) : (⟨b, off, none⟩ : Addr).add n = ⟨b, off + n, none⟩ := by
  unfold Addr.add
  by_cases h : n = 0 <;> simp [h]

/-- A slice of whatever: nil, or the elements' cells, each with its reading. -/
theorem sl_open {t e : TypeId} {fuel : Nat} {cs : List Value} {x : DataW H × List MemPlace} (ht : P.underlying t = some (.slice e)) (hsz : 0 < P.cellsOf e)
    (h : DataW.trod enc P w base spare held fuel t cs = some x) :
    ∃ (A : Option Addr) (len cap : Nat) (es : List (List Value)) (ds : List (DataW H)) (n : Nat), cs = [.slice A len cap] ∧ len ≤ cap ∧ es.length = len ∧ ds.length = len ∧
      ((len = 0 ∧ x.1 = .nil) ∨ ∃ sp, x.1 = .slice ds sp) ∧
      Rd w A es.flatten ∧ (∀ (i : Nat) (c : List Value), es[i]? = some c → c.length = P.cellsOf e ∧ ∃ y, DataW.trod enc P w base spare held n e c = some y ∧ ds[i]? = some y.1) := by
  rcases DataW.trod_slice ht h with ⟨rfl, rfl⟩ | ⟨a, len, cap, elems, rest, n, _, rfl, rfl, _, hl, _, hlen, hel, _, _⟩
  · exact ⟨none, 0, 0, [], [], 0, rfl, Nat.le_refl _, rfl, rfl, .inl ⟨rfl, rfl⟩, .inl rfl, fun i c hc => by simp at hc⟩
  · have each : ∀ i, i < len → ∃ c, w.cells? base (a.add (i * P.cellsOf e)) (P.cellsOf e) = some c ∧ DataW.trod enc P w base spare held n e c = elems[i]? := by
      intro i hi
      have := hel i hi
      rw [List.getElem?_eq_getElem (by omega), Option.bind_eq_some_iff] at this
      obtain ⟨c, hc, hy⟩ := this
      exact ⟨c, hc, by rw [hy, List.getElem?_eq_getElem]⟩
    let cell : Nat → List Value := fun i => (w.cells? base (a.add (i * P.cellsOf e)) (P.cellsOf e)).getD []
    have hcell : ∀ i, i < len → w.cells? base (a.add (i * P.cellsOf e)) (P.cellsOf e) = some (cell i) := by
      intro i hi
      obtain ⟨c, hc, _⟩ := each i hi
      show _ = some ((w.cells? base (a.add (i * P.cellsOf e)) (P.cellsOf e)).getD [])
      rw [hc]
      rfl
    have hclen : ∀ i, i < len → (cell i).length = P.cellsOf e := fun i hi => (World.cells?_some (hcell i hi)).2.1
    refine ⟨some a, len, cap, (List.range len).map cell, elems.map (·.1), n, rfl, hl, by simp, by simpa using hlen, .inr ⟨_, rfl⟩, ?_, ?_⟩
    · rcases Nat.eq_zero_or_pos len with h0 | h0
      · subst h0
        exact .inl rfl
      · have hspot : a.spot = none := by
          have := (World.cells?_some (hcell 0 h0)).2.2 0 hsz
          rw [List.getElem?_eq_getElem (by rw [hclen 0 h0]; exact hsz)] at this
          have := World.cell?_spot this
          simpa [Addr.add] using this
        obtain ⟨b, off, spot⟩ := a
        simp only at hspot
        subst hspot
        refine .inr ⟨b, off, rfl, ?_⟩
        have key : ∀ m, m ≤ len → (((List.range m).map cell).flatten.length = m * P.cellsOf e) ∧ ∀ j u, ((List.range m).map cell).flatten[j]? = some u → w.cell? ⟨b, off + j, none⟩ = some u := by
          intro m
          induction m with
          | zero => intro _; exact ⟨by simp, fun j u hu => by simp at hu⟩
          | succ m ih =>
            intro hm
            obtain ⟨ih1, ih2⟩ := ih (by omega)
            rw [List.range_succ, List.map_append, List.flatten_append]
            simp only [List.map_cons, List.map_nil, List.flatten_cons, List.flatten_nil, List.append_nil]
            refine ⟨by rw [List.length_append, ih1, hclen m (by omega), Nat.succ_mul], fun j u hu => ?_⟩
            by_cases hj : j < m * P.cellsOf e
            · rw [List.getElem?_append_left (by rw [ih1]; exact hj)] at hu
              exact ih2 j u hu
            · rw [List.getElem?_append_right (by rw [ih1]; omega), ih1] at hu
              have hjl : j - m * P.cellsOf e < P.cellsOf e := by
                have := (List.getElem?_eq_some_iff.1 hu).1
                rwa [hclen m (by omega)] at this
              have h1 := (World.cells?_some (hcell m (by omega))).2.2 _ hjl
              rw [addr_add_add, addr_add, hu] at h1
              rw [← h1]
              congr 2
              omega
        exact (key len (Nat.le_refl _)).2
    · intro i c hc
      rw [List.getElem?_map, Option.map_eq_some_iff] at hc
      obtain ⟨j, hj, rfl⟩ := hc
      obtain ⟨hjl, hjj⟩ := List.getElem?_eq_some_iff.1 hj
      rw [List.getElem_range] at hjj
      subst hjj
      have hil : i < len := by simpa using hjl
      refine ⟨hclen i hil, ?_⟩
      obtain ⟨c', hc', hy⟩ := each i hil
      rw [hcell i hil, Option.some.injEq] at hc'
      subst hc'
      rw [List.getElem?_eq_getElem (by omega)] at hy
      exact ⟨_, hy, by rw [List.getElem?_map, List.getElem?_eq_getElem (by omega)]; rfl⟩
end

/-- What all arguments read as, together, is kept. -/
theorem trodAll_below {H : Type} {enc : TypeId × Value → H} {P : Program} (hl : laidOutB P = true) {W W' : World} (hb : Below W.heap.size W W') :
    ∀ {ts : List TypeId} {vs : List Value} {ds : List (DataW H)} {ps : List MemPlace}, (∀ t ∈ ts, P.readableRec t = true ∧ t < P.types.size) →
      DataW.TrodAll enc P W 0 (fun _ => true) true ts vs ds ps → (∀ x ∈ ps, x.block < W.heap.size) → DataW.TrodAll enc P W' 0 (fun b => decide (b < W.heap.size)) true ts vs ds ps
  | [], [], [], _, _, h, _ => h
  | t :: ts, v :: vs, d :: ds, _, ht, ⟨p, q, h1, h2, e⟩, hlt => by
    subst e
    exact ⟨p, q, Below.trod hl (ht t (by simp)).1 (ht t (by simp)).2 h1 hb (fun x hx => hlt x (by simp [hx])),
      trodAll_below hl hb (fun t' h' => ht t' (by simp [h'])) h2 (fun x hx => hlt x (by simp [hx])), rfl⟩
  | [], _ :: _, _, _, _, h, _ => h.elim
  | [], [], _ :: _, _, _, h, _ => h.elim
  | _ :: _, [], _, _, _, h, _ => h.elim
  | _ :: _, _ :: _, [], _, _, h, _ => h.elim

/-- A law that answers true and writes nothing that was there: what its row asks in the end. -/
theorem law_post {H : Type} {enc : TypeId × Value → H} {P : Program} {fn : Func} {s : ChangeSpec} {W W' : World} {args : Array Value} {ds gs : List (DataW H)} {before : List MemPlace} {tb : TypeId}
    (hl : laidOutB P = true) (ht : ∀ t ∈ fn.params.toList, P.readableRec t = true ∧ t < P.types.size) (hv : s.vars = []) (hres : fn.resultTypes = #[tb]) (hb : P.underlying tb = some .bool)
    (hW : DataW.Whole enc P fn.params.toList s.vars false W args.toList ds gs before) (hfn : s.fn H (ds ++ gs) = { results := [.lit (.bool true)], args := ds }) (bel : Below W.heap.size W W') :
    s.post enc P fn false true false false W args (.bool true) W' := by
  have hlt := hW.lt
  have hW' := hW
  obtain ⟨p, q, hA, hV, rfl, _, _⟩ := hW'
  rw [hv] at hV
  obtain ⟨rfl, rfl⟩ := trodVars_none hV
  refine ⟨ds, [], p ++ [], [], p, [], hW, ?_, ?_, ?_, bel.frame _, fun h => by cases h⟩
  · rw [hfn, hres]
    exact trodAll_mk1 (shut_bool hb _)
  · rw [hfn]
    exact trodAll_below hl bel ht hA (fun x hx => hlt x (by simp [hx]))
  · rw [hfn, hv]
    rfl

theorem weights_cons {H : Type} {P : Program} {t : TypeId} {ts : List TypeId} {d : DataW H} {ds : List (DataW H)} (h : (DataW.weightsEach P (t :: ts) (d :: ds)).all (· ≤ reachBytes) = true) :
    (d.weights P t).all (· ≤ reachBytes) = true ∧ (DataW.weightsEach P ts ds).all (· ≤ reachBytes) = true := by
  simp only [DataW.weightsEach, List.all_append, Bool.and_eq_true] at h
  exact h

theorem weights_sl {H : Type} {P : Program} {t e : TypeId} {el sp : List (DataW H)} (ht : P.underlying t = some (.slice e)) (h : ((DataW.slice el sp).weights P t).all (· ≤ reachBytes) = true) :
    el.length * P.bytesOf e ≤ 140737488351232 := by
  simp only [DataW.weights, ht, List.all_cons, Bool.and_eq_true, decide_eq_true_eq] at h
  have := Nat.mul_le_mul_right (P.bytesOf e) (Nat.le_add_right el.length sp.length)
  have h1 := h.1
  simp only [reachBytes] at h1
  omega

/-- An argument that is a slice of integers. -/
theorem arg_ints {H : Type} {enc : TypeId × Value → H} {P : Program} {W : World} {base base' : Nat} {spare : Nat → Bool} {held : Bool} {t e : TypeId} {k : IntKind} {v : Value} {d : DataW H} {p : List MemPlace}
    (ht : P.underlying t = some (.slice e)) (he : P.underlying e = some (.int k)) (hc : P.cellsOf e = 1)
    (hv : Value.okWide P W .any base' t v) (h : DataW.Trod enc P W base spare held t v d p) (hw : (d.weights P t).all (· ≤ reachBytes) = true) :
    ∃ (A : Option Addr) (n c : Nat) (zs : List Int), v = .slice A n c ∧ n ≤ c ∧ RdI k W A zs ∧ zs.length = n ∧ (∀ z ∈ zs, (Lit.int k z).wf = true) ∧ n * P.bytesOf e ≤ 140737488351232 := by
  obtain ⟨A, n, c, rfl⟩ := okWide_slice ht hv
  obtain ⟨fuel, hf⟩ := h
  obtain ⟨A', n', c', es, ds, m, hcs, hlc, hes, hds, hd, hrd, hel⟩ := sl_open ht (by rw [hc]; omega) hf
  simp only [Value.cells, List.cons.injEq, Value.slice.injEq, and_true] at hcs
  obtain ⟨rfl, rfl, rfl⟩ := hcs
  have key : ∀ (i : Nat) (c : List Value), es[i]? = some c → ∃ z, c = [.int k z] ∧ (Lit.int k z).wf = true := by
    intro i c hi
    obtain ⟨_, y, hy, _⟩ := hel i c hi
    obtain ⟨z, hz, _, hw⟩ := DataW.trod_int he hy
    exact ⟨z, hz, hw⟩
  have hzs : ∀ (l : List (List Value)), (∀ (i : Nat) (c : List Value), l[i]? = some c → ∃ z, c = [.int k z] ∧ (Lit.int k z).wf = true) → ∃ zs : List Int, l.flatten = zs.map (Value.int k) ∧ zs.length = l.length ∧ ∀ z ∈ zs, (Lit.int k z).wf = true := by
    intro l
    induction l with
    | nil => intro _; exact ⟨[], rfl, rfl, by simp⟩
    | cons c l ih =>
      intro hl
      obtain ⟨z, rfl, hz⟩ := hl 0 c rfl
      obtain ⟨zs, h1, h2, h3⟩ := ih (fun i c hi => hl (i + 1) c hi)
      refine ⟨z :: zs, by simp [h1], by simp [h2], fun x hx => ?_⟩
      rcases List.mem_cons.1 hx with rfl | hx
      · exact hz
      · exact h3 x hx
  obtain ⟨zs, h1, h2, h3⟩ := hzs es key
  refine ⟨A, n, c, zs, rfl, hlc, by unfold RdI; rw [← h1]; exact hrd, by rw [h2, hes], h3, ?_⟩
  rcases hd with ⟨rfl, _⟩ | ⟨sp, hd⟩
  · simp
  · simp only at hd
    subst hd
    have := weights_sl ht hw
    rwa [hds] at this

end Go.Proofs.YtoibebmhfcjpfaaGreatDoor
