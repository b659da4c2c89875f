/- The frame of a law's proof, once for all laws of a seat: arguments that read as data, opened to plain values; what is kept in the end. -/
import Derived.Test.YtfcpmcdlgkfolaaDoorZhMem
import Derived.ProofKit
import Derived.OpenShut
import Derived.SizedLaws
import Derived.Carry
namespace Go.Proofs.YtfcpmcdlgkfolaaDoor
open Go.RowKit Go.ChangeShapes Go.WideShapes Go.ChangeAt

theorem own : ownKnob Tryd.prog.godebug = none := by kernel_rfl
theorem laidOut : laidOutB Tryd.prog = true := by kernel_rfl

theorem mapM_mem {α β : Type} {f : α → Option β} : ∀ {l : List α} {r : List β}, l.mapM f = some r → ∀ {y : β}, y ∈ r → ∃ (i : Nat) (x : α), l[i]? = some x ∧ f x = some y
  | [], r, h, y, hy => by simp at h; subst h; cases hy
  | a :: l, r, h, y, hy => by
    simp only [List.mapM_cons, Option.bind_eq_bind, Option.bind_eq_some_iff, Option.pure_def, Option.some.injEq] at h
    obtain ⟨b, hb, bs, hbs, rfl⟩ := h
    rcases List.mem_cons.1 hy with rfl | hy
    · exact ⟨0, a, rfl, hb⟩
    · obtain ⟨i, x, hi, hx⟩ := mapM_mem hbs hy
      exact ⟨i + 1, x, hi, hx⟩

/-- The places of the integers in a value of a type that holds integers alone. -/
def flatO (P : Program) : Nat → TypeId → Nat → Option (List (Nat × IntKind))
  | 0, _, _ => none
  | g + 1, t, b => match P.underlying t with
    | some (.int k) => some [(b, k)]
    | some (.struct fs) => (fs.toList.mapM fun f => flatO P g f.type (b + f.offset)).map List.flatten
    | some (.array n e) => ((List.range n).mapM fun i => flatO P g e (b + i * P.cellsOf e)).map List.flatten
    | _ => none

section
variable {H : Type} {enc : TypeId × Value → H} {P : Program} {w : World} {base : Nat} {spare : Nat → Bool} {held : Bool}

theorem sub_get {cs cs0 : List Value} {b off m : Nat} (h : ∀ (o : Nat) (v : Value), cs[o]? = some v → cs0[b + o]? = some v) (o : Nat) (v : Value)
    (hv : ((cs.drop off).take m)[o]? = some v) : cs0[b + off + o]? = some v := by
  rw [List.getElem?_take] at hv
  split at hv
  · rw [List.getElem?_drop] at hv
    rw [Nat.add_assoc]
    exact h _ _ hv
  · cases hv

theorem flat_reads : ∀ (g : Nat) (t : TypeId) (b : Nat) (L : List (Nat × IntKind)), flatO P g t b = some L →
    ∀ (fuel : Nat) (cs0 cs : List Value) (x : DataW H × List MemPlace), DataW.trod enc P w base spare held fuel t cs = some x →
    (∀ (o : Nat) (v : Value), cs[o]? = some v → cs0[b + o]? = some v) → ∀ ok ∈ L, ∃ z, cs0[ok.1]? = some (.int ok.2 z) ∧ (Lit.int ok.2 z).wf = true
  | 0, _, _, _, h => by simp [flatO] at h
  | g + 1, t, b, L, h => by
    intro fuel cs0 cs x hx hcs ok hok
    unfold flatO at h
    split at h
    · rename_i k ht
      obtain ⟨n, rfl, _, hw⟩ := DataW.trod_int ht hx
      simp only [Option.some.injEq] at h
      subst h
      simp only [List.mem_singleton] at hok
      subst hok
      exact ⟨n, by simpa using hcs 0 _ rfl, hw⟩
    · rename_i fs ht
      obtain ⟨xs, n, rfl, _, _, hlen, hf⟩ := DataW.trod_struct ht hx
      simp only [Option.map_eq_some_iff] at h
      obtain ⟨Ls, hLs, rfl⟩ := h
      obtain ⟨Lf, hLf, hmem⟩ := List.mem_flatten.1 hok
      obtain ⟨i, f, hi, hff⟩ := mapM_mem hLs hLf
      have hi' : fs[i]? = some f := by simpa using hi
      have hil : i < xs.length := by rw [hlen]; exact (Array.getElem?_eq_some_iff.1 hi').1
      have h1 := hf i f hi'
      rw [List.getElem?_eq_getElem hil] at h1
      exact flat_reads g f.type (b + f.offset) Lf hff n cs0 _ _ h1 (sub_get hcs) ok hmem
    · rename_i n e ht
      obtain ⟨xs, m, rfl, _, _, hlen, hf⟩ := DataW.trod_array ht hx
      simp only [Option.map_eq_some_iff] at h
      obtain ⟨Ls, hLs, rfl⟩ := h
      obtain ⟨Lf, hLf, hmem⟩ := List.mem_flatten.1 hok
      obtain ⟨i, j, hi, hff⟩ := mapM_mem hLs hLf
      obtain ⟨hin, hj⟩ := List.getElem?_eq_some_iff.1 hi
      rw [List.getElem_range] at hj
      subst hj
      have hin' : i < n := by simpa using hin
      have h1 := hf i hin'
      rw [List.getElem?_eq_getElem (by omega)] at h1
      exact flat_reads g e (b + i * P.cellsOf e) Lf hff m cs0 _ _ h1 (sub_get hcs) ok hmem
    · cases h

/-- A value of such a type: its cells. -/
theorem flat_val {t : TypeId} {fuel : Nat} {cs : List Value} {x : DataW H × List MemPlace} {L : List (Nat × IntKind)} (g : Nat) (hL : flatO P g t 0 = some L)
    (h : DataW.trod enc P w base spare held fuel t cs = some x) : ∀ ok ∈ L, ∃ z, cs[ok.1]? = some (.int ok.2 z) ∧ (Lit.int ok.2 z).wf = true :=
  flat_reads g t 0 L hL fuel cs cs x h (fun o v hv => by simpa using hv)

theorem addr_add_add (a : Addr) (i j : Nat) : (a.add i).add j = a.add (i + j) := by
  unfold Addr.add
  by_cases hi : i = 0 <;> by_cases hj : j = 0 <;> simp [hi, hj, Nat.add_assoc]

theorem addr_add (b off n : Nat) : (⟨b, off, none⟩ : Addr).add n = ⟨b, off + n, none⟩ := by
  unfold Addr.add
  by_cases h : n = 0 <;> simp [h]

/-- A slice of whatever: nil, or the elements' cells, each with its reading. -/
theorem sl_open {t e : TypeId} {fuel : Nat} {cs : List Value} {x : DataW H × List MemPlace} (ht : P.underlying t = some (.slice e)) (hsz : 0 < P.cellsOf e)
    (h : DataW.trod enc P w base spare held fuel t cs = some x) :
    ∃ (A : Option Addr) (len cap : Nat) (es : List (List Value)) (ds : List (DataW H)) (n : Nat), cs = [.slice A len cap] ∧ len ≤ cap ∧ es.length = len ∧ ds.length = len ∧
      ((len = 0 ∧ x.1 = .nil) ∨ ∃ sp, x.1 = .slice ds sp) ∧
      Rd w A es.flatten ∧ (∀ (i : Nat) (c : List Value), es[i]? = some c → c.length = P.cellsOf e ∧ ∃ y, DataW.trod enc P w base spare held n e c = some y ∧ ds[i]? = some y.1) := by
  rcases DataW.trod_slice ht h with ⟨rfl, rfl⟩ | ⟨a, len, cap, elems, rest, n, _, rfl, rfl, _, hl, _, hlen, hel, _, _⟩
  · exact ⟨none, 0, 0, [], [], 0, rfl, Nat.le_refl _, rfl, rfl, .inl ⟨rfl, rfl⟩, .inl rfl, fun i c hc => by simp at hc⟩
  · have each : ∀ i, i < len → ∃ c, w.cells? base (a.add (i * P.cellsOf e)) (P.cellsOf e) = some c ∧ DataW.trod enc P w base spare held n e c = elems[i]? := by
      intro i hi
      have := hel i hi
      rw [List.getElem?_eq_getElem (by omega), Option.bind_eq_some_iff] at this
      obtain ⟨c, hc, hy⟩ := this
      exact ⟨c, hc, by rw [hy, List.getElem?_eq_getElem]⟩
    let cell : Nat → List Value := fun i => (w.cells? base (a.add (i * P.cellsOf e)) (P.cellsOf e)).getD []
    have hcell : ∀ i, i < len → w.cells? base (a.add (i * P.cellsOf e)) (P.cellsOf e) = some (cell i) := by
      intro i hi
      obtain ⟨c, hc, _⟩ := each i hi
      show _ = some ((w.cells? base (a.add (i * P.cellsOf e)) (P.cellsOf e)).getD [])
      rw [hc]
      rfl
    have hclen : ∀ i, i < len → (cell i).length = P.cellsOf e := fun i hi => (World.cells?_some (hcell i hi)).2.1
    refine ⟨some a, len, cap, (List.range len).map cell, elems.map (·.1), n, rfl, hl, by simp, by simpa using hlen, .inr ⟨_, rfl⟩, ?_, ?_⟩
    · rcases Nat.eq_zero_or_pos len with h0 | h0
      · subst h0
        exact .inl rfl
      · have hspot : a.spot = none := by
          have := (World.cells?_some (hcell 0 h0)).2.2 0 hsz
          rw [List.getElem?_eq_getElem (by rw [hclen 0 h0]; exact hsz)] at this
          have := World.cell?_spot this
          simpa [Addr.add] using this
        obtain ⟨b, off, spot⟩ := a
        simp only at hspot
        subst hspot
        refine .inr ⟨b, off, rfl, ?_⟩
        have key : ∀ m, m ≤ len → (((List.range m).map cell).flatten.length = m * P.cellsOf e) ∧ ∀ j u, ((List.range m).map cell).flatten[j]? = some u → w.cell? ⟨b, off + j, none⟩ = some u := by
          intro m
          induction m with
          | zero => intro _; exact ⟨by simp, fun j u hu => by simp at hu⟩
          | succ m ih =>
            intro hm
            obtain ⟨ih1, ih2⟩ := ih (by omega)
            rw [List.range_succ, List.map_append, List.flatten_append]
            simp only [List.map_cons, List.map_nil, List.flatten_cons, List.flatten_nil, List.append_nil]
            refine ⟨by rw [List.length_append, ih1, hclen m (by omega), Nat.succ_mul], fun j u hu => ?_⟩
            by_cases hj : j < m * P.cellsOf e
            · rw [List.getElem?_append_left (by rw [ih1]; exact hj)] at hu
              exact ih2 j u hu
            · rw [List.getElem?_append_right (by rw [ih1]; omega), ih1] at hu
              have hjl : j - m * P.cellsOf e < P.cellsOf e := by
                have := (List.getElem?_eq_some_iff.1 hu).1
                rwa [hclen m (by omega)] at this
              have h1 := (World.cells?_some (hcell m (by omega))).2.2 _ hjl
              rw [addr_add_add, addr_add, hu] at h1
              rw [← h1]
              congr 2
              omega
        exact (key len (Nat.le_refl _)).2
    · intro i c hc
      rw [List.getElem?_map, Option.map_eq_some_iff] at hc
      obtain ⟨j, hj, rfl⟩ := hc
      obtain ⟨hjl, hjj⟩ := List.getElem?_eq_some_iff.1 hj
      rw [List.getElem_range] at hjj
      subst hjj
      have hil : i < len := by simpa using hjl
      refine ⟨hclen i hil, ?_⟩
      obtain ⟨c', hc', hy⟩ := each i hil
      rw [hcell i hil, Option.some.injEq] at hc'
      subst hc'
      rw [List.getElem?_eq_getElem (by omega)] at hy
      exact ⟨_, hy, by rw [List.getElem?_map, List.getElem?_eq_getElem (by omega)]; rfl⟩
end

/-- What all arguments read as, together, is kept. -/
theorem trodAll_below {H : Type} {enc : TypeId × Value → H} {P : Program} (hl : laidOutB P = true) {W W' : World} (hb : Below W.heap.size W W') :
    ∀ {ts : List TypeId} {vs : List Value} {ds : List (DataW H)} {ps : List MemPlace}, (∀ t ∈ ts, P.readableRec t = true ∧ t < P.types.size) →
      DataW.TrodAll enc P W 0 (fun _ => true) true ts vs ds ps → (∀ x ∈ ps, x.block < W.heap.size) → DataW.TrodAll enc P W' 0 (fun b => decide (b < W.heap.size)) true ts vs ds ps
  | [], [], [], _, _, h, _ => h
  | t :: ts, v :: vs, d :: ds, _, ht, ⟨p, q, h1, h2, e⟩, hlt => by
    subst e
    exact ⟨p, q, Below.trod hl (ht t (by simp)).1 (ht t (by simp)).2 h1 hb (fun x hx => hlt x (by simp [hx])),
      trodAll_below hl hb (fun t' h' => ht t' (by simp [h'])) h2 (fun x hx => hlt x (by simp [hx])), rfl⟩
  | [], _ :: _, _, _, _, h, _ => h.elim
  | [], [], _ :: _, _, _, h, _ => h.elim
  | _ :: _, [], _, _, _, h, _ => h.elim
  | _ :: _, _ :: _, [], _, _, h, _ => h.elim

/-- A law that answers true and writes nothing that was there: what its row asks in the end. -/
theorem law_post {H : Type} {enc : TypeId × Value → H} {P : Program} {fn : Func} {s : ChangeSpec} {W W' : World} {args : Array Value} {ds gs : List (DataW H)} {before : List MemPlace} {tb : TypeId}
    (hl : laidOutB P = true) (ht : ∀ t ∈ fn.params.toList, P.readableRec t = true ∧ t < P.types.size) (hv : s.vars = []) (hres : fn.resultTypes = #[tb]) (hb : P.underlying tb = some .bool)
    (hW : DataW.Whole enc P fn.params.toList s.vars false W args.toList ds gs before) (hfn : s.fn H (ds ++ gs) = { results := [.lit (.bool true)], args := ds }) (bel : Below W.heap.size W W') :
    s.post enc P fn false true false false W args (.bool true) W' := by
  have hlt := hW.lt
  have hW' := hW
  obtain ⟨p, q, hA, hV, rfl, _, _⟩ := hW'
  rw [hv] at hV
  obtain ⟨rfl, rfl⟩ := trodVars_none hV
  refine ⟨ds, [], p ++ [], [], p, [], hW, ?_, ?_, ?_, bel.frame _, fun h => by cases h⟩
  · rw [hfn, hres]
    exact trodAll_mk1 (shut_bool hb _)
  · rw [hfn]
    exact trodAll_below hl bel ht hA (fun x hx => hlt x (by simp [hx]))
  · rw [hfn, hv]
    rfl

theorem weights_cons {H : Type} {P : Program} {t : TypeId} {ts : List TypeId} {d : DataW H} {ds : List (DataW H)} (h : (DataW.weightsEach P (t :: ts) (d :: ds)).all (· ≤ reachBytes) = true) :
    (d.weights P t).all (· ≤ reachBytes) = true ∧ (DataW.weightsEach P ts ds).all (· ≤ reachBytes) = true := by
  simp only [DataW.weightsEach, List.all_append, Bool.and_eq_true] at h
  exact h

theorem weights_sl {H : Type} {P : Program} {t e : TypeId} {el sp : List (DataW H)} (ht : P.underlying t = some (.slice e)) (h : ((DataW.slice el sp).weights P t).all (· ≤ reachBytes) = true) :
    el.length * P.bytesOf e ≤ 140737488351232 := by
  simp only [DataW.weights, ht, List.all_cons, Bool.and_eq_true, decide_eq_true_eq] at h
  have := Nat.mul_le_mul_right (P.bytesOf e) (Nat.le_add_right el.length sp.length)
  have h1 := h.1
  simp only [reachBytes] at h1
  omega

theorem zip_of : ∀ (ks : List IntKind) (cs : List Value), cs.length = ks.length → (∀ (i : Nat) (k : IntKind), ks[i]? = some k → ∃ z, cs[i]? = some (.int k z) ∧ (Lit.int k z).wf = true) →
    ∃ zs : List Int, zs.length = ks.length ∧ cs = List.zipWith Value.int ks zs ∧ ∀ (i : Nat) (k : IntKind) (z : Int), ks[i]? = some k → zs[i]? = some z → (Lit.int k z).wf = true
  | [], [], _, _ => ⟨[], rfl, rfl, fun i k z h => by simp at h⟩
  | k :: ks, c :: cs, hl, h => by
    obtain ⟨z, hz, hw⟩ := h 0 k rfl
    simp only [List.getElem?_cons_zero, Option.some.injEq] at hz
    subst hz
    obtain ⟨zs, h1, h2, h3⟩ := zip_of ks cs (by simpa using hl) (fun i k' hk => h (i + 1) k' hk)
    refine ⟨z :: zs, by simp [h1], by simp [h2], fun i k' z' hk hz' => ?_⟩
    cases i with
    | zero =>
      simp only [List.getElem?_cons_zero, Option.some.injEq] at hk hz'
      subst hk; subst hz'
      exact hw
    | succ i => exact h3 i k' z' (by simpa using hk) (by simpa using hz')
  | [], _ :: _, hl, _ => by simp at hl
  | _ :: _, [], hl, _ => by simp at hl

theorem list_2 {l : List Int} (h : l.length = 2) : ∃ x0 x1, l = [x0, x1] := by
  match l, h with
  | [x0, x1], _ => exact ⟨x0, x1, rfl⟩
theorem rows_of {ks : List IntKind} : ∀ (es : List (List Value)), (∀ (i : Nat) (c : List Value), es[i]? = some c → c.length = ks.length ∧ ∀ (i : Nat) (k : IntKind), ks[i]? = some k → ∃ z, c[i]? = some (.int k z) ∧ (Lit.int k z).wf = true) →
    ∃ rows : List (List Int), rows.length = es.length ∧ es.flatten = rows.flatMap (fun r => List.zipWith Value.int ks r) ∧
      ∀ r ∈ rows, r.length = ks.length ∧ ∀ (i : Nat) (k : IntKind) (z : Int), ks[i]? = some k → r[i]? = some z → (Lit.int k z).wf = true
  | [], _ => ⟨[], rfl, rfl, by simp⟩
  | c :: es, h => by
    obtain ⟨hl, hc⟩ := h 0 c rfl
    obtain ⟨zs, h1, h2, h3⟩ := zip_of ks c hl hc
    obtain ⟨rows, r1, r2, r3⟩ := rows_of es (fun i c hi => h (i + 1) c hi)
    refine ⟨zs :: rows, by simp [r1], by simp [r2, h2], fun r hr => ?_⟩
    rcases List.mem_cons.1 hr with rfl | hr
    · exact ⟨h1, h3⟩
    · exact r3 r hr

/-- An argument that is a slice of structs of integers. -/
theorem arg_sts {H : Type} {enc : TypeId × Value → H} {P : Program} {W : World} {base base' : Nat} {spare : Nat → Bool} {held : Bool} {t e : TypeId} {ks : List IntKind} {v : Value} {d : DataW H} {p : List MemPlace}
    (ht : P.underlying t = some (.slice e)) (hL : flatO P 8 e 0 = some (ks.zipIdx.map fun x => (x.2, x.1))) (hc : P.cellsOf e = ks.length) (hpos : 0 < ks.length)
    (hv : Value.okWide P W .any base' t v) (h : DataW.Trod enc P W base spare held t v d p) (hw : (d.weights P t).all (· ≤ reachBytes) = true) :
    ∃ (A : Option Addr) (n c : Nat) (rows : List (List Int)), v = .slice A n c ∧ n ≤ c ∧ rows.length = n ∧ Rd W A (rows.flatMap fun r => List.zipWith Value.int ks r) ∧
      (∀ r ∈ rows, r.length = ks.length ∧ ∀ (i : Nat) (k : IntKind) (z : Int), ks[i]? = some k → r[i]? = some z → (Lit.int k z).wf = true) ∧ n * P.bytesOf e ≤ 140737488351232 := by
  obtain ⟨A, n, c, rfl⟩ := okWide_slice ht hv
  obtain ⟨fuel, hf⟩ := h
  obtain ⟨A', n', c', es, ds, m, hcs, hlc, hes, hds, hd, hrd, hel⟩ := sl_open ht (by rw [hc]; exact hpos) hf
  simp only [Value.cells, List.cons.injEq, Value.slice.injEq, and_true] at hcs
  obtain ⟨rfl, rfl, rfl⟩ := hcs
  obtain ⟨rows, h1, h2, h3⟩ := rows_of (ks := ks) es (fun i c hi => by
    obtain ⟨hl, y, hy, _⟩ := hel i c hi
    refine ⟨by rw [hl, hc], fun i k hk => ?_⟩
    exact flat_val 8 hL hy (i, k) (List.mem_map.2 ⟨(k, i), List.mem_zipIdx_iff_getElem?.2 hk, rfl⟩))
  refine ⟨A, n, c, rows, rfl, hlc, by rw [h1, hes], by rw [← h2]; exact hrd, h3, ?_⟩
  rcases hd with ⟨rfl, _⟩ | ⟨sp, hd⟩
  · simp
  · simp only at hd
    subst hd
    have := weights_sl ht hw
    rwa [hds] at this

/-- Rows of two. -/
theorem rows2 {rows : List (List Int)} (h : ∀ r ∈ rows, r.length = 2) : ∃ l : List (Int × Int), l.length = rows.length ∧ rows.flatMap (fun r => List.zipWith Value.int [.i64, .i64] r) = l.flatMap c2 ∧ ∀ s ∈ l, [s.1, s.2] ∈ rows := by
  induction rows with
  | nil => exact ⟨[], rfl, rfl, by simp⟩
  | cons r rows ih =>
    obtain ⟨l, h1, h2, h3⟩ := ih (fun r hr => h r (by simp [hr]))
    obtain ⟨x, y, rfl⟩ := list_2 (h r (by simp))
    refine ⟨(x, y) :: l, by simp [h1], by simp only [List.flatMap_cons, h2]; rfl, fun s hs => ?_⟩
    rcases List.mem_cons.1 hs with rfl | hs
    · simp
    · exact List.mem_cons_of_mem _ (h3 s hs)
end Go.Proofs.YtfcpmcdlgkfolaaDoor
