/- Numbers of the Int library held together: where each lies, and how. -/
import Derived.Test.YtcpdelkamckmfaaEG
namespace Go.Proofs.Ytcpdelkamckmfaa.Big
open Go.RowKit Go.Proofs.Ytcpdelkamckmfaa.E

/-- A number in a block: from cell o on. -/
structure Ent where
  b : Nat
  o : Nat
  q : Nm
/-- Its cells, and its digits: headers lie in H, digits in D. -/
structure Ent.ok (H D : List Nat) (w : World) (x : Ent) : Prop where
  hd : x.b ∈ H
  row : ∃ cs T, w.heap[x.b]? = some (.cells cs T (0, 0)) ∧ cs[x.o]? = some (.bool x.q.neg) ∧ cs[x.o + 1]? = some (.slice x.q.A x.q.n x.q.c)
  dg : ∀ a, x.q.A = some a → a.block ∈ D
  rd : Rd w x.q.A (cU x.q.ds)
def apart (x y : Ent) : Prop := x.b ≠ y.b ∨ x.o + 2 ≤ y.o ∨ y.o + 2 ≤ x.o
structure BagOk (H D : List Nat) (l : List Ent) (w : World) : Prop where
  ok : ∀ x ∈ l, x.ok H D w
  ap : ∀ i j x y, pget l i = some x → pget l j = some y → i ≠ j → apart x y
  dj : ∀ b ∈ H, b ∉ D
theorem rd_stable {w w' : World} {A : Option Addr} {xs : List Value} (h : Rd w A xs) (hk : ∀ a, A = some a → w'.heap[a.block]? = w.heap[a.block]?) : Rd w' A xs := by
  rcases h with h | ⟨g, o, hA, hc⟩
  · exact .inl h
  · refine .inr ⟨g, o, hA, fun j u hu => ?_⟩
    rw [← hc j u hu]
    have := hk _ hA
    simp only [World.cell?]
    rw [this]
theorem Ent.ok.keep {H D H' D' : List Nat} {w w' : World} {x : Ent} (h : x.ok H D w) (h1 : w'.heap[x.b]? = w.heap[x.b]?) (h2 : ∀ a, x.q.A = some a → w'.heap[a.block]? = w.heap[a.block]?) (hH : ∀ b ∈ H, b ∈ H') (hD : ∀ b ∈ D, b ∈ D') : x.ok H' D' w' :=
  ⟨hH _ h.hd, by rw [h1]; exact h.row, fun a ha => hD _ (h.dg a ha), rd_stable h.rd h2⟩
/-- The numbers l. -/
def bag (H D : List Nat) (l : List Ent) : Res where
  foot := H ++ D
  holds w := BagOk H D l w
  stable w w' hf h := ⟨fun x hx => (h.ok x hx).keep (hf _ (List.mem_append_left _ (h.ok x hx).hd)) (fun a ha => hf _ (List.mem_append_right _ ((h.ok x hx).dg a ha))) (fun _ h => h) (fun _ h => h), h.ap, h.dj⟩
theorem bag_nil : ∀ w, (bag [] [] []).holds w := fun _ => ⟨fun _ h => by simp at h, fun _ _ _ _ h => by simp [pget] at h, fun _ h => by simp at h⟩

section
variable {H D : List Nat} {l l' : List Ent} {w w' : World} {b o k : Nat} {q q' : Nm}
/-- Fewer, in any order. -/
theorem BagOk.sub (h : BagOk H D l w) (f : Nat → Nat) (hf : ∀ i x, pget l' i = some x → pget l (f i) = some x) (hi : ∀ i j x y, pget l' i = some x → pget l' j = some y → f i = f j → i = j) : BagOk H D l' w :=
  ⟨fun x hx => by
    obtain ⟨i, h1⟩ := mem_pget hx
    exact h.ok x (pget_mem _ (hf i x h1)), fun i j x y h1 h2 hne => h.ap _ _ x y (hf i x h1) (hf j y h2) (fun e => hne (hi i j x y h1 h2 e)), h.dj⟩
theorem BagOk.tail {x : Ent} (h : BagOk H D (x :: l) w) : BagOk H D l w := h.sub (· + 1) (fun _ _ h => h) (fun _ _ _ _ _ _ h => by omega)
theorem BagOk.second {x y : Ent} (h : BagOk H D (x :: y :: l) w) : BagOk H D (x :: l) w := h.sub (fun i => if i = 0 then 0 else i + 1) (fun i z hz => by cases i with | zero => exact hz | succ i => simpa [pget] using hz) (fun i j _ _ _ _ h => by (try dsimp only at h); (repeat' (split at h)) <;> omega)
theorem BagOk.front {x : Ent} (h : BagOk H D l w) (hk : pget l k = some x) : BagOk H D (x :: pdel l k) w :=
  h.sub (fun i => match i with | 0 => k | i + 1 => if i < k then i else i + 1) (fun i y hy => by
    cases i with
    | zero => simp only [pget, Option.some.injEq] at hy; subst hy; exact hk
    | succ i =>
      simp only [pget, pget_pdel] at hy
      try dsimp only
      split at hy
      · rename_i h1; rw [if_pos h1]; exact hy
      · rename_i h1; rw [if_neg h1]; exact hy) (fun i j _ _ _ _ he => by cases i <;> cases j <;> (try dsimp only at he) <;> (repeat' (split at he)) <;> omega)
theorem BagOk.back {x y : Ent} (h : BagOk H D (x :: pdel l k) w) (hk : pget l k = some y) : BagOk H D (pset l k x) w :=
  h.sub (fun i => if i = k then 0 else if i < k then i + 1 else i) (fun i u hu => by
    rw [pget_pset] at hu
    try dsimp only
    split at hu
    · rename_i h1
      rw [if_pos h1]
      rw [hk] at hu
      exact hu
    · rename_i h1
      rw [if_neg h1]
      split
      · rename_i h2
        simp only [pget, pget_pdel, if_pos h2]
        exact hu
      · rename_i h2
        obtain ⟨m, rfl⟩ : ∃ m, i = m + 1 := ⟨i - 1, by omega⟩
        simp only [pget, pget_pdel]
        rw [if_neg (by omega)]
        exact hu) (fun i j _ _ _ _ he => by (try dsimp only at he); (repeat' (split at he)) <;> omega)
theorem front_mem {x : Ent} (hk : pget l k = some x) : ∀ e ∈ l, e ∈ x :: pdel l k := fun e he => by
  obtain ⟨i, hi⟩ := mem_pget he
  by_cases h1 : i = k
  · subst h1
    rw [hk] at hi
    cases hi
    exact List.mem_cons_self ..
  · refine List.mem_cons_of_mem _ ?_
    by_cases h2 : i < k
    · exact pget_mem i (by rw [pget_pdel, if_pos h2]; exact hi)
    · exact pget_mem (i - 1) (by rw [pget_pdel, if_neg (by omega), show i - 1 + 1 = i by omega]; exact hi)

/-- One number is another one; its header's block has turned, or nothing has. -/
theorem BagOk.turn {cs cs' : Array Value} {T : TypeId} {D' : List Nat} (h : BagOk H D l w) (hk : pget l k = some ⟨b, o, q⟩) (hg : w.heap[b]? = some (.cells cs T (0, 0))) (hg' : w'.heap[b]? = some (.cells cs' T (0, 0)))
    (hcs : ∀ p, p ≠ o → p ≠ o + 1 → cs'[p]? = cs[p]?) (h1 : cs'[o]? = some (.bool q'.neg)) (h2 : cs'[o + 1]? = some (.slice q'.A q'.n q'.c)) (hoth : ∀ p, p ≠ b → w'.heap[p]? = w.heap[p]?)
    (hdg : ∀ a, q'.A = some a → a.block ∈ D') (hrd : Rd w q'.A (cU q'.ds)) (hD : ∀ b ∈ D, b ∈ D') (hdj : ∀ b ∈ H, b ∉ D') : BagOk H D' (pset l k ⟨b, o, q'⟩) w' := by
  have hbH : b ∈ H := (h.ok _ (pget_mem k hk)).hd
  have key : ∀ i x, pget (pset l k ⟨b, o, q'⟩) i = some x → (i = k ∧ x = ⟨b, o, q'⟩) ∨ (i ≠ k ∧ pget l i = some x) := by
    intro i x hi
    rw [pget_pset] at hi
    split at hi
    · rename_i e
      subst e
      rw [hk] at hi
      exact .inl ⟨rfl, by simpa using hi.symm⟩
    · rename_i e
      exact .inr ⟨e, hi⟩
  refine ⟨fun x hx => ?_, fun i j x y hi hj hne => ?_, hdj⟩
  · obtain ⟨i, hi⟩ := mem_pget hx
    rcases key i x hi with ⟨rfl, rfl⟩ | ⟨hne, hi'⟩
    · exact ⟨hbH, ⟨cs', T, hg', h1, h2⟩, hdg, rd_stable hrd fun a ha => hoth _ (fun e => hdj b hbH (e ▸ hdg a ha))⟩
    · have hx' := h.ok x (pget_mem i hi')
      have ha : ∀ a, x.q.A = some a → w'.heap[a.block]? = w.heap[a.block]? := fun a ha => hoth _ (fun e => h.dj b hbH (e ▸ hx'.dg a ha))
      by_cases hxb : x.b = b
      · obtain ⟨c0, T0, g0, g1, g2⟩ := hx'.row
        rw [hxb, hg] at g0
        simp only [Option.some.injEq, Obj.cells.injEq] at g0
        obtain ⟨rfl, rfl, _⟩ := g0
        have hap := h.ap i k x _ hi' hk hne
        simp only [apart, hxb, ne_eq, not_true_eq_false, false_or] at hap
        exact ⟨hx'.hd, ⟨cs', T, hxb ▸ hg', by rw [hcs _ (by omega) (by omega)]; exact g1, by rw [hcs _ (by omega) (by omega)]; exact g2⟩, fun a ha => hD _ (hx'.dg a ha), rd_stable hx'.rd ha⟩
      · exact hx'.keep (hoth _ hxb) ha (fun _ h => h) hD
  · rcases key i x hi with ⟨rfl, rfl⟩ | ⟨hne1, hi'⟩
    · rcases key j y hj with ⟨rfl, rfl⟩ | ⟨hne2, hj'⟩
      · exact absurd rfl hne
      · exact h.ap i j ⟨b, o, q⟩ y hk hj' hne
    · rcases key j y hj with ⟨rfl, rfl⟩ | ⟨hne2, hj'⟩
      · exact h.ap i j x ⟨b, o, q⟩ hi' hk hne
      · exact h.ap i j x y hi' hj' hne
end

section
variable {P : Program} {N : Nat} {w0 : World} {F : Frm} {L : List Res} {d : Option Tmp} {x y : Operand} {v : Value} {ty t : TypeId} {pos : String} {af : Array Edge} {gd : Option (Nat × Bool)} {K : Frm → List Res → Prop} {H D : List Nat} {l : List Ent} {b o : Nat} {q : Nm}
theorem rdl_bag (i : Nat) (hi : lget L i = some (bag H D l)) (hm : (⟨b, o, q⟩ : Ent) ∈ l) : RdL w0 L q.A (cU q.ds) := fun _ hS => ((hS.holds i _ hi).ok _ hm).rd
theorem y_ldN1 (i : Nat) (ha : ∀ w, (isAgg t).run P w = .ok false w) (hx : FE N F x (.pointer (some ⟨b, o, none⟩))) (hi : lget L i = some (bag H D l)) (hm : (⟨b, o, q⟩ : Ent) ∈ l) : Yld P N w0 F L ⟨d, .load t x, ty, pos, af, gd⟩ (.bool q.neg) := fun a w hF hS => by
  obtain ⟨cs, T, hg, h1, h2⟩ := ((hS.holds i _ hi).ok _ hm).row
  have hc : w.cell? ⟨b, o, none⟩ = some (.bool q.neg) := by rw [cell_of_row w b o cs T (0, 0) hg]; exact h1
  simp [execOp, hx a hF, Instr.loadAt, Instr.sureAddr, loadVar, ha, load, Sem.run, hc]
theorem y_ldN2 (i : Nat) (ha : ∀ w, (isAgg t).run P w = .ok false w) (hx : FE N F x (.pointer (some ⟨b, o + 1, none⟩))) (hi : lget L i = some (bag H D l)) (hm : (⟨b, o, q⟩ : Ent) ∈ l) : Yld P N w0 F L ⟨d, .load t x, ty, pos, af, gd⟩ (.slice q.A q.n q.c) := fun a w hF hS => by
  obtain ⟨cs, T, hg, h1, h2⟩ := ((hS.holds i _ hi).ok _ hm).row
  have hc : w.cell? ⟨b, o + 1, none⟩ = some (.slice q.A q.n q.c) := by rw [cell_of_row w b (o + 1) cs T (0, 0) hg]; exact h2
  simp [execOp, hx a hF, Instr.loadAt, Instr.sureAddr, loadVar, ha, load, Sem.run, hc]

theorem bag_store {w : World} {p i k : Nat} {q' : Nm} (hs : ∀ w, (sizeOf t).run P w = .ok 1 w) (hv : v.cells = #[v]) (h1 : v.oneCell' = true) (hS : St w0 w L) (hi : lget L i = some (bag H D l)) (hk : pget l k = some ⟨b, o, q⟩) (hp : (p = o ∧ v = .bool q'.neg ∧ q.A = q'.A ∧ q.n = q'.n ∧ q.c = q'.c) ∨ (p = o + 1 ∧ v = .slice q'.A q'.n q'.c ∧ q.neg = q'.neg))
    (hdg : ∀ w, BagOk H D l w → (∀ a, q'.A = some a → a.block ∈ D) ∧ Rd w q'.A (cU q'.ds)) : ∃ w', (storeVar t ⟨b, p, none⟩ v).run P w = .ok () w' ∧ St w0 w' (lset L i (bag H D (pset l k ⟨b, o, q'⟩))) := by
  have hB := hS.holds i _ hi
  obtain ⟨cs, T, hg, g1, g2⟩ := (hB.ok _ (pget_mem k hk)).row
  have hg' : w.heap[b]? = some (.cells cs.toList.toArray T (0, 0)) := by simpa using hg
  have l1 : o < cs.size := (Array.getElem?_eq_some_iff.1 g1).1
  have l2 : o + 1 < cs.size := (Array.getElem?_eq_some_iff.1 g2).1
  have hpl : p < cs.toList.length := by rw [Array.length_toList]; rcases hp with ⟨h, _⟩ | ⟨h, _⟩ <;> omega
  have hr := run_storeb (P := P) (t := t) (w := w) (b := b) (o := p) (s := 1) (cs := cs.toList) (vs := [v]) (v := v) hs hv rfl (by simp [h1]) hg' (by omega)
  refine ⟨_, hr, ?_⟩
  have hset : cs.toList.take p ++ [v] ++ cs.toList.drop (p + 1) = cs.toList.set p v := by rw [List.set_eq_take_append_cons_drop, if_pos hpl]; simp
  rw [hset]
  have hlt := (hS.lt i _ hi b (List.mem_append_left _ (hB.ok _ (pget_mem k hk)).hd)).2
  refine hS.turn hi rfl rfl rfl (by simp [World.setRow]) (fun c hc1 hc2 => setRow_other w b c _ (fun e => hc2 (e ▸ List.mem_append_left _ (hB.ok _ (pget_mem k hk)).hd))) ?_ (fun c hc => ⟨by have := (hS.lt i _ hi c hc).2; simpa [World.setRow] using this, .inl hc⟩)
  have hget : ∀ j, (cs.toList.set p v).toArray[j]? = if p = j then some v else cs[j]? := fun j => by
    rw [List.getElem?_toArray, List.getElem?_set]
    by_cases e : p = j
    · subst e; simp at hpl; simp [hpl]
    · simp [e]
  refine hB.turn hk hg (setRow_heap w b _ _ T _ hg) (fun j h1 h2 => ?_) ?_ ?_ (fun c hc => setRow_other w b c _ hc) (hdg w hB).1 (hdg w hB).2 (fun _ h => h) hB.dj
  · rw [hget, if_neg (by rcases hp with ⟨h, _⟩ | ⟨h, _⟩ <;> omega)]
  · rw [hget]
    rcases hp with ⟨h, e, _⟩ | ⟨h, _, e⟩
    · rw [if_pos h, e]
    · rw [if_neg (by omega), g1, e]
  · rw [hget]
    rcases hp with ⟨h, _, e1, e2, e3⟩ | ⟨h, e, _⟩
    · rw [if_neg (by omega), g2, e1, e2, e3]
    · rw [if_pos h, e]
/-- The sign is another one. -/
theorem oj_stN1 {u : Bool} (i k : Nat) (hs : ∀ w, (sizeOf t).run P w = .ok 1 w) (hx : FE N F x (.pointer (some ⟨b, o, none⟩))) (hy : FE N F y (.bool u)) (hi : lget L i = some (bag H D l)) (hk : pget l k = some ⟨b, o, q⟩) (h : K (fput F d undef) (lset L i (bag H D (pset l k ⟨b, o, ⟨u, q.A, q.n, q.c, q.ds⟩⟩)))) : OpJ P N w0 F L ⟨d, .store t x y, ty, pos, af, gd⟩ K := fun a w hF hS => by
  obtain ⟨w', hr, hS'⟩ := bag_store (P := P) (t := t) (p := o) (q' := ⟨u, q.A, q.n, q.c, q.ds⟩) hs rfl rfl hS hi hk (.inl ⟨rfl, rfl, rfl, rfl, rfl⟩) (fun w hB => ⟨fun a ha => (hB.ok _ (pget_mem k hk)).dg a ha, (hB.ok _ (pget_mem k hk)).rd⟩)
  have hr2 : (execOp a.eval ⟨d, .store t x y, ty, pos, af, gd⟩).run P w = .ok .skip w' := by
    simp [execOp, Instr.storeAt, Instr.sureAddr, hx a hF, hy a hF, hr]
  unfold Oper.wp
  rw [hr2]
  exact ⟨_, _, h, hF.put _ _, hS'⟩
/-- Fewer of its digits. -/
theorem oj_stN2 {m : Nat} (i k : Nat) (hs : ∀ w, (sizeOf t).run P w = .ok 1 w) (hx : FE N F x (.pointer (some ⟨b, o + 1, none⟩))) (hy : FE N F y (.slice q.A m q.c)) (hi : lget L i = some (bag H D l)) (hk : pget l k = some ⟨b, o, q⟩) (h : K (fput F d undef) (lset L i (bag H D (pset l k ⟨b, o, ⟨q.neg, q.A, m, q.c, q.ds.take m⟩⟩)))) : OpJ P N w0 F L ⟨d, .store t x y, ty, pos, af, gd⟩ K := fun a w hF hS => by
  have hrd : ∀ w, Rd w q.A (cU q.ds) → Rd w q.A (cU (q.ds.take m)) := fun w hr => by
    rcases hr with hr | ⟨g, o', hA, hc⟩
    · refine .inl ?_
      have : q.ds = [] := by simpa [cU] using hr
      simp [this, cU]
    · refine .inr ⟨g, o', hA, fun j u hu => hc j u ?_⟩
      rw [cU, List.map_take, List.getElem?_take] at hu
      split at hu
      · exact hu
      · cases hu
  obtain ⟨w', hr, hS'⟩ := bag_store (P := P) (t := t) (p := o + 1) (q' := ⟨q.neg, q.A, m, q.c, q.ds.take m⟩) hs rfl rfl hS hi hk (.inr ⟨rfl, rfl, rfl⟩) (fun w hB => ⟨fun a ha => (hB.ok _ (pget_mem k hk)).dg a ha, hrd w (hB.ok _ (pget_mem k hk)).rd⟩)
  have hr2 : (execOp a.eval ⟨d, .store t x y, ty, pos, af, gd⟩).run P w = .ok .skip w' := by
    simp [execOp, Instr.storeAt, Instr.sureAddr, hx a hF, hy a hF, hr]
  unfold Oper.wp
  rw [hr2]
  exact ⟨_, _, h, hF.put _ _, hS'⟩
/-- Digits of another slice, that is the call's own. -/
theorem oj_stN3 {A : Option Addr} {n c : Nat} {ds : List Int} (i k j : Nat) (hs : ∀ w, (sizeOf t).run P w = .ok 1 w) (hx : FE N F x (.pointer (some ⟨b, o + 1, none⟩))) (hy : FE N F y (.slice A n c)) (hi : lget L i = some (bag H D l)) (hk : pget l k = some ⟨b, o, q⟩) (hj : lget L j = some (vec 153 1 (.slice A n c) n (cU ds))) (hne : Nat.beq i j = false)
    (h : ∀ D', K (fput F d undef) (lset (lset L j emp) i (bag H D' (pset l k ⟨b, o, ⟨q.neg, A, n, c, ds⟩⟩)))) : OpJ P N w0 F L ⟨d, .store t x y, ty, pos, af, gd⟩ K := fun a w hF hS => by
  have hne' := Nat.ne_of_beq_eq_false hne
  have hv := hS.holds j _ hj
  obtain ⟨_, _, hrd⟩ := OwnV.rd hv
  -- the slice goes into the bag
  let D' : List Nat := A.elim D (fun a => a.block :: D)
  have hD : ∀ b ∈ D, b ∈ D' := fun b hb => by cases A <;> simp [D', hb]
  have hA : ∀ a, A = some a → a.block ∈ D' := fun a ha => by subst ha; simp [D']
  have hform : ∀ b ∈ D', b ∈ D ∨ b ∈ (vec 153 1 (.slice A n c) n (cU ds)).foot := fun b hb => by
    rcases hv.2 with ⟨h1, _⟩ | ⟨g, off, cap, cur, h1, _⟩
    · injection h1 with e1 e2 e3
      subst e1
      exact .inl hb
    · injection h1 with e1 e2 e3
      subst e1
      simp only [D', Option.elim_some, List.mem_cons] at hb
      rcases hb with rfl | hb
      · exact .inr (by simp [vec, Value.ownBlock])
      · exact .inl hb
  have hS1 := hS.merge (t := ⟨H ++ D', fun w => BagOk H D' l w ∧ Rd w A (cU ds), fun w w' hf h1 => ⟨(bag H D' l).stable w w' hf h1.1, rd_stable h1.2 fun a ha => hf _ (List.mem_append_right _ (hA a ha))⟩⟩) hi hj hne'
    (fun h1 h2 h3 => ⟨⟨fun x hx => (h1.ok x hx).keep rfl (fun _ _ => rfl) (fun _ h => h) hD, h1.ap, fun b hb hb' => by
      rcases hform b hb' with h4 | h4
      · exact h1.dj b hb h4
      · exact h3 b (List.mem_append_left _ hb) h4⟩, hrd⟩) (fun b hb => by
      rcases List.mem_append.1 hb with hb | hb
      · exact .inl (List.mem_append_left _ hb)
      · rcases hform b hb with h4 | h4
        · exact .inl (List.mem_append_right _ h4)
        · exact .inr h4)
  have hi1 : lget (lset (lset L j emp) i ⟨H ++ D', fun w => BagOk H D' l w ∧ Rd w A (cU ds), fun w w' hf h1 => ⟨(bag H D' l).stable w w' hf h1.1, rd_stable h1.2 fun a ha => hf _ (List.mem_append_right _ (hA a ha))⟩⟩) i = some ⟨H ++ D', fun w => BagOk H D' l w ∧ Rd w A (cU ds), fun w w' hf h1 => ⟨(bag H D' l).stable w w' hf h1.1, rd_stable h1.2 fun a ha => hf _ (List.mem_append_right _ (hA a ha))⟩⟩ := by
    rw [lget_lset, if_pos rfl, lget_lset, if_neg hne', hi]
    rfl
  obtain ⟨hB, hR⟩ := hS1.holds i _ hi1
  have hS2 : St w0 w (lset (lset L j emp) i (bag H D' l)) := by
    have := hS1.less (r' := bag H D' l) hi1 (fun h => h.1) (fun b hb => hb)
    have e : ∀ (M : List Res) (r s : Res), lset (lset M i r) i s = lset M i s := by
      intro M r s
      have : ∀ (M : List Res) (i : Nat), lset (lset M i r) i s = lset M i s := by
        intro M
        induction M with
        | nil => intro i; rfl
        | cons x M ih => intro i; cases i with | zero => rfl | succ i => simp only [lset, ih]
      exact this M i
    rwa [e] at this
  have hi2 : lget (lset (lset L j emp) i (bag H D' l)) i = some (bag H D' l) := by
    rw [lget_lset, if_pos rfl, lget_lset, if_neg hne', hi]
    rfl
  -- and is stored: its digits are there all the while
  have hB2 := hS2.holds i _ hi2
  obtain ⟨cs, T, hg, g1, g2⟩ := (hB2.ok _ (pget_mem k hk)).row
  have hg' : w.heap[b]? = some (.cells cs.toList.toArray T (0, 0)) := by simpa using hg
  have l2 : o + 1 < cs.size := (Array.getElem?_eq_some_iff.1 g2).1
  have hr := run_storeb (P := P) (t := t) (w := w) (b := b) (o := o + 1) (s := 1) (cs := cs.toList) (vs := [.slice A n c]) (v := .slice A n c) hs rfl rfl rfl hg' (by rw [Array.length_toList]; omega)
  have hr2 : (execOp a.eval ⟨d, .store t x y, ty, pos, af, gd⟩).run P w = .ok .skip (w.setRow b (cs.toList.take (o + 1) ++ [Value.slice A n c] ++ cs.toList.drop (o + 1 + 1)).toArray) := by
    simp only [execOp, Instr.storeAt, Instr.sureAddr, hx a hF, hy a hF, Sem.run_bind, Sem.run_pure, Result.andThen_ok, hr]
  unfold Oper.wp
  rw [hr2]
  refine ⟨_, _, h D', hF.put _ _, ?_⟩
  have hset : cs.toList.take (o + 1) ++ [Value.slice A n c] ++ cs.toList.drop (o + 1 + 1) = cs.toList.set (o + 1) (.slice A n c) := by rw [List.set_eq_take_append_cons_drop, if_pos (by rw [Array.length_toList]; omega)]; simp
  have hget : ∀ j, (cs.toList.set (o + 1) (Value.slice A n c)).toArray[j]? = if o + 1 = j then some (.slice A n c) else cs[j]? := fun j => by
    rw [List.getElem?_toArray, List.getElem?_set]
    by_cases e : o + 1 = j
    · subst e; simp [l2]
    · simp [e]
  have hbH := (hB2.ok _ (pget_mem k hk)).hd
  have hS3 : St w0 (w.setRow b (cs.toList.set (o + 1) (.slice A n c)).toArray) (lset (lset (lset L j emp) i (bag H D' l)) i (bag H D' (pset l k ⟨b, o, ⟨q.neg, A, n, c, ds⟩⟩))) := by
    refine hS2.turn hi2 rfl rfl rfl (by simp [World.setRow]) (fun c' hc1 hc2 => setRow_other w b c' _ (fun e => hc2 (e ▸ List.mem_append_left _ hbH))) ?_ (fun c' hc => ⟨by have := (hS2.lt i _ hi2 c' hc).2; simpa [World.setRow] using this, .inl hc⟩)
    refine hB2.turn hk hg (setRow_heap w b _ _ T _ hg) (fun j h1 h2 => ?_) ?_ ?_ (fun c hc => setRow_other w b c _ hc) hA hR (fun _ h => h) hB2.dj
    · rw [hget, if_neg (by omega)]
    · rw [hget, if_neg (by omega), g1]
    · rw [hget, if_pos rfl]
  have e : ∀ (M : List Res) (i : Nat) (r s : Res), lset (lset M i r) i s = lset M i s := by
    intro M
    induction M with
    | nil => intro i r s; rfl
    | cons x M ih => intro i r s; cases i with | zero => rfl | succ i => simp only [lset, ih]
  rw [e, ← hset] at hS3
  exact hS3
end
end Go.Proofs.Ytcpdelkamckmfaa.Big
