/- Numbers held together: new ones, contracts about some of them. -/
import Derived.Test.YtcpdelkamckmfaaEI
namespace Go.Proofs.Ytcpdelkamckmfaa.Big
open Go.RowKit Go.Proofs.Ytcpdelkamckmfaa.E

abbrev nm0 : Nm := ⟨false, none, 0, 0, []⟩
def psel {α : Type} (L : List α) : List Nat → List α
  | [] => []
  | k :: ks => match pget L k with | some r => r :: psel L ks | none => psel L ks
section
variable {H D : List Nat} {l l' es : List Ent} {w w' : World} {b o k : Nat} {q q' : Nm}
theorem pget_append {α : Type} (M L : List α) (i : Nat) : pget (M ++ L) i = if i < M.length then pget M i else pget L (i - M.length) := by
  rw [pget_at, pget_at, pget_at, List.getElem?_append]
theorem pget_len {α : Type} {l : List α} {i : Nat} {r : α} (h : pget l i = some r) : i < l.length := by
  rw [pget_at] at h
  exact (List.getElem?_eq_some_iff.1 h).1
/-- Some of the first, in another order; what comes behind them stays. -/
theorem BagOk.pick {T : List Ent} (h : BagOk H D (l ++ T) w) (ks : List Nat) (hs : ks.map (pget l) = (psel l ks).map some) (hn : ks.Nodup) : BagOk H D (psel l ks ++ T) w := by
  have hlen : (psel l ks).length = ks.length := by simpa using (congrArg List.length hs).symm
  have key : ∀ (i : Nat) (r : Ent), pget (psel l ks) i = some r → ∃ k : Nat, ks[i]? = some k ∧ pget l k = some r := by
    intro i r hi
    rw [pget_at] at hi
    have h1 := congrArg (·[i]?) hs
    simp only [List.getElem?_map, hi, Option.map_some] at h1
    cases hk : ks[i]? with
    | none => rw [hk] at h1; simp at h1
    | some k => rw [hk] at h1; exact ⟨k, rfl, by simpa using h1⟩
  have hb : ∀ (i k : Nat), ks[i]? = some k → k < l.length := by
    intro i k hk
    have h1 := congrArg (·[i]?) hs
    simp only [List.getElem?_map, hk, Option.map_some] at h1
    cases h2 : (psel l ks)[i]? with
    | none => rw [h2] at h1; simp at h1
    | some r => rw [h2] at h1; exact pget_len (by simpa using h1)
  refine h.sub (fun i => match ks[i]? with | some k => k | none => i - ks.length + l.length) (fun i r hi => ?_) (fun i j r s hi hj he => ?_)
  · rw [pget_append] at hi
    split at hi
    · obtain ⟨k, hk, hr⟩ := key i r hi
      rw [hk]
      try dsimp only
      rw [pget_append, if_pos (pget_len hr)]
      exact hr
    · rename_i hge
      rw [List.getElem?_eq_none (by omega)]
      try dsimp only
      rw [pget_append, if_neg (by omega), ← hi, hlen]
      congr 1
      omega
  · cases h1 : ks[i]? with
    | none =>
      have hi1 := List.getElem?_eq_none_iff.1 h1
      cases h2 : ks[j]? with
      | none =>
        have hj1 := List.getElem?_eq_none_iff.1 h2
        rw [h1, h2] at he
        (try dsimp only at he)
        omega
      | some k2 =>
        have := hb j k2 h2
        rw [h1, h2] at he
        (try dsimp only at he)
        omega
    | some k1 =>
      have := hb i k1 h1
      cases h2 : ks[j]? with
      | none => rw [h1, h2] at he; dsimp only at he; omega
      | some k2 =>
        rw [h1, h2] at he
        (try dsimp only at he)
        subst he
        obtain ⟨hi2, hi3⟩ := List.getElem?_eq_some_iff.1 h1
        obtain ⟨hj2, hj3⟩ := List.getElem?_eq_some_iff.1 h2
        rcases Nat.lt_trichotomy i j with h3 | h3 | h3
        · exact absurd (hi3.trans hj3.symm) (List.pairwise_iff_getElem.1 hn i j hi2 hj2 h3)
        · exact h3
        · exact absurd (hj3.trans hi3.symm) (List.pairwise_iff_getElem.1 hn j i hj2 hi2 h3)
/-- A block of new numbers, noughts. -/
theorem BagOk.add {cs : Array Value} {T : TypeId} (h : BagOk H D l w) (hg : w.heap[b]? = some (.cells cs T (0, 0))) (hb : b ∉ H ++ D) (he : ∀ x ∈ es, x.b = b ∧ x.q = nm0 ∧ cs[x.o]? = some (.bool false) ∧ cs[x.o + 1]? = some (.slice none 0 0))
    (hap : ∀ i j x y, pget es i = some x → pget es j = some y → i ≠ j → x.o + 2 ≤ y.o ∨ y.o + 2 ≤ x.o) : BagOk (b :: H) D (es ++ l) w := by
  have hb' : b ∈ H ∨ b ∈ D → False := fun h => hb (List.mem_append.2 h)
  refine ⟨fun x hx => ?_, fun i j x y hi hj hne => ?_, fun c hc hc' => ?_⟩
  · rcases List.mem_append.1 hx with hx | hx
    · obtain ⟨h1, h2, h3, h4⟩ := he x hx
      exact ⟨by simp [h1], ⟨cs, T, by rw [h1]; exact hg, by rw [h2]; exact h3, by rw [h2]; exact h4⟩, fun a ha => (by rw [h2] at ha; cases ha), .inl (by rw [h2]; rfl)⟩
    · exact (h.ok x hx).keep rfl (fun _ _ => rfl) (fun _ h => List.mem_cons_of_mem _ h) (fun _ h => h)
  · rw [pget_append] at hi hj
    split at hi
    · have hx := he x (pget_mem _ hi)
      split at hj
      · have := hap i j x y hi hj hne
        exact .inr this
      · refine .inl fun e => hb' (.inl ?_)
        rw [← hx.1, e]
        exact (h.ok y (pget_mem _ hj)).hd
    · split at hj
      · have hy := he y (pget_mem _ hj)
        refine .inl fun e => hb' (.inl ?_)
        rw [← hy.1, ← e]
        exact (h.ok x (pget_mem _ hi)).hd
      · exact h.ap _ _ x y hi hj (by omega)
  · rcases List.mem_cons.1 hc with rfl | hc
    · exact hb' (.inr hc')
    · exact h.dj c hc hc'
end

section
variable {P : Program} {N : Nat} {w0 w : World} {F : Frm} {L : List Res} {d : Option Tmp} {x y : Operand} {v : Value} {ty t : TypeId} {pos : String} {af : Array Edge} {gd : Option (Nat × Bool)} {K : Frm → List Res → Prop} {H D : List Nat} {l : List Ent} {b o : Nat} {q : Nm} {i : Nat}
theorem St.bagadd {cs : Array Value} {T : TypeId} {es : List Ent} (hS : St w0 w L) (hi : lget L i = some (bag H D l)) (he : ∀ x ∈ es, x.b = w.heap.size ∧ x.q = nm0 ∧ cs[x.o]? = some (.bool false) ∧ cs[x.o + 1]? = some (.slice none 0 0))
    (hap : ∀ i j x y, pget es i = some x → pget es j = some y → i ≠ j → x.o + 2 ≤ y.o ∨ y.o + 2 ≤ x.o) : St w0 (w.alloc (.cells cs T)) (lset L i (bag (w.heap.size :: H) D (es ++ l))) := by
  have h1 := St.newblk (cs := cs) (T := T) hS
  have h2 := h1.merge (r := bag H D l) (s := blk w.heap.size cs.toList) (i := i + 1) (j := 0) (t := bag (w.heap.size :: H) D (es ++ l)) (by simpa [lget] using hi) rfl (by omega) (fun hr hs hd => hr.add (b := w.heap.size) (T := T) (heap_alloc_new w (.cells cs T)) (fun hm => hd _ hm (by simp [blk])) he hap) (fun c hc => by
    simp only [bag, List.cons_append, List.mem_cons] at hc
    rcases hc with rfl | hc
    · exact .inr (by simp [blk])
    · exact .inl hc)
  exact St.tail (by simpa [lset] using h2)
theorem oj_allocN (i : Nat) (hz : ∀ w, (zeroValue t).run P w = .ok (.agg #[.bool false, .slice none 0 0]) w) (hi : lget L i = some (bag H D l)) (h : ∀ b H', K (fput F d (.pointer (some ⟨b, 0, none⟩))) (lset L i (bag H' D (⟨b, 0, nm0⟩ :: l)))) : OpJ P N w0 F L ⟨d, .alloc t, ty, pos, af, gd⟩ K := fun a w hF hS => by
  have hr : (execOp a.eval ⟨d, .alloc t, ty, pos, af, gd⟩).run P w = .ok (.value (.pointer (some ⟨w.heap.size, 0, none⟩))) (w.alloc (.cells #[.bool false, .slice none 0 0] t)) := by
    simp [execOp, Instr.alloc, hz, newVar, newRow, newObj, run_new, Value.cells]
  unfold Oper.wp
  rw [hr]
  refine ⟨_, _, h w.heap.size (w.heap.size :: H), hF.put _ _, ?_⟩
  exact St.bagadd (es := [⟨w.heap.size, 0, nm0⟩]) hS hi (fun x hx => by simp only [List.mem_singleton] at hx; subst hx; exact ⟨rfl, rfl, rfl, rfl⟩) (fun i j x y hi hj hne => by
    have h1 := pget_len hi
    have h2 := pget_len hj
    simp only [List.length_singleton] at h1 h2
    omega)
theorem oj_allocR (i : Nat) (hz : ∀ w, (zeroValue t).run P w = .ok (.agg #[.bool false, .slice none 0 0, .bool false, .slice none 0 0]) w) (hi : lget L i = some (bag H D l)) (h : ∀ b H', K (fput F d (.pointer (some ⟨b, 0, none⟩))) (lset L i (bag H' D (⟨b, 0, nm0⟩ :: ⟨b, 2, nm0⟩ :: l)))) : OpJ P N w0 F L ⟨d, .alloc t, ty, pos, af, gd⟩ K := fun a w hF hS => by
  have hr : (execOp a.eval ⟨d, .alloc t, ty, pos, af, gd⟩).run P w = .ok (.value (.pointer (some ⟨w.heap.size, 0, none⟩))) (w.alloc (.cells #[.bool false, .slice none 0 0, .bool false, .slice none 0 0] t)) := by
    simp [execOp, Instr.alloc, hz, newVar, newRow, newObj, run_new, Value.cells]
  unfold Oper.wp
  rw [hr]
  refine ⟨_, _, h w.heap.size (w.heap.size :: H), hF.put _ _, ?_⟩
  exact St.bagadd (es := [⟨w.heap.size, 0, nm0⟩, ⟨w.heap.size, 2, nm0⟩]) hS hi (fun x hx => by
    simp only [List.mem_cons, List.not_mem_nil, or_false] at hx
    rcases hx with rfl | rfl <;> exact ⟨rfl, rfl, rfl, rfl⟩) (fun i j x y hi hj hne => by
    have h1 := pget_len hi
    have h2 := pget_len hj
    simp only [List.length_cons, List.length_nil] at h1 h2
    obtain rfl | rfl : i = 0 ∨ i = 1 := by omega
    · obtain rfl : j = 1 := by omega
      simp only [pget, Option.some.injEq] at hi hj
      subst hi hj
      exact .inl (by simp)
    · obtain rfl : j = 0 := by omega
      simp only [pget, Option.some.injEq] at hi hj
      subst hi hj
      exact .inr (by simp))

/-- What comes of a contract: where headers and digits lie, and a number. -/
structure B1 where
  H : List Nat
  D : List Nat
  q : Nm
structure B2 where
  H : List Nat
  D : List Nat
  q : Nm
  r : Nm
/-- A new number. -/
structure BN where
  b : Nat
  H : List Nat
  D : List Nat
  q : Nm
structure BR where
  b : Nat
  H : List Nat
  D : List Nat
  q : Nm
  r : Nm
section
variable {f : FuncId} {args : Array Value}
/-- A contract that turns one number, wherever it stands. -/
theorem lift1 {q0 : Nm} {p : Nm → Prop} {L : List Res} (i k : Nat) (hS : St w0 w L) (hi : lget L i = some (bag H D l)) (hk : pget l k = some ⟨b, o, q0⟩)
    (h : ∀ T l', (∀ e ∈ l, e ∈ (⟨b, o, q0⟩ : Ent) :: l') → St w0 w (bag H D (⟨b, o, q0⟩ :: l') :: T) → Calls P f args w fun e w' => ∃ r : B1, p r.q ∧ e = .returned v ∧ St w0 w' (bag r.H r.D (⟨b, o, r.q⟩ :: l') :: T)) :
    Calls P f args w fun e w' => ∃ r : B1, p r.q ∧ e = .returned v ∧ St w0 w' (lset L i (bag r.H r.D (pset l k ⟨b, o, r.q⟩))) := by
  have h1 := hS.less (k := i) (r' := bag H D (⟨b, o, q0⟩ :: pdel l k)) hi (fun hB => hB.front hk) (fun _ h => h)
  have h2 : lget (lset L i (bag H D (⟨b, o, q0⟩ :: pdel l k))) i = some (bag H D (⟨b, o, q0⟩ :: pdel l k)) := by rw [lget_lset, if_pos rfl, hi]; rfl
  have e : ∀ (M : List Res) (i : Nat) (r s : Res), lset (lset M i r) i s = lset M i s := by
    intro M
    induction M with
    | nil => intro i r s; rfl
    | cons x M ih => intro i r s; cases i with | zero => rfl | succ i => simp only [lset, ih]
  refine (h _ _ (front_mem hk) (h1.front h2)).mono fun e' w' ⟨r, hp, he, hS'⟩ => ⟨r, hp, he, ?_⟩
  have h3 := hS'.back h2
  rw [e] at h3
  have h4 := h3.less (k := i) (r := bag r.H r.D (⟨b, o, r.q⟩ :: pdel l k)) (r' := bag r.H r.D (pset l k ⟨b, o, r.q⟩)) (by rw [lget_lset, if_pos rfl, hi]; rfl) (fun hB => hB.back hk) (fun _ h => h)
  rwa [e] at h4
/-- A contract that turns two. -/
theorem lift2 {b' o' : Nat} {q0 r0 : Nm} {p : Nm → Nm → Prop} {L : List Res} (i k m : Nat) (hS : St w0 w L) (hi : lget L i = some (bag H D l)) (hk : pget l k = some ⟨b, o, q0⟩) (hm : pget l m = some ⟨b', o', r0⟩) (hkm : Nat.beq k m = false)
    (h : ∀ T l', (∀ e ∈ l, e ∈ (⟨b, o, q0⟩ : Ent) :: ⟨b', o', r0⟩ :: l') → St w0 w (bag H D (⟨b, o, q0⟩ :: ⟨b', o', r0⟩ :: l') :: T) → Calls P f args w fun e w' => ∃ r : B2, p r.q r.r ∧ e = .returned v ∧ St w0 w' (bag r.H r.D (⟨b, o, r.q⟩ :: ⟨b', o', r.r⟩ :: l') :: T)) :
    Calls P f args w fun e w' => ∃ r : B2, p r.q r.r ∧ e = .returned v ∧ St w0 w' (lset L i (bag r.H r.D (pset (pset l k ⟨b, o, r.q⟩) m ⟨b', o', r.r⟩))) := by
  have hkm' := Nat.ne_of_beq_eq_false hkm
  let m' := if m < k then m else m - 1
  have hm' : pget (pdel l k) m' = some ⟨b', o', r0⟩ := by
    rw [pget_pdel]
    by_cases h1 : m < k
    · simp only [m', if_pos h1]; exact hm
    · simp only [m', if_neg h1]
      rw [if_neg (by omega), show m - 1 + 1 = m by omega]
      exact hm
  have F1 : ∀ {H D l w}, BagOk H D l w → pget l k = some ⟨b, o, q0⟩ → pget (pdel l k) m' = some ⟨b', o', r0⟩ → BagOk H D (⟨b, o, q0⟩ :: ⟨b', o', r0⟩ :: pdel (pdel l k) m') w := by
    intro H D l w hB hk hm'
    have h1 := hB.front hk
    have h2 : pget ((⟨b, o, q0⟩ : Ent) :: pdel l k) (m' + 1) = some ⟨b', o', r0⟩ := hm'
    have h3 := h1.front h2
    exact h3.pick (l := [_, _]) [1, 0] rfl (by decide)
  have h1 := hS.less (k := i) (r' := bag H D (⟨b, o, q0⟩ :: ⟨b', o', r0⟩ :: pdel (pdel l k) m')) hi (fun hB => F1 hB hk hm') (fun _ h => h)
  have h2 : lget (lset L i (bag H D (⟨b, o, q0⟩ :: ⟨b', o', r0⟩ :: pdel (pdel l k) m'))) i = some (bag H D (⟨b, o, q0⟩ :: ⟨b', o', r0⟩ :: pdel (pdel l k) m')) := by rw [lget_lset, if_pos rfl, hi]; rfl
  have e : ∀ (M : List Res) (i : Nat) (r s : Res), lset (lset M i r) i s = lset M i s := by
    intro M
    induction M with
    | nil => intro i r s; rfl
    | cons x M ih => intro i r s; cases i with | zero => rfl | succ i => simp only [lset, ih]
  refine (h _ _ (fun y hy => ?_) (h1.front h2)).mono fun e' w' ⟨r, hp, he, hS'⟩ => ⟨r, hp, he, ?_⟩
  · rcases List.mem_cons.1 (front_mem hk y hy) with rfl | h3
    · exact List.mem_cons_self ..
    · exact List.mem_cons_of_mem _ (front_mem hm' y h3)
  have h3 := hS'.back h2
  rw [e] at h3
  have h4 := h3.less (k := i) (r := bag r.H r.D (⟨b, o, r.q⟩ :: ⟨b', o', r.r⟩ :: pdel (pdel l k) m')) (r' := bag r.H r.D (pset (pset l k ⟨b, o, r.q⟩) m ⟨b', o', r.r⟩)) (by rw [lget_lset, if_pos rfl, hi]; rfl) (fun hB => ?_) (fun _ h => h)
  · rwa [e] at h4
  have g1 := hB.pick (l := [_, _]) [1, 0] rfl (by decide)
  have g2 : BagOk r.H r.D (⟨b', o', r.r⟩ :: ⟨b, o, r.q⟩ :: pdel (pdel l k) m') w' := g1
  have g3 : BagOk r.H r.D (pset ((⟨b, o, r.q⟩ : Ent) :: pdel l k) (m' + 1) ⟨b', o', r.r⟩) w' := BagOk.back (k := m' + 1) (l := (⟨b, o, r.q⟩ : Ent) :: pdel l k) (x := ⟨b', o', r.r⟩) g2 (y := ⟨b', o', r0⟩) hm'
  have e3 : pset (pdel l k) m' ⟨b', o', r.r⟩ = pdel (pset l m ⟨b', o', r.r⟩) k := by
    apply List.ext_getElem?
    intro j
    rw [← pget_at, ← pget_at, pget_pset, hm', pget_pdel, pget_pdel, pget_pset, pget_pset, hm]
    simp only [pget_pdel, m']
    by_cases c1 : m < k
    · simp only [c1, if_true]
      by_cases c2 : j = m
      · subst c2; simp [c1]
      · by_cases c3 : j < k
        · simp [c2, c3]
        · simp [c2, c3, show j + 1 ≠ m by omega]
    · simp only [c1, if_false]
      by_cases c2 : j = m - 1
      · subst c2; simp [show ¬ m - 1 < k by omega, show m - 1 + 1 = m by omega]
      · by_cases c3 : j < k
        · simp [c2, c3, show j ≠ m by omega]
        · simp [c2, c3, show j + 1 ≠ m by omega]
  have g4 : BagOk r.H r.D (⟨b, o, r.q⟩ :: pdel (pset l m ⟨b', o', r.r⟩) k) w' := by rw [← e3]; exact g3
  have hk' : pget (pset l m ⟨b', o', r.r⟩) k = some ⟨b, o, q0⟩ := by rw [pget_pset, if_neg hkm', hk]
  have g5 := g4.back hk'
  have e4 : pset (pset l m ⟨b', o', r.r⟩) k ⟨b, o, r.q⟩ = pset (pset l k ⟨b, o, r.q⟩) m ⟨b', o', r.r⟩ := by
    apply List.ext_getElem?
    intro j
    rw [← pget_at, ← pget_at, pget_pset, pget_pset, pget_pset, pget_pset, pget_pset, pget_pset, if_neg hkm', if_neg (Ne.symm hkm'), hk, hm]
    by_cases c1 : j = k
    · subst c1; simp [hkm']
    · by_cases c2 : j = m
      · subst c2; simp [c1]
      · simp [c1, c2]
  rwa [e4] at g5
end
theorem bag_int {q : Nm} {z : Int} (hS : St w0 w L) (i : Nat) (hi : lget L i = some (bag H D l)) (hm : (⟨b, o, q⟩ : Ent) ∈ l) (hq : q.is z) : IntAt w b o z := by
  have h := (hS.holds i _ hi).ok _ hm
  obtain ⟨cs, T, hb, h1, h2⟩ := h.row
  have hf : ∀ o, w.frozen? ⟨b, o, none⟩ = false := fun o => by simp [World.frozen?, hb]
  exact ⟨q.neg, q.ds, ⟨⟨q.A, q.c, by rw [cell_of_row w b o cs T (0, 0) hb]; exact h1, by rw [cell_of_row w b (o + 1) cs T (0, 0) hb, hq.len]; exact h2, by rw [hq.len]; exact hq.cap, h.rd⟩, hq.dig, hf _, hf _⟩, hq.trim, hq.nz, hq.val⟩
theorem St.bagpick {es T : List Ent} (i : Nat) (hS : St w0 w L) (hi : lget L i = some (bag H D (es ++ T))) (ks : List Nat) (hs : ks.map (pget es) = (psel es ks).map some) (hn : ks.Nodup) : St w0 w (lset L i (bag H D (psel es ks ++ T))) :=
  hS.less hi (fun h => h.pick ks hs hn) (fun _ h => h)
end
end Go.Proofs.Ytcpdelkamckmfaa.Big
