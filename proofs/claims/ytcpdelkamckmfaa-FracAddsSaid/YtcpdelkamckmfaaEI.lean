/- Regions that draw their order, with a first writer: what is read ahead of it may be taken first too. -/
import Derived.Test.YtcpdelkamckmfaaEH
namespace Go.Proofs.Ytcpdelkamckmfaa.E
open Go.RowKit

section
variable {P : Program} {ops : Array Oper} {C : Array Bool → World → Prop}
/-- Whatever order is picked from here on, and C throughout. -/
def wpAnyD (P : Program) (ops : Array Oper) (C : Array Bool → World → Prop) (R : Act → World → Prop) : Nat → Array Bool → Act → World → Prop
  | 0, listed, a, w => Region.ready .any ops listed = [] ∧ R a w
  | n + 1, listed, a, w =>
    (Region.ready .any ops listed = [] → R a w) ∧ ∀ i ∈ Region.ready .any ops listed, cOp P ops i (fun a' w' => ∀ w'', Below w'.heap.size w' w'' → C (listed.setIfInBounds i true) w'' ∧ wpAnyD P ops C R n (listed.setIfInBounds i true) a' w'') a w
theorem wpAny_of_D {R : Act → World → Prop} {Q : Exit → Act → World → Prop} (hQ : ∀ a w, R a w → Q .normal a w) : ∀ (n : Nat) (listed : Array Bool) (a : Act) (w : World), wpAnyD P ops C R n listed a w → wpAny P .any ops Q n listed a w
  | 0, _, _, _, h => ⟨h.1, hQ _ _ h.2⟩
  | n + 1, _, _, _, h => ⟨fun h0 => hQ _ _ (h.1 h0), fun i hi => by
      have h1 := h.2 i hi
      unfold cOp at h1
      unfold wpOp
      split
      · rename_i ho
        simp only [ho] at h1
        exact wpAny_of_D hQ n _ _ _ (h1 _ (Below.refl _ _)).2
      · rename_i o ho
        simp only [ho] at h1
        split
        · rename_i hw
          simp only [hw, if_true] at h1
          exact .inl (wp_of_noQ (fun a' w' h2 => wpAny_of_D hQ n _ _ _ (h2 _ (Below.refl _ _)).2) h1)
        · rename_i hw
          simp only [hw] at h1
          exact wpAny_of_D hQ n _ _ _ (h1 _ (Below.refl _ _)).2⟩

theorem wpAnyD_first {R : Act → World → Prop} {Cv : World → Prop} {I : Array Bool → Prop} {i : Nat} {oi : Oper} {v : Value} (hi : ops[i]? = some oi) (hsel : ∀ (j : Nat) (o : Oper) cs b, ops[j]? = some o → o.op ≠ .select cs b) (hG : ∀ l w w', C l w → Below w.heap.size w w' → C l w')
    (hset : ∀ l, C (l.setIfInBounds i true) = C l) (hcv : ∀ l w, I l → C l w → Cv w) (hI : ∀ (l : Array Bool) j, I l → j ≠ i → i ∈ Region.ready .any ops l → j ∈ Region.ready .any ops l → I (l.setIfInBounds j true)) :
    ∀ (n : Nat) (listed : Array Bool) (a : Act) (w : World), I listed → C listed w →
      (∀ j oj, ops[j]? = some oj → j ≠ i → listed.getD j true = false → (∀ e ∈ oj.after, Region.binds .any e = true → e.on ≠ i) → oi.apart ops oj = true) →
      i ∈ Region.ready .any ops listed → YIn P ops Cv oi v a →
      (∀ w', Below w.heap.size w w' → wpAnyD P ops C R n (listed.setIfInBounds i true) (a.put oi.dst v) w') → wpAnyD P ops C R (n + 1) listed a w := by
  intro n
  induction n with
  | zero =>
    intro listed a w hIl hC _ hr hy H
    refine ⟨fun h => (by rw [h] at hr; cases hr), fun j hj => ?_⟩
    by_cases hji : j = i
    · subst hji; exact cOp_of_yields hi hy (hcv _ _ hIl hC) fun w' hw' w'' hw'' => ⟨by rw [hset]; exact hG _ w _ hC (hw'.trans (hw''.mono hw'.size)), H w'' (hw'.trans (hw''.mono hw'.size))⟩
    · have := ready_mono hj hji
      rw [(H w (Below.refl _ _)).1] at this
      cases this
  | succ n ih =>
    intro listed a w hIl hC hfree hr hy H
    refine ⟨fun h => (by rw [h] at hr; cases hr), fun j hj => ?_⟩
    by_cases hji : j = i
    · subst hji; exact cOp_of_yields hi hy (hcv _ _ hIl hC) fun w' hw' w'' hw'' => ⟨by rw [hset]; exact hG _ w _ hC (hw'.trans (hw''.mono hw'.size)), H w'' (hw'.trans (hw''.mono hw'.size))⟩
    · have h1 := (H w (Below.refl _ _)).2 j (ready_mono hj hji)
      obtain ⟨hjun, oj, hoj, hall⟩ := mem_ready.1 hj
      have hnot : ∀ e ∈ oj.after, Region.binds .any e = true → e.on ≠ i := fun e he hb heq => by
        have h1 := hall e he hb
        have h0 := (mem_ready.1 hr).1
        rw [heq] at h1
        rcases Nat.lt_or_ge i listed.size with h' | h'
        · simp [h'] at h0 h1; rw [h0] at h1; cases h1
        · simp [Array.getElem?_eq_none h'] at h1
      have h2 := cOp_put hoj (hfree j oj hoj hji hjun hnot) (fun cs b => hsel i oi cs b hi) (fun cs b => hsel j oj cs b hoj) hy h1
      have hfree' : ∀ k ok, ops[k]? = some ok → k ≠ i → (listed.setIfInBounds j true).getD k true = false →
          (∀ e ∈ ok.after, Region.binds .any e = true → e.on ≠ i) → oi.apart ops ok = true := fun k ok hk hki hun hno => by
        refine hfree k ok hk hki ?_ hno
        by_cases hjk : j = k
        · subst hjk; exact hjun
        · rw [getD_set_ne true hjk] at hun; exact hun
      refine cOp_mono (fun a' w' h3 w'' hw'' => ?_) h2
      have hC'' := (h3.2 w'' hw'').1
      rw [Array.setIfInBounds_comm _ _ (Ne.symm hji), hset] at hC''
      refine ⟨hC'', ih (listed.setIfInBounds j true) a' w'' (hI _ _ hIl hji hr hj) hC'' hfree' (ready_mono hr (Ne.symm hji)) h3.1 (fun w3 hw3 => ?_)⟩
      rw [Array.setIfInBounds_comm _ _ hji]
      exact (h3.2 w3 (hw''.trans (hw3.mono hw''.size))).2
end

/-- S1 till k0 has come up, S2 from then on. -/
def CC (w0 : World) (k0 : Nat) (S1 S2 : List Res) (l : Array Bool) (w : World) : Prop := St w0 w (bif l.getD k0 true then S2 else S1)
section
variable {P : Program} {N : Nat} {w0 : World} {ops : Array Oper} {Q : Exit → Act → World → Prop} {F : Frm} {L S1 S2 : List Res} {listed : Array Bool} {n k0 : Nat}
theorem CC.two {w : World} (h12 : ∀ w, St w0 w S1 → St w0 w S2) (h : CC w0 k0 S1 S2 listed w) : St w0 w S2 := by
  unfold CC at h
  cases hb : listed.getD k0 true <;> rw [hb] at h
  · exact h12 w h
  · exact h
theorem CC.set {i : Nat} (hne : i ≠ k0) (l : Array Bool) : CC w0 k0 S1 S2 (l.setIfInBounds i true) = CC w0 k0 S1 S2 l := by
  funext w
  unfold CC
  rw [getD_set_ne true hne]

def TB (P : Program) (N : Nat) (w0 : World) (ops : Array Oper) (Q : Exit → Act → World → Prop) (k0 : Nat) (S1 S2 : List Res) (n : Nat) (listed : Array Bool) (F : Frm) (L : List Res) : Prop :=
  (∀ w, St w0 w S1 → St w0 w S2) → ∀ a w, Fr N a F → St w0 w L → CC w0 k0 S1 S2 listed w → wpAnyD P ops (CC w0 k0 S1 S2) (Q .normal) n listed a w
theorem tb_draw {id : Nat} {l : List Oper} (k0 : Nat) (S2 : List Res) (h12 : ∀ w, St w0 w L → St w0 w S2) (hm : P.follows .mixedOrders = true) (h : TB P N w0 l.toArray Q k0 L S2 l.length (Array.replicate l.length false) F L) : TR P N w0 Q (.region id l.toArray true) F L := fun a w hF hS => by
  have h1 : St w0 { w with drawn := w.drawn + 1 } L := hS.grow ⟨rfl, rfl, rfl, Nat.le_refl _, fun _ _ => rfl⟩
  have hc : CC w0 k0 L S2 (Array.replicate l.length false) { w with drawn := w.drawn + 1 } := by
    unfold CC
    cases (Array.replicate l.length false).getD k0 true
    · exact h1
    · exact h12 _ h1
  have := h h12 a _ hF h1 hc
  exact wp_region_any hm (by simpa using wpAny_of_D (fun _ _ h => h) _ _ _ _ this)
theorem tb_done (hr : Region.ready .any ops listed = []) (h : TX N w0 Q .normal F L) : TB P N w0 ops Q k0 S1 S2 n listed F L := fun _ a w hF hS _ => by
  cases n with
  | zero => exact ⟨hr, h a w hF hS⟩
  | succ n => exact ⟨fun _ => h a w hF hS, by rw [hr]; simp⟩

theorem CC.grow {l : Array Bool} {w w' : World} (h : CC w0 k0 S1 S2 l w) (hb : Below w.heap.size w w') : CC w0 k0 S1 S2 l w' := by
  unfold CC at *
  exact h.grow hb
/-- Taken first: what the whole region leaves as it is yields it. -/
theorem tb_float {i : Nat} {o : Oper} {v : Value} (hi : ops[i]? = some o) (hb : (Region.noSelect ops && Region.free .any ops listed i && (Region.ready .any ops listed).contains i) = true) (hne : Nat.beq i k0 = false) (hw : Wants N ops F o true) (hy : Yq P N w0 F S2 o v)
    (h : TB P N w0 ops Q k0 S1 S2 n (listed.setIfInBounds i true) (fput F o.dst v) L) : TB P N w0 ops Q k0 S1 S2 (n + 1) listed F L := fun h12 a w hF hS hC => by
  simp only [Bool.and_eq_true] at hb
  have hne' := Nat.ne_of_beq_eq_false hne
  refine wpAnyD_first (v := v) (Cv := fun w => St w0 w S2) (I := fun _ => True) hi (Region.noSelect_spec hb.1.1) (fun l w w' h1 h2 => h1.grow h2) (CC.set hne') (fun l w _ h => h.two h12) (fun _ _ _ _ _ _ => trivial) n listed a w trivial hC (Region.free_spec hi hb.1.2) (by simpa using hb.2) (.inl ⟨hw a hF, fun w hw => hy a w hF hw⟩) (fun w' hw' => h h12 _ _ (hF.put _ _) (hS.grow hw') ?_)
  rw [CC.set hne']
  exact hC.grow hw'
theorem tb_skip {i : Nat} {o : Oper} (hi : ops[i]? = some o) (hb : (Region.noSelect ops && Region.free .any ops listed i && (Region.ready .any ops listed).contains i) = true) (hne : Nat.beq i k0 = false) (hw : Wants N ops F o false)
    (h : TB P N w0 ops Q k0 S1 S2 n (listed.setIfInBounds i true) (fput F o.dst undef) L) : TB P N w0 ops Q k0 S1 S2 (n + 1) listed F L := fun h12 a w hF hS hC => by
  simp only [Bool.and_eq_true] at hb
  have hne' := Nat.ne_of_beq_eq_false hne
  refine wpAnyD_first (v := undef) (Cv := fun w => St w0 w S2) (I := fun _ => True) hi (Region.noSelect_spec hb.1.1) (fun l w w' h1 h2 => h1.grow h2) (CC.set hne') (fun l w _ h => h.two h12) (fun _ _ _ _ _ _ => trivial) n listed a w trivial hC (Region.free_spec hi hb.1.2) (by simpa using hb.2) (.inr ⟨hw a hF, rfl⟩) (fun w' hw' => h h12 _ _ (hF.put _ _) (hS.grow hw') ?_)
  rw [CC.set hne']
  exact hC.grow hw'
/-- Taken first: the first writer waits for it. -/
theorem tb_float1 {i : Nat} {o : Oper} {v : Value} (hi : ops[i]? = some o) (hb : (Region.noSelect ops && Region.free .any ops listed i && (Region.ready .any ops listed).contains i) = true) (hk : ((ops[k0]?).any fun u => u.after.any fun e => Region.binds .any e && Nat.beq e.on i) = true) (hl : listed.getD k0 true = false) (hw : Wants N ops F o true) (hy : Yq P N w0 F S1 o v)
    (h : TB P N w0 ops Q k0 S1 S2 n (listed.setIfInBounds i true) (fput F o.dst v) L) : TB P N w0 ops Q k0 S1 S2 (n + 1) listed F L := fun h12 a w hF hS hC => by
  simp only [Bool.and_eq_true] at hb
  have hdep : ∀ (l : Array Bool), i ∈ Region.ready .any ops l → k0 ∉ Region.ready .any ops l := fun l h1 h2 => by
    obtain ⟨_, u, hu, hall⟩ := mem_ready.1 h2
    rw [hu] at hk
    simp only [Option.any_some, Array.any_eq_true, Bool.and_eq_true] at hk
    obtain ⟨m, hm, he1, he2⟩ := hk
    have h3 := hall _ (Array.getElem_mem hm) he1
    rw [Nat.eq_of_beq_eq_true he2] at h3
    have h0 := (mem_ready.1 h1).1
    rcases Nat.lt_or_ge i l.size with h' | h'
    · simp [h'] at h0 h3; rw [h0] at h3; cases h3
    · simp [Array.getElem?_eq_none h'] at h3
  have hri : i ∈ Region.ready .any ops listed := by simpa using hb.2
  have hne' : i ≠ k0 := fun e => by
    subst e
    exact hdep _ hri hri
  refine wpAnyD_first (v := v) (Cv := fun w => St w0 w S1) (I := fun l => l.getD k0 true = false) hi (Region.noSelect_spec hb.1.1) (fun l w w' h1 h2 => h1.grow h2) (CC.set hne') (fun l w h1 h2 => by unfold CC at h2; rw [h1] at h2; exact h2) (fun l j h1 h2 h3 h4 => ?_) n listed a w hl hC (Region.free_spec hi hb.1.2) hri (.inl ⟨hw a hF, fun w hw => hy a w hF hw⟩) (fun w' hw' => h h12 _ _ (hF.put _ _) (hS.grow hw') ?_)
  · have : j ≠ k0 := fun e => by subst e; exact hdep l h3 h4
    rw [getD_set_ne true this]
    exact h1
  · rw [CC.set hne']
    exact hC.grow hw'

/-- The one that may come up now, whatever it does: ahead of the first writer, or not. -/
theorem tb_one1 {i : Nat} {o : Oper} (hi : ops[i]? = some o) (hr : Region.ready .any ops listed = [i]) (hb : (listed.setIfInBounds i true).getD k0 true = false) (hw : Wants N ops F o true) (h : OpJ P N w0 F L o (fun F' L' => (∀ w, St w0 w L' → St w0 w S1) ∧ TB P N w0 ops Q k0 S1 S2 n (listed.setIfInBounds i true) F' L')) : TB P N w0 ops Q k0 S1 S2 (n + 1) listed F L := fun h12 a w hF hS hC => by
  refine ⟨fun h0 => (by rw [hr] at h0; cases h0), fun j hj => ?_⟩
  rw [hr, List.mem_singleton] at hj
  subst hj
  unfold cOp
  simp only [hi, hw a hF, if_true]
  refine wp_of_noQ (fun a' w' ⟨F', L', ⟨h1, h2⟩, h3, h4⟩ w'' hw'' => ?_) (h a w hF hS)
  have hc : CC w0 k0 S1 S2 (listed.setIfInBounds j true) w'' := by unfold CC; rw [hb]; exact h1 _ (h4.grow hw'')
  exact ⟨hc, h2 h12 a' w'' h3 (h4.grow hw'') hc⟩
theorem tb_one2 {i : Nat} {o : Oper} (hi : ops[i]? = some o) (hr : Region.ready .any ops listed = [i]) (hb : (listed.setIfInBounds i true).getD k0 true = true) (hw : Wants N ops F o true) (h : OpJ P N w0 F L o (fun F' L' => (∀ w, St w0 w L' → St w0 w S2) ∧ TB P N w0 ops Q k0 S1 S2 n (listed.setIfInBounds i true) F' L')) : TB P N w0 ops Q k0 S1 S2 (n + 1) listed F L := fun h12 a w hF hS hC => by
  refine ⟨fun h0 => (by rw [hr] at h0; cases h0), fun j hj => ?_⟩
  rw [hr, List.mem_singleton] at hj
  subst hj
  unfold cOp
  simp only [hi, hw a hF, if_true]
  refine wp_of_noQ (fun a' w' ⟨F', L', ⟨h1, h2⟩, h3, h4⟩ w'' hw'' => ?_) (h a w hF hS)
  have hc : CC w0 k0 S1 S2 (listed.setIfInBounds j true) w'' := by unfold CC; rw [hb]; exact h1 _ (h4.grow hw'')
  exact ⟨hc, h2 h12 a' w'' h3 (h4.grow hw'') hc⟩
theorem tb_split {d : Nat} {b : Bool} (hv : fget N F d = some (.bool b)) (h1 : b = true → TB P N w0 ops Q k0 S1 S2 n listed (.put d (.bool true) F) L) (h2 : b = false → TB P N w0 ops Q k0 S1 S2 n listed (.put d (.bool false) F) L) : TB P N w0 ops Q k0 S1 S2 n listed F L := fun h12 a w hF hS hC => by
  have key : Fr N a (.put d (.bool b) F) := hF.cov fun i u hi => by
    rw [fget_cons] at hi
    split at hi
    · rename_i e; subst e; split at hi
      · rw [hv]; exact hi
      · cases hi
    · exact hi
  cases b
  · exact h2 rfl h12 a w key hS hC
  · exact h1 rfl h12 a w key hS hC
theorem tb_splitp {d : Nat} {p : Prop} [Decidable p] (hv : fget N F d = some (.bool (decide p))) (h1 : p → TB P N w0 ops Q k0 S1 S2 n listed (.put d (.bool true) F) L) (h2 : ¬ p → TB P N w0 ops Q k0 S1 S2 n listed (.put d (.bool false) F) L) : TB P N w0 ops Q k0 S1 S2 n listed F L :=
  tb_split hv (fun h => h1 (of_decide_eq_true h)) (fun h => h2 (of_decide_eq_false h))
/-- Less is left as it is. -/
theorem tb_add {r : Res} (hr : ∀ w, r.holds w) (hf : r.foot = []) (h : TB P N w0 ops Q k0 S1 S2 n listed F (r :: L)) : TB P N w0 ops Q k0 S1 S2 n listed F L := fun h12 a w hF hS hC =>
  h h12 a w hF (hS.add (Below.refl _ _) (hr w) (by simp [hf])) hC
theorem tb_pure {φ : Prop} (hφ : ∀ w, St w0 w L → φ) (h : φ → TB P N w0 ops Q k0 S1 S2 n listed F L) : TB P N w0 ops Q k0 S1 S2 n listed F L := fun h12 a w hF hS hC => h (hφ w hS) h12 a w hF hS hC
end
end Go.Proofs.Ytcpdelkamckmfaa.E
