/- Regions that draw their order: an operation whose value hangs on nothing that the region turns may be taken first. -/
import Derived.Test.YtpknjfeiiaopgaaE2
import Derived.Deep.Quiet
namespace Go.Proofs.Ytpknjfeiiaopgaa.E
open Go.RowKit

section
variable {P : Program} {ops : Array Oper} {C : World → Prop}

/-- Operation i comes up: no panic. -/
def cOp (P : Program) (ops : Array Oper) (i : Nat) (K : Act → World → Prop) (a : Act) (w : World) : Prop :=
  match ops[i]? with
  | none => K a w
  | some o => if Region.wanted o (yielded ops a.tmps) then o.wp P a w K NoQ else K (a.put o.dst undef) w

/-- Whatever order is picked from here on, and C throughout. -/
def wpAnyC (P : Program) (ops : Array Oper) (C : World → Prop) (R : Act → World → Prop) : Nat → Array Bool → Act → World → Prop
  | 0, listed, a, w => Region.ready .any ops listed = [] ∧ R a w
  | n + 1, listed, a, w =>
    (Region.ready .any ops listed = [] → R a w) ∧ ∀ i ∈ Region.ready .any ops listed, cOp P ops i (fun a' w' => ∀ w'', Below w'.heap.size w' w'' → C w'' ∧ wpAnyC P ops C R n (listed.setIfInBounds i true) a' w'') a w

theorem cOp_mono {i : Nat} {a : Act} {w : World} {K K' : Act → World → Prop} (h : ∀ a w, K a w → K' a w) (hh : cOp P ops i K a w) : cOp P ops i K' a w := by
  unfold cOp at *
  split
  · exact h _ _ (by simpa [*] using hh)
  · rename_i o ho
    simp only [ho] at hh
    split
    · rename_i hw; simp only [hw, if_true] at hh; exact wp_of_noQ h hh
    · rename_i hw; simp only [hw] at hh; exact h _ _ hh

theorem wpAny_of_C {R : Act → World → Prop} {Q : Exit → Act → World → Prop} (hQ : ∀ a w, R a w → Q .normal a w) : ∀ (n : Nat) (listed : Array Bool) (a : Act) (w : World), wpAnyC P ops C R n listed a w → wpAny P .any ops Q n listed a w
  | 0, _, _, _, h => ⟨h.1, hQ _ _ h.2⟩
  | n + 1, _, _, _, h => ⟨fun h0 => hQ _ _ (h.1 h0), fun i hi => by
      have h1 := h.2 i hi
      unfold cOp at h1
      unfold wpOp
      split
      · rename_i ho
        simp only [ho] at h1
        exact wpAny_of_C hQ n _ _ _ (h1 _ (Below.refl _ _)).2
      · rename_i o ho
        simp only [ho] at h1
        split
        · rename_i hw
          simp only [hw, if_true] at h1
          exact .inl (wp_of_noQ (fun a' w' h2 => wpAny_of_C hQ n _ _ _ (h2 _ (Below.refl _ _)).2) h1)
        · rename_i hw
          simp only [hw] at h1
          exact wpAny_of_C hQ n _ _ _ (h1 _ (Below.refl _ _)).2⟩

/-- In the worlds of C, operation o yields v, and makes memory at most. -/
def YIn (P : Program) (ops : Array Oper) (C : World → Prop) (o : Oper) (v : Value) (a : Act) : Prop :=
  (Region.wanted o (yielded ops a.tmps) = true ∧ ∀ w, C w → Oper.quietUpon P (fun w'' => Below w.heap.size w w'') w v ((execOp a.eval o).run P w)) ∨
  (Region.wanted o (yielded ops a.tmps) = false ∧ v = undef)
theorem YIn.of_same {o : Oper} {v : Value} {a a' : Act} (hy : YIn P ops C o v a) (he : execOp a'.eval o = execOp a.eval o)
    (hw : Region.wanted o (yielded ops a'.tmps) = Region.wanted o (yielded ops a.tmps)) : YIn P ops C o v a' := by
  unfold YIn at *
  rw [he, hw]
  exact hy

theorem cOp_of_yields {i : Nat} {oi : Oper} {v : Value} {a : Act} {w : World} {K : Act → World → Prop} (hi : ops[i]? = some oi) (hy : YIn P ops C oi v a) (hw : C w) (h : ∀ w', Below w.heap.size w w' → K (a.put oi.dst v) w') : cOp P ops i K a w := by
  unfold cOp
  simp only [hi]
  rcases hy with ⟨hw1, hv⟩ | ⟨hw1, rfl⟩
  · simp only [hw1, if_true]
    have h3 := hv w hw
    unfold Oper.wp
    generalize (execOp a.eval oi).run P w = r at *
    cases r with
    | ok n w' =>
      cases n <;> simp only [Oper.quietUpon] at h3 <;> simp only [Oper.upon]
      case value u =>
        obtain ⟨rfl, rfl⟩ := h3
        exact h _ (Below.refl _ _)
      case skip =>
        obtain ⟨rfl, e2⟩ := h3
        rw [← e2]
        exact h _ (Below.refl _ _)
      case enter f args =>
        obtain ⟨e1, hc⟩ := h3
        rw [e1]
        exact hc.mono fun e w'' ⟨he, hw''⟩ => by subst he; exact h _ hw''
    | halt x w' => simp only [Oper.quietUpon] at h3
  · simp only [hw1, Bool.false_eq_true, if_false]
    exact h w (Below.refl _ _)

/-- Another operation, apart from it, comes up in its stead. -/
theorem cOp_put {j : Nat} {oi oj : Oper} {v : Value} (hj : ops[j]? = some oj) (hap : oi.apart ops oj = true) (hsi : ∀ cs b, oi.op ≠ .select cs b) (hsj : ∀ cs b, oj.op ≠ .select cs b) {K : Act → World → Prop} {a : Act} {w : World}
    (hy : YIn P ops C oi v a) (h : cOp P ops j K (a.put oi.dst v) w) : cOp P ops j (fun a' w' => YIn P ops C oi v a' ∧ K (a'.put oi.dst v) w') a w := by
  obtain ⟨h1, h2, h3⟩ := Oper.apart_spec hap
  have keep : ∀ (a : Act), YIn P ops C oi v a → ∀ u, YIn P ops C oi v (a.put oj.dst u) := fun a hy u =>
    hy.of_same (execOp_put oi hsi a oj.dst u h3) (wanted_put oi a oj.dst u h3)
  have keepD : ∀ d, YIn P ops C oi v ({ a with defers := d :: a.defers } : Act) := fun d => by
    unfold YIn at *
    exact hy
  unfold cOp at *
  simp only [hj] at *
  rw [wanted_put oj a oi.dst v h1] at h
  split
  · rename_i hw
    simp only [hw, if_true] at h
    unfold Oper.wp at *
    rw [execOp_put oj hsj a oi.dst v h1] at h
    generalize (execOp a.eval oj).run P w = r at *
    cases r with
    | ok n w' =>
      cases n <;> simp only [Oper.upon] at h ⊢
      case value u => exact ⟨keep a hy u, by rw [← Act.put_comm a v u h2]; exact h⟩
      case skip => exact ⟨keep a hy _, by rw [← Act.put_comm a v undef h2]; exact h⟩
      case defer d =>
        refine ⟨keep _ (keepD d) _, ?_⟩
        rw [← Act.put_comm _ v undef h2, ← Act.put_defers]
        exact h
      case enter f args =>
        refine Calls.mono h fun e w'' he => ?_
        cases e with
        | returned u => exact ⟨keep a hy u, by rw [← Act.put_comm a v u h2]; exact he⟩
        | panicked c => exact he.elim
        | outgrown => obtain ⟨_, _, hf⟩ := he; exact hf.elim
      case row row args => exact Rows.mono h fun u w'' he => ⟨keep a hy u, by rw [← Act.put_comm a v u h2]; exact he⟩
    | halt x w' => cases x <;> simp only [Oper.upon] at h ⊢ <;> exact h.elim
  · rename_i hw
    simp only [hw] at h
    exact ⟨keep a hy _, by rw [← Act.put_comm a v undef h2]; exact h⟩

theorem wpAnyC_first {R : Act → World → Prop} {i : Nat} {oi : Oper} {v : Value} (hi : ops[i]? = some oi) (hsel : ∀ (j : Nat) (o : Oper) cs b, ops[j]? = some o → o.op ≠ .select cs b) (hG : ∀ w w', C w → Below w.heap.size w w' → C w') :
    ∀ (n : Nat) (listed : Array Bool) (a : Act) (w : World), C w →
      (∀ j oj, ops[j]? = some oj → j ≠ i → listed.getD j true = false → (∀ e ∈ oj.after, Region.binds .any e = true → e.on ≠ i) → oi.apart ops oj = true) →
      i ∈ Region.ready .any ops listed → YIn P ops C oi v a →
      (∀ w', Below w.heap.size w w' → wpAnyC P ops C R n (listed.setIfInBounds i true) (a.put oi.dst v) w') → wpAnyC P ops C R (n + 1) listed a w := by
  intro n
  induction n with
  | zero =>
    intro listed a w hC _ hr hy H
    refine ⟨fun h => (by rw [h] at hr; cases hr), fun j hj => ?_⟩
    by_cases hji : j = i
    · subst hji; exact cOp_of_yields hi hy hC fun w' hw' w'' hw'' => ⟨hG w _ hC (hw'.trans (hw''.mono hw'.size)), H w'' (hw'.trans (hw''.mono hw'.size))⟩
    · have := ready_mono hj hji
      rw [(H w (Below.refl _ _)).1] at this
      cases this
  | succ n ih =>
    intro listed a w hC hfree hr hy H
    refine ⟨fun h => (by rw [h] at hr; cases hr), fun j hj => ?_⟩
    by_cases hji : j = i
    · subst hji; exact cOp_of_yields hi hy hC fun w' hw' w'' hw'' => ⟨hG w _ hC (hw'.trans (hw''.mono hw'.size)), H w'' (hw'.trans (hw''.mono hw'.size))⟩
    · have h1 := (H w (Below.refl _ _)).2 j (ready_mono hj hji)
      obtain ⟨hjun, oj, hoj, hall⟩ := mem_ready.1 hj
      have hnot : ∀ e ∈ oj.after, Region.binds .any e = true → e.on ≠ i := fun e he hb heq => by
        have h1 := hall e he hb
        have h0 := (mem_ready.1 hr).1
        rw [heq] at h1
        rcases Nat.lt_or_ge i listed.size with h' | h'
        · simp [h'] at h0 h1; rw [h0] at h1; cases h1
        · simp [Array.getElem?_eq_none h'] at h1
      have h2 := cOp_put hoj (hfree j oj hoj hji hjun hnot) (fun cs b => hsel i oi cs b hi) (fun cs b => hsel j oj cs b hoj) hy h1
      have hfree' : ∀ k ok, ops[k]? = some ok → k ≠ i → (listed.setIfInBounds j true).getD k true = false →
          (∀ e ∈ ok.after, Region.binds .any e = true → e.on ≠ i) → oi.apart ops ok = true := fun k ok hk hki hun hno => by
        refine hfree k ok hk hki ?_ hno
        by_cases hjk : j = k
        · subst hjk; exact hjun
        · rw [getD_set_ne true hjk] at hun; exact hun
      refine cOp_mono (fun a' w' h3 w'' hw'' => ?_) h2
      have hC'' := (h3.2 w'' hw'').1
      refine ⟨hC'', ih (listed.setIfInBounds j true) a' w'' hC'' hfree' (ready_mono hr (Ne.symm hji)) h3.1 (fun w3 hw3 => ?_)⟩
      rw [Array.setIfInBounds_comm _ _ hji]
      exact (h3.2 w3 (hw''.trans (hw3.mono hw''.size))).2
end

section
variable {P : Program} {N : Nat} {w0 : World} {ops : Array Oper} {Q : Exit → Act → World → Prop} {F : Frm} {L S : List Res} {listed : Array Bool} {n : Nat}

/-- In a region, with these operations done. S: what the whole region leaves as it is. -/
def TA (P : Program) (N : Nat) (w0 : World) (ops : Array Oper) (Q : Exit → Act → World → Prop) (S : List Res) (n : Nat) (listed : Array Bool) (F : Frm) (L : List Res) : Prop :=
  ∀ a w, Fr N a F → St w0 w L → St w0 w S → wpAnyC P ops (fun w => St w0 w S) (Q .normal) n listed a w

theorem tr_draw {id : Nat} {l : List Oper} (S : List Res) (hL : ∀ w, St w0 w L → St w0 w S) (hm : P.follows .mixedOrders = true) (h : TA P N w0 l.toArray Q S l.length (Array.replicate l.length false) F L) : TR P N w0 Q (.region id l.toArray true) F L := fun a w hF hS => by
  have h1 : St w0 { w with drawn := w.drawn + 1 } L := hS.grow ⟨rfl, rfl, rfl, Nat.le_refl _, fun _ _ => rfl⟩
  have := h a _ hF h1 (hL _ h1)
  exact wp_region_any hm (by simpa using wpAny_of_C (fun _ _ h => h) _ _ _ _ this)

theorem ta_done (hr : Region.ready .any ops listed = []) (h : TX N w0 Q .normal F L) : TA P N w0 ops Q S n listed F L := fun a w hF hS _ => by
  cases n with
  | zero => exact ⟨hr, h a w hF hS⟩
  | succ n => exact ⟨fun _ => h a w hF hS, by rw [hr]; simp⟩

/-- An operation's value from what the region leaves as it is. -/
def Yq (P : Program) (N : Nat) (w0 : World) (F : Frm) (S : List Res) (o : Oper) (v : Value) : Prop :=
  ∀ a w, Fr N a F → St w0 w S → Oper.quietUpon P (fun w'' => Below w.heap.size w w'') w v ((execOp a.eval o).run P w)
theorem yq_of {o : Oper} {v : Value} (h : Yld P N w0 F S o v) : Yq P N w0 F S o v := fun a w hF hS => by
  rw [h a w hF hS]
  exact ⟨rfl, rfl⟩
theorem yq_call {d : Option Tmp} {fc : Operand} {xs : Array Operand} {ts : Array TypeId} {ty : TypeId} {pos : String} {af : Array Edge} {gd : Option (Nat × Bool)} {f : FuncId} {vs : List Value} {v : Value} (hcall : ∀ args w, (callFunc f args).run P w = .ok (.enter f args) w) (hf : FE N F fc (.func (.func f) #[] #[])) (hx : FEL N F xs.toList vs)
    (hc : ∀ w, St w0 w S → Calls P f vs.toArray w (fun e w' => e = .returned v ∧ St w w' [])) : Yq P N w0 F S ⟨d, .call ⟨.value fc, xs, ts⟩, ty, pos, af, gd⟩ v := fun a w hF hS => by
  have hargs : xs.map a.eval = vs.toArray := by
    have := hx a hF
    apply Array.toList_inj.1
    simpa using this
  have hr : (execOp a.eval ⟨d, .call ⟨.value fc, xs, ts⟩, ty, pos, af, gd⟩).run P w = .ok (.enter f vs.toArray) w := by
    simp [execOp, resolve, hf a hF, Deferred.ofValue, invoke, hargs, hcall]
  rw [hr]
  exact ⟨rfl, (hc w hS).mono fun e w' ⟨h1, h2⟩ => ⟨h1, h2.below⟩⟩

/-- Wanted, unwanted: by what a slot holds. -/
def Wants (N : Nat) (ops : Array Oper) (F : Frm) (o : Oper) (b : Bool) : Prop := ∀ a, Fr N a F → Region.wanted o (yielded ops a.tmps) = b
theorem wants_none {o : Oper} (h : o.guard = none) : Wants N ops F o true := fun a _ => by simp [Region.wanted, h]
theorem wants_eq {o : Oper} {g d : Nat} {b b' : Bool} (hg : o.guard = some (g, b)) (hd : (ops[g]?).bind (·.dst) = some d) (hv : fget N F d = some (.bool b')) : Wants N ops F o (b' == b) := fun a hF => by
  simp [Region.wanted, hg, yielded_of hF hd hv]
theorem wants_t {o : Oper} {g d : Nat} {b : Bool} (hg : o.guard = some (g, b)) (hd : (ops[g]?).bind (·.dst) = some d) (hv : fget N F d = some (.bool b)) : Wants N ops F o true := fun a hF => by
  simp [Region.wanted, hg, yielded_of hF hd hv]
theorem wants_f {o : Oper} {g d : Nat} {b b' : Bool} (hg : o.guard = some (g, b)) (hd : (ops[g]?).bind (·.dst) = some d) (hv : fget N F d = some (.bool b')) (hb : (b' == b) = false) : Wants N ops F o false := fun a hF => by
  have : b' ≠ b := by simpa using hb
  simp [Region.wanted, hg, yielded_of hF hd hv, this]
theorem wants_undef {o : Oper} {g d : Nat} {b : Bool} (hg : o.guard = some (g, b)) (hd : (ops[g]?).bind (·.dst) = some d) (hv : fget N F d = some undef) : Wants N ops F o false := fun a hF => by
  simp [Region.wanted, hg, yielded_of hF hd hv, undef]

/-- Taken first. -/
theorem ta_float {i : Nat} {o : Oper} {v : Value} (hi : ops[i]? = some o) (hb : (Region.noSelect ops && Region.free .any ops listed i && (Region.ready .any ops listed).contains i) = true) (hw : Wants N ops F o true) (hy : Yq P N w0 F S o v)
    (h : TA P N w0 ops Q S n (listed.setIfInBounds i true) (fput F o.dst v) L) : TA P N w0 ops Q S (n + 1) listed F L := fun a w hF hS hC => by
  simp only [Bool.and_eq_true] at hb
  refine wpAnyC_first (v := v) hi (Region.noSelect_spec hb.1.1) (fun w w' h1 h2 => h1.grow h2) n listed a w hC (Region.free_spec hi hb.1.2) (by simpa using hb.2) (.inl ⟨hw a hF, fun w hw => hy a w hF hw⟩) (fun w' hw' => h _ _ (hF.put _ _) (hS.grow hw') (hC.grow hw'))
theorem ta_skip {i : Nat} {o : Oper} (hi : ops[i]? = some o) (hb : (Region.noSelect ops && Region.free .any ops listed i && (Region.ready .any ops listed).contains i) = true) (hw : Wants N ops F o false)
    (h : TA P N w0 ops Q S n (listed.setIfInBounds i true) (fput F o.dst undef) L) : TA P N w0 ops Q S (n + 1) listed F L := fun a w hF hS hC => by
  simp only [Bool.and_eq_true] at hb
  refine wpAnyC_first (v := undef) hi (Region.noSelect_spec hb.1.1) (fun w w' h1 h2 => h1.grow h2) n listed a w hC (Region.free_spec hi hb.1.2) (by simpa using hb.2) (.inr ⟨hw a hF, rfl⟩) (fun w' hw' => h _ _ (hF.put _ _) (hS.grow hw') (hC.grow hw'))

/-- The one that may come up now, whatever it does. -/
theorem ta_one {i : Nat} {o : Oper} (hi : ops[i]? = some o) (hr : Region.ready .any ops listed = [i]) (hw : Wants N ops F o true) (h : OpJ P N w0 F L o (fun F' L' => (∀ w, St w0 w L' → St w0 w S) ∧ TA P N w0 ops Q S n (listed.setIfInBounds i true) F' L')) : TA P N w0 ops Q S (n + 1) listed F L := fun a w hF hS hC => by
  refine ⟨fun h0 => (by rw [hr] at h0; cases h0), fun j hj => ?_⟩
  rw [hr, List.mem_singleton] at hj
  subst hj
  unfold cOp
  simp only [hi, hw a hF, if_true]
  exact wp_of_noQ (fun a' w' ⟨F', L', ⟨h1, h2⟩, h3, h4⟩ w'' hw'' => ⟨h1 _ (h4.grow hw''), h2 a' w'' h3 (h4.grow hw'') (h1 _ (h4.grow hw''))⟩) (h a w hF hS)
/-- One of two. -/
theorem ta_two {i j : Nat} {o u : Oper} (hi : ops[i]? = some o) (hj : ops[j]? = some u) (hr : Region.ready .any ops listed = [i, j]) (hw : Wants N ops F o true) (hw2 : Wants N ops F u true)
    (h : OpJ P N w0 F L o (fun F' L' => (∀ w, St w0 w L' → St w0 w S) ∧ TA P N w0 ops Q S n (listed.setIfInBounds i true) F' L'))
    (h' : OpJ P N w0 F L u (fun F' L' => (∀ w, St w0 w L' → St w0 w S) ∧ TA P N w0 ops Q S n (listed.setIfInBounds j true) F' L')) : TA P N w0 ops Q S (n + 1) listed F L := fun a w hF hS hC => by
  refine ⟨fun h0 => (by rw [hr] at h0; cases h0), fun k hk => ?_⟩
  rw [hr] at hk
  simp only [List.mem_cons, List.not_mem_nil, or_false] at hk
  unfold cOp
  rcases hk with rfl | rfl
  · simp only [hi, hw a hF, if_true]
    exact wp_of_noQ (fun a' w' ⟨F', L', ⟨h1, h2⟩, h3, h4⟩ w'' hw'' => ⟨h1 _ (h4.grow hw''), h2 a' w'' h3 (h4.grow hw'') (h1 _ (h4.grow hw''))⟩) (h a w hF hS)
  · simp only [hj, hw2 a hF, if_true]
    exact wp_of_noQ (fun a' w' ⟨F', L', ⟨h1, h2⟩, h3, h4⟩ w'' hw'' => ⟨h1 _ (h4.grow hw''), h2 a' w'' h3 (h4.grow hw'') (h1 _ (h4.grow hw''))⟩) (h' a w hF hS)
theorem ta_split {d : Nat} {b : Bool} (hv : fget N F d = some (.bool b)) (h1 : b = true → TA P N w0 ops Q S n listed (.put d (.bool true) F) L) (h2 : b = false → TA P N w0 ops Q S n listed (.put d (.bool false) F) L) : TA P N w0 ops Q S n listed F L := fun a w hF hS hC => by
  have key : Fr N a (.put d (.bool b) F) := hF.cov fun i u hi => by
    rw [fget_cons] at hi
    split at hi
    · rename_i e; subst e; split at hi
      · rw [hv]; exact hi
      · cases hi
    · exact hi
  cases b
  · exact h2 rfl a w key hS hC
  · exact h1 rfl a w key hS hC
theorem ta_splitp {d : Nat} {p : Prop} [Decidable p] (hv : fget N F d = some (.bool (decide p))) (h1 : p → TA P N w0 ops Q S n listed (.put d (.bool true) F) L) (h2 : ¬ p → TA P N w0 ops Q S n listed (.put d (.bool false) F) L) : TA P N w0 ops Q S n listed F L :=
  ta_split hv (fun h => h1 (of_decide_eq_true h)) (fun h => h2 (of_decide_eq_false h))
/-- Less is left as it is. -/
theorem ta_add {r : Res} (hr : ∀ w, r.holds w) (hf : r.foot = []) (h : TA P N w0 ops Q S n listed F (r :: L)) : TA P N w0 ops Q S n listed F L := fun a w hF hS hC =>
  h a w hF (hS.add (Below.refl _ _) (hr w) (by simp [hf])) hC
end
end Go.Proofs.Ytpknjfeiiaopgaa.E
