/- A walk over a function's code by what its slots hold and what the call holds: the rules of control. -/
import Derived.Test.YtpknjfeiiaopgaaE0
import Derived.Orders
namespace Go.Proofs.Ytpknjfeiiaopgaa.E
open Go.RowKit

/-- What slots hold, the newest first; what is dropped is not known any more. -/
inductive Frm where
  | nil
  | put (d : Nat) (v : Value) (F : Frm)
  | drop (W : List Nat) (F : Frm)
def mem : List Nat → Nat → Bool
  | [], _ => false
  | d :: l, i => bif Nat.beq d i then true else mem l i
def fgo : Frm → Nat → Option Value
  | .nil, _ => none
  | .put d v l, i => bif Nat.beq d i then some v else fgo l i
  | .drop W l, i => bif mem W i then none else fgo l i
def fget (N : Nat) (F : Frm) (i : Nat) : Option Value := bif Nat.blt i N then fgo F i else none
def fput (F : Frm) (d : Option Tmp) (v : Value) : Frm := match d with | some d => .put d v F | none => F
def fputs : List (Nat × Value) → Frm → Frm
  | [], F => F
  | (d, v) :: l, F => .put d v (fputs l F)

structure Fr (N : Nat) (a : Act) (F : Frm) : Prop where
  defers : a.defers = []
  size : a.tmps.size = N
  at_ : ∀ i v, fget N F i = some v → a.tmps[i]? = some v

theorem fget_cons {N : Nat} {F : Frm} {d i : Nat} {v : Value} : fget N (.put d v F) i = if d = i then (if i < N then some v else none) else fget N F i := by
  unfold fget
  simp only [fgo]
  by_cases h : d = i
  · subst h
    by_cases h2 : d < N
    · have : Nat.blt d N = true := of_eq_true (by simp only [Nat.blt_eq, h2])
      simp [h2, this]
    · have : Nat.blt d N = false := Bool.eq_false_iff.2 (by simp only [ne_eq, Nat.blt_eq]; exact h2)
      simp [h2, this]
  · have h3 : Nat.beq d i = false := Bool.eq_false_iff.2 (fun e => h (Nat.eq_of_beq_eq_true e))
    simp [h, h3]

theorem Fr.put {N : Nat} {a : Act} {F : Frm} (h : Fr N a F) (d : Option Tmp) (v : Value) : Fr N (a.put d v) (fput F d v) := by
  cases d with
  | none => exact h
  | some d =>
    refine ⟨h.defers, by simp [Act.put, h.size], fun i u hu => ?_⟩
    simp only [fput, fget_cons] at hu
    simp only [Act.put]
    by_cases hd : d = i
    · subst hd
      simp only [if_true] at hu
      split at hu
      · rename_i hlt
        simp only [Option.some.injEq] at hu
        subst hu
        rw [Array.getElem?_setIfInBounds_self_of_lt (by rw [h.size]; exact hlt)]
      · cases hu
    · rw [if_neg hd] at hu
      rw [Array.getElem?_setIfInBounds_ne hd]
      exact h.at_ i u hu

/-- The slots of G hold what they do in F. -/
def Cov (N : Nat) (F : Frm) (G : Frm) : Prop := ∀ i v, fget N G i = some v → fget N F i = some v
theorem cov_nil {N : Nat} {F : Frm} : Cov N F .nil := fun i v h => by simp [fget, fgo] at h
theorem cov_cons {N : Nat} {F G : Frm} {i : Nat} {v : Value} (h : fget N F i = some v) (hG : Cov N F G) : Cov N F (.put i v G) := fun j u hj => by
  rw [fget_cons] at hj
  split at hj
  · rename_i e
    subst e
    split at hj
    · simp only [Option.some.injEq] at hj; subst hj; exact h
    · cases hj
  · exact hG j u hj
theorem Fr.cov {N : Nat} {a : Act} {F G : Frm} (h : Fr N a F) (hc : Cov N F G) : Fr N a G := ⟨h.defers, h.size, fun i v hv => h.at_ i v (hc i v hv)⟩

/-- What an operand is. -/
def FE (N : Nat) (F : Frm) (x : Operand) (v : Value) : Prop := ∀ a, Fr N a F → a.eval x = v
theorem fe_t {N : Nat} {F : Frm} {i : Nat} {v : Value} (h : fget N F i = some v) : FE N F (.tmp i) v := fun a ha => by
  have := ha.at_ i v h
  simp [Act.eval, Array.getD_eq_getD_getElem?, this]
theorem fe_c {N : Nat} {F : Frm} {v : Value} : FE N F (.const v) v := fun _ _ => rfl
theorem fe_f {N : Nat} {F : Frm} {f : FuncId} : FE N F (.func f) (.func (.func f) #[] #[]) := fun _ _ => rfl
theorem fe_g {N : Nat} {F : Frm} {g : Nat} : FE N F (.global g) (.pointer (some ⟨g, 0, none⟩)) := fun _ _ => rfl

def NoQ : Exit → Act → World → Prop := fun _ _ _ => False

section
variable {P : Program} {N : Nat} {w0 : World} {ops : Array Oper} {Q Q' : Exit → Act → World → Prop} {F G : Frm} {L M : List Res} {o : Oper} {rest : List Oper} {v : Value} {c x y : Code}

/-- An operation's value, whatever else the world holds. -/
def Yld (P : Program) (N : Nat) (w0 : World) (F : Frm) (L : List Res) (o : Oper) (v : Value) : Prop :=
  ∀ a w, Fr N a F → St w0 w L → (execOp a.eval o).run P w = .ok (.value v) w

/-- What is asked of an operation, K of what follows. -/
def OpJ (P : Program) (N : Nat) (w0 : World) (F : Frm) (L : List Res) (o : Oper) (K : Frm → List Res → Prop) : Prop :=
  ∀ a w, Fr N a F → St w0 w L → o.wp P a w (fun a' w' => ∃ F' L', K F' L' ∧ Fr N a' F' ∧ St w0 w' L') NoQ

theorem oj_val {K : Frm → List Res → Prop} (hy : Yld P N w0 F L o v) (h : K (fput F o.dst v) L) : OpJ P N w0 F L o K := fun a w hF hS => by
  unfold Oper.wp
  rw [hy a w hF hS]
  exact ⟨_, _, h, hF.put _ _, hS⟩

theorem upon_mono {a : Act} {K K' : Act → World → Prop} {r : Result Next} (hK : ∀ a w, K a w → K' a w) (h : o.upon P a K NoQ r) : o.upon P a K' Q r := by
  cases r with
  | ok n w' =>
    cases n <;> simp only [Oper.upon] at h ⊢
    case value => exact hK _ _ h
    case skip => exact hK _ _ h
    case defer => exact hK _ _ h
    case enter f args =>
      refine Calls.mono h fun e w'' he => ?_
      cases e with
      | returned u => exact hK _ _ he
      | panicked ch => exact he.elim
      | outgrown => obtain ⟨_, _, hf⟩ := he; exact hf.elim
    case row => exact Rows.mono h fun _ _ he => hK _ _ he
  | halt x w' => cases x <;> simp only [Oper.upon] at h ⊢ <;> exact h.elim

theorem wp_of_noQ {a : Act} {w : World} {K K' : Act → World → Prop} (hK : ∀ a w, K a w → K' a w) (h : o.wp P a w K NoQ) : o.wp P a w K' Q := upon_mono hK h

/-- A list of operations. -/
def TL (P : Program) (N : Nat) (w0 : World) (ops : Array Oper) (Q : Exit → Act → World → Prop) (l : List Oper) (F : Frm) (L : List Res) : Prop :=
  ∀ a w, Fr N a F → St w0 w L → wpList P ops Q l a w

theorem tl_step (hg : o.guard = none) (h : OpJ P N w0 F L o (fun F' L' => TL P N w0 ops Q rest F' L')) : TL P N w0 ops Q (o :: rest) F L := fun a w hF hS => by
  have := h a w hF hS
  unfold wpList
  rw [if_pos (by simp [Region.wanted, hg])]
  exact .inl (wp_of_noQ (fun a' w' ⟨F', L', hK, h1, h2⟩ => hK a' w' h1 h2) this)

theorem yielded_of {a : Act} {g d : Nat} {v : Value} (hF : Fr N a F) (hd : (ops[g]?).bind (·.dst) = some d) (hv : fget N F d = some v) : yielded ops a.tmps g = (match v with | .bool b => some b | _ => none) := by
  have := hF.at_ d v hv
  unfold yielded
  rw [hd, Option.bind_some, this]
  cases v <;> rfl

/-- A guarded operation that is wanted. -/
theorem tl_want {g d : Nat} {b : Bool} (hg : o.guard = some (g, b)) (hd : (ops[g]?).bind (·.dst) = some d) (hv : fget N F d = some (.bool b)) (h : OpJ P N w0 F L o (fun F' L' => TL P N w0 ops Q rest F' L')) : TL P N w0 ops Q (o :: rest) F L := fun a w hF hS => by
  have := h a w hF hS
  unfold wpList
  rw [if_pos (by simp [Region.wanted, hg, yielded_of hF hd hv])]
  exact .inl (wp_of_noQ (fun a' w' ⟨F', L', hK, h1, h2⟩ => hK a' w' h1 h2) this)
theorem tl_skip {g d : Nat} {b : Bool} {u : Value} (hg : o.guard = some (g, b)) (hd : (ops[g]?).bind (·.dst) = some d) (hv : fget N F d = some u) (hu : (match u with | .bool b' => b' != b | _ => true) = true) (h : TL P N w0 ops Q rest (fput F o.dst undef) L) : TL P N w0 ops Q (o :: rest) F L := fun a w hF hS => by
  unfold wpList
  rw [if_neg]
  · exact h _ _ (hF.put _ _) hS
  · simp only [Region.wanted, hg, yielded_of hF hd hv]
    cases u <;> simp_all
/-- Two ways at a slot that holds a Bool. -/
theorem tl_split {d : Nat} {b : Bool} (hv : fget N F d = some (.bool b)) (h1 : b = true → TL P N w0 ops Q rest (.put d (.bool true) F) L) (h2 : b = false → TL P N w0 ops Q rest (.put d (.bool false) F) L) : TL P N w0 ops Q rest F L := fun a w hF hS => by
  cases b
  · exact h2 rfl a w (hF.cov fun i u hi => by
      rw [fget_cons] at hi
      split at hi
      · rename_i e; subst e; split at hi
        · rw [hv]; exact hi
        · cases hi
      · exact hi) hS
  · exact h1 rfl a w (hF.cov fun i u hi => by
      rw [fget_cons] at hi
      split at hi
      · rename_i e; subst e; split at hi
        · rw [hv]; exact hi
        · cases hi
      · exact hi) hS
theorem tl_splitp {d : Nat} {p : Prop} [Decidable p] (hv : fget N F d = some (.bool (decide p))) (h1 : p → TL P N w0 ops Q rest (.put d (.bool true) F) L) (h2 : ¬ p → TL P N w0 ops Q rest (.put d (.bool false) F) L) : TL P N w0 ops Q rest F L :=
  tl_split hv (fun h => h1 (of_decide_eq_true h)) (fun h => h2 (of_decide_eq_false h))
theorem Fr.cov2 {a : Act} (h : Fr N a F) (hc : Cov N F G) : Fr N a G := h.cov hc

/-- Code. -/
def TR (P : Program) (N : Nat) (w0 : World) (Q : Exit → Act → World → Prop) (c : Code) (F : Frm) (L : List Res) : Prop :=
  ∀ a w, Fr N a F → St w0 w L → c.wp P Q a w
/-- A way out. -/
def TX (N : Nat) (w0 : World) (Q : Exit → Act → World → Prop) (e : Exit) (F : Frm) (L : List Res) : Prop :=
  ∀ a w, Fr N a F → St w0 w L → Q e a w

theorem tl_nil (h : TX N w0 Q .normal F L) : TL P N w0 ops Q [] F L := h
theorem tr_seq (h : TR P N w0 (Exit.then (y.wp P Q) Q) x F L) : TR P N w0 Q (.seq x y) F L := fun a w hF hS => wp_seq (h a w hF hS)
theorem tr_region {id : Nat} {l : List Oper} (h : TL P N w0 l.toArray Q l F L) : TR P N w0 Q (.region id l.toArray false) F L := fun a w hF hS => wp_region_lit (h a w hF hS)
theorem tr_skip (h : TX N w0 Q .normal F L) : TR P N w0 Q .skip F L := fun a w hF hS => wp_skip (h a w hF hS)
theorem tr_ret (h : TX N w0 Q .ret F L) : TR P N w0 Q .ret F L := fun a w hF hS => wp_ret (h a w hF hS)
theorem tr_exit {id : Nat} (h : TX N w0 Q (.exit id) F L) : TR P N w0 Q (.exit id) F L := fun a w hF hS => wp_exit (h a w hF hS)
theorem tr_block {id : Nat} (h : TR P N w0 (Exit.inBlock id Q) c F L) : TR P N w0 Q (.block id c) F L := fun a w hF hS => wp_block (h a w hF hS)
theorem tr_cond {t : Operand} {b : Bool} (hc : FE N F t (.bool b)) (h1 : b = true → TR P N w0 Q x F L) (h2 : b = false → TR P N w0 Q y F L) : TR P N w0 Q (.cond t x y) F L := fun a w hF hS =>
  wp_cond_split (hc a hF) (fun h => h1 h a w hF hS) (fun h => h2 h a w hF hS)
theorem tr_condp {t : Operand} {p : Prop} [Decidable p] (hc : FE N F t (.bool (decide p))) (h1 : p → TR P N w0 Q x F L) (h2 : ¬ p → TR P N w0 Q y F L) : TR P N w0 Q (.cond t x y) F L :=
  tr_cond hc (fun h => h1 (of_decide_eq_true h)) (fun h => h2 (of_decide_eq_false h))
theorem tr_condt {t : Operand} (hc : FE N F t (.bool true)) (h1 : TR P N w0 Q x F L) : TR P N w0 Q (.cond t x y) F L := tr_cond hc (fun _ => h1) (fun h => by cases h)
theorem tr_condf {t : Operand} (hc : FE N F t (.bool false)) (h1 : TR P N w0 Q y F L) : TR P N w0 Q (.cond t x y) F L := tr_cond hc (fun h => by cases h) (fun _ => h1)

theorem tx_then (h : TR P N w0 Q y F L) : TX N w0 (Exit.then (y.wp P Q) Q') .normal F L := h
theorem tx_then_ret {K : Act → World → Prop} (h : TX N w0 Q .ret F L) : TX N w0 (Exit.then K Q) .ret F L := h
theorem tx_then_exit {K : Act → World → Prop} {id : Nat} (h : TX N w0 Q (.exit id) F L) : TX N w0 (Exit.then K Q) (.exit id) F L := h
theorem tx_in {id : Nat} (h : TX N w0 Q .normal F L) : TX N w0 (Exit.inBlock id Q) .normal F L := h
theorem tx_in_ret {id : Nat} (h : TX N w0 Q .ret F L) : TX N w0 (Exit.inBlock id Q) .ret F L := h
theorem tx_in_exit {id : Nat} (h : TX N w0 Q .normal F L) : TX N w0 (Exit.inBlock id Q) (.exit id) F L := fun a w hF hS => by simpa [Exit.inBlock] using h a w hF hS
theorem tx_in_pass {id k : Nat} (hne : Nat.beq k id = false) (h : TX N w0 Q (.exit k) F L) : TX N w0 (Exit.inBlock id Q) (.exit k) F L := fun a w hF hS => by
  have : k ≠ id := Nat.ne_of_beq_eq_false hne
  simpa [Exit.inBlock, this] using h a w hF hS

/-- Less is asked to be known. -/
theorem tr_less (hF : Cov N F G) (hL : ∀ w, St w0 w L → St w0 w M) (h : TR P N w0 Q c G M) : TR P N w0 Q c F L := fun a w h1 h2 => h a w (h1.cov hF) (hL w h2)
theorem tr_add {r : Res} (hr : ∀ w, r.holds w) (hf : r.foot = []) (h : TR P N w0 Q c F (r :: L)) : TR P N w0 Q c F L := fun a w hF hS =>
  h a w hF (hS.add (Below.refl _ _) (hr w) (by simp [hf]))
theorem tl_add {r : Res} {l : List Oper} (hr : ∀ w, r.holds w) (hf : r.foot = []) (h : TL P N w0 ops Q l F (r :: L)) : TL P N w0 ops Q l F L := fun a w hF hS =>
  h a w hF (hS.add (Below.refl _ _) (hr w) (by simp [hf]))

theorem fget_drop {W : List Nat} {i : Nat} {v : Value} (h : fget N (.drop W F) i = some v) : fget N F i = some v ∧ mem W i = false := by
  unfold fget at *
  simp only [fgo] at h
  cases h1 : Nat.blt i N with
  | false => simp [h1] at h
  | true =>
    cases h2 : mem W i with
    | true => simp [h2] at h
    | false => simpa [h1, h2] using h
/-- T lies under F, what is above it stands in W. -/
def Over (W : List Nat) (T F : Frm) : Prop := ∀ i, mem W i = false → fgo F i = fgo T i
theorem over_nil {W : List Nat} {T : Frm} : Over W T T := fun _ _ => rfl
theorem over_put {W : List Nat} {T F : Frm} {d : Nat} {v : Value} (hd : mem W d = true) (h : Over W T F) : Over W T (.put d v F) := fun i hi => by
  have : Nat.beq d i = false := Bool.eq_false_iff.2 (fun e => by
    have := Nat.eq_of_beq_eq_true e
    subst this
    rw [hd] at hi
    cases hi)
  simp only [fgo, this, cond_false]
  exact h i hi
theorem over_drop {W V : List Nat} {T F : Frm} (hV : V.all (mem W) = true) (h : Over W T F) : Over W T (.drop V F) := fun i hi => by
  have : mem V i = false := by
    rw [Bool.eq_false_iff]
    intro e
    have : ∀ l : List Nat, mem l i = true → i ∈ l := by
      intro l
      induction l with
      | nil => simp [mem]
      | cons d l ih =>
        intro h1
        simp only [mem] at h1
        cases h2 : Nat.beq d i with
        | true => simp [Nat.eq_of_beq_eq_true h2]
        | false => rw [h2] at h1; exact List.mem_cons_of_mem _ (ih h1)
    have := List.all_eq_true.1 hV i (this V e)
    rw [this] at hi
    cases hi
  simp only [fgo, this, cond_false]
  exact h i hi
/-- What is asked at the head of a loop: some slots by name, all others that it does not write as they were. -/
theorem cov_head {W : List Nat} {T : Frm} {G : List (Nat × Value)} (hG : Cov N F (fputs G .nil)) (h : Over W T F) : Cov N F (fputs G (.drop W T)) := by
  have key : ∀ G : List (Nat × Value), ∀ i v, fget N (fputs G (.drop W T)) i = some v → fget N (fputs G .nil) i = some v ∨ (mem W i = false ∧ fget N T i = some v) := by
    intro G
    induction G with
    | nil => intro i v hv; right; have := fget_drop hv; exact ⟨this.2, this.1⟩
    | cons p G ih =>
      intro i v hv
      obtain ⟨d, u⟩ := p
      simp only [fputs, fget_cons] at hv ⊢
      split
      · rename_i e; rw [if_pos e] at hv; exact .inl hv
      · rename_i e; rw [if_neg e] at hv; exact ih i v hv
  intro i v hv
  rcases key G i v hv with h1 | ⟨h1, h2⟩
  · exact hG i v h1
  · unfold fget at *
    rw [h i h1]
    exact h2

theorem exists_min {p : Nat → Prop} : ∀ n, p n → ∃ m, p m ∧ ∀ k, p k → m ≤ k := by
  intro n
  induction n using Nat.strongRecOn with
  | _ n ih =>
    intro h
    by_cases hx : ∃ k, k < n ∧ p k
    · obtain ⟨k, hk, hp⟩ := hx
      exact ih k hk hp
    · refine ⟨n, h, fun k hp => ?_⟩
      rcases Nat.lt_or_ge k n with h1 | h1
      · exact absurd ⟨k, h1, hp⟩ hx
      · exact h1

/-- A way back to one of many states. -/
def Back {ι : Type} (N : Nat) (w0 : World) (G : ι → Frm) (M : ι → List Res) (p : ι → Prop) (a : Act) (w : World) : Prop := ∃ i, p i ∧ Fr N a (G i) ∧ St w0 w (M i)

open Classical in
/-- A loop, by a state G i, M i at its head. -/
theorem tr_loop {ι : Type} (G : ι → Frm) (M : ι → List Res) (μ : ι → Nat) (i0 : ι) (hF : Cov N F (G i0)) (hL : ∀ w, St w0 w L → St w0 w (M i0))
    (h : ∀ i, TR P N w0 (Exit.then (Back N w0 G M (fun j => μ j < μ i)) Q) c (G i) (M i)) : TR P N w0 Q (.loop c) F L := by
  intro a w h1 h2
  let I : Act → World → Nat → Prop := fun a w n => ∃ i, μ i = n ∧ Fr N a (G i) ∧ St w0 w (M i)
  have hex : ∀ a w, (∃ n, I a w n) → ∃ m, I a w m ∧ ∀ k, I a w k → m ≤ k := fun a w ⟨n, h⟩ => exists_min n h
  let m : Act → World → Nat := fun a w => if h : ∃ n, I a w n then Classical.choose (hex a w h) else 0
  refine wp_loop (fun a w => ∃ n, I a w n) m ⟨_, i0, rfl, h1.cov hF, hL w h2⟩ ?_
  intro a w hI
  have hm : m a w = Classical.choose (hex a w hI) := by simp only [m]; rw [dif_pos hI]
  obtain ⟨⟨i, hi, hf, hs⟩, _⟩ := Classical.choose_spec (hex a w hI)
  refine wp_mono (h i a w hf hs) ?_
  intro e a' w' hq
  cases e with
  | normal =>
    obtain ⟨j, hj, hf', hs'⟩ := hq
    have hI' : ∃ n, I a' w' n := ⟨_, j, rfl, hf', hs'⟩
    refine ⟨hI', ?_⟩
    have hm' : m a' w' = Classical.choose (hex a' w' hI') := by simp only [m]; rw [dif_pos hI']
    rw [hm, hm', ← hi]
    exact Nat.lt_of_le_of_lt ((Classical.choose_spec (hex a' w' hI')).2 _ ⟨j, rfl, hf', hs'⟩) hj
  | exit id => exact hq
  | goto l => exact hq
  | ret => exact hq
  | panic ch => exact hq
  | outgrown => exact hq

/-- A cut: what follows is walked once, from states G i, M i. -/
theorem tr_cut {ι : Type} (G : ι → Frm) (M : ι → List Res) (p : ι → Prop) (h1 : TR P N w0 (Exit.then (Back N w0 G M p) Q) x F L) (h2 : ∀ i, p i → TR P N w0 Q y (G i) (M i)) : TR P N w0 Q (.seq x y) F L := fun a w hF hS =>
  wp_seq (wp_mono (h1 a w hF hS) (fun e a' w' hq => by
    cases e with
    | normal =>
      obtain ⟨i, hp, hf, hs⟩ := hq
      exact h2 i hp a' w' hf hs
    | exit id => exact hq
    | goto l => exact hq
    | ret => exact hq
    | panic ch => exact hq
    | outgrown => exact hq))

/-- A loop whose states are some of ι's. -/
theorem tr_loopP {ι : Type} (G : ι → Frm) (M : ι → List Res) (p : ι → Prop) (μ : ι → Nat) (i0 : ι) (hF : Cov N F (G i0)) (hL : ∀ w, St w0 w L → St w0 w (M i0)) (hp : p i0)
    (h : ∀ i, p i → TR P N w0 (Exit.then (Back N w0 G M (fun j => p j ∧ μ j < μ i)) Q) c (G i) (M i)) : TR P N w0 Q (.loop c) F L :=
  tr_loop (ι := { i : ι // p i }) (fun q => G q.1) (fun q => M q.1) (fun q => μ q.1) ⟨i0, hp⟩ hF hL (fun q a w h1 h2 => wp_mono (h q.1 q.2 a w h1 h2) (fun e a' w' hq => by
    cases e with
    | normal =>
      obtain ⟨j, ⟨hj, hm⟩, hf, hs⟩ := hq
      exact ⟨⟨j, hj⟩, hm, hf, hs⟩
    | exit id => exact hq
    | goto l => exact hq
    | ret => exact hq
    | panic ch => exact hq
    | outgrown => exact hq))

def Back1 {α1 : Type} (N : Nat) (w0 : World) (G : α1 → List (Nat × Value)) (W : List Nat) (T : Frm) (B : List Res) (D : Nat) (M : α1 → List (Nat × Res)) (p : α1 → Prop) (a : Act) (w : World) : Prop := Back N w0 (fun q : α1 => fputs (G q) (.drop W T)) (fun q => lsets (ldrop D B) (M q)) (fun q => p q) a w
theorem tx_back1 {α1 : Type} {G : α1 → List (Nat × Value)} {W : List Nat} {T : Frm} {M : α1 → List (Nat × Res)} {D : Nat} {B : List Res} {p : α1 → Prop} (x1 : α1) (hF : Cov N F (fputs (G x1) .nil)) (hO : Over W T F) (hL : ∀ w, St w0 w L → St w0 w (lsets (ldrop D B) (M x1))) (hp : p x1) : TX N w0 (Exit.then (Back1 N w0 G W T B D M p) Q) .normal F L := fun _ w h1 h2 => ⟨x1, hp, h1.cov (cov_head hF hO), hL w h2⟩
/-- A loop, at whose head the slots of G are as G says, and all that it does not write (W) as before. -/
theorem tr_loop1 {α1 : Type} (W : List Nat) (G : α1 → List (Nat × Value)) (D : Nat) (M : α1 → List (Nat × Res)) (p : α1 → Prop) (μ : α1 → Nat) (x1 : α1) (hF : Cov N F (fputs (G x1) .nil)) (hL : ∀ w, St w0 w L → St w0 w (lsets (ldrop D L) (M x1))) (hp : p x1)
    (h : ∀ x1, p x1 → TR P N w0 (Exit.then (Back1 N w0 G W F L D M (fun y1 => p y1 ∧ μ y1 < μ x1)) Q) c (fputs (G x1) (.drop W F)) (lsets (ldrop D L) (M x1))) : TR P N w0 Q (.loop c) F L :=
  tr_loopP (fun q : α1 => fputs (G q) (.drop W F)) (fun q => lsets (ldrop D L) (M q)) (fun q => p q) (fun q => μ q) x1 (cov_head hF over_nil) hL hp (fun q hq => h q hq)
/-- A cut: what follows is walked once. -/
theorem tr_cut1 {α1 : Type} (W : List Nat) (G : α1 → List (Nat × Value)) (D : Nat) (M : α1 → List (Nat × Res)) (p : α1 → Prop) (h1 : TR P N w0 (Exit.then (Back1 N w0 G W F L D M p) Q) x F L) (h2 : ∀ x1, p x1 → TR P N w0 Q y (fputs (G x1) (.drop W F)) (lsets (ldrop D L) (M x1))) : TR P N w0 Q (.seq x y) F L :=
  tr_cut (fun q : α1 => fputs (G q) (.drop W F)) (fun q => lsets (ldrop D L) (M q)) (fun q => p q) h1 (fun q hq => h2 q hq)

def Back2 {α1 α2 : Type} (N : Nat) (w0 : World) (G : α1 → α2 → List (Nat × Value)) (W : List Nat) (T : Frm) (B : List Res) (D : Nat) (M : α1 → α2 → List (Nat × Res)) (p : α1 → α2 → Prop) (a : Act) (w : World) : Prop := Back N w0 (fun q : α1 × α2 => fputs (G (q.1) (q.2)) (.drop W T)) (fun q => lsets (ldrop D B) (M (q.1) (q.2))) (fun q => p (q.1) (q.2)) a w
theorem tx_back2 {α1 α2 : Type} {G : α1 → α2 → List (Nat × Value)} {W : List Nat} {T : Frm} {M : α1 → α2 → List (Nat × Res)} {D : Nat} {B : List Res} {p : α1 → α2 → Prop} (x1 : α1) (x2 : α2) (hF : Cov N F (fputs (G x1 x2) .nil)) (hO : Over W T F) (hL : ∀ w, St w0 w L → St w0 w (lsets (ldrop D B) (M x1 x2))) (hp : p x1 x2) : TX N w0 (Exit.then (Back2 N w0 G W T B D M p) Q) .normal F L := fun _ w h1 h2 => ⟨(x1, x2), hp, h1.cov (cov_head hF hO), hL w h2⟩
/-- A loop, at whose head the slots of G are as G says, and all that it does not write (W) as before. -/
theorem tr_loop2 {α1 α2 : Type} (W : List Nat) (G : α1 → α2 → List (Nat × Value)) (D : Nat) (M : α1 → α2 → List (Nat × Res)) (p : α1 → α2 → Prop) (μ : α1 → α2 → Nat) (x1 : α1) (x2 : α2) (hF : Cov N F (fputs (G x1 x2) .nil)) (hL : ∀ w, St w0 w L → St w0 w (lsets (ldrop D L) (M x1 x2))) (hp : p x1 x2)
    (h : ∀ x1 x2, p x1 x2 → TR P N w0 (Exit.then (Back2 N w0 G W F L D M (fun y1 y2 => p y1 y2 ∧ μ y1 y2 < μ x1 x2)) Q) c (fputs (G x1 x2) (.drop W F)) (lsets (ldrop D L) (M x1 x2))) : TR P N w0 Q (.loop c) F L :=
  tr_loopP (fun q : α1 × α2 => fputs (G (q.1) (q.2)) (.drop W F)) (fun q => lsets (ldrop D L) (M (q.1) (q.2))) (fun q => p (q.1) (q.2)) (fun q => μ (q.1) (q.2)) (x1, x2) (cov_head hF over_nil) hL hp (fun q hq => h (q.1) (q.2) hq)
/-- A cut: what follows is walked once. -/
theorem tr_cut2 {α1 α2 : Type} (W : List Nat) (G : α1 → α2 → List (Nat × Value)) (D : Nat) (M : α1 → α2 → List (Nat × Res)) (p : α1 → α2 → Prop) (h1 : TR P N w0 (Exit.then (Back2 N w0 G W F L D M p) Q) x F L) (h2 : ∀ x1 x2, p x1 x2 → TR P N w0 Q y (fputs (G x1 x2) (.drop W F)) (lsets (ldrop D L) (M x1 x2))) : TR P N w0 Q (.seq x y) F L :=
  tr_cut (fun q : α1 × α2 => fputs (G (q.1) (q.2)) (.drop W F)) (fun q => lsets (ldrop D L) (M (q.1) (q.2))) (fun q => p (q.1) (q.2)) h1 (fun q hq => h2 (q.1) (q.2) hq)

def Back3 {α1 α2 α3 : Type} (N : Nat) (w0 : World) (G : α1 → α2 → α3 → List (Nat × Value)) (W : List Nat) (T : Frm) (B : List Res) (D : Nat) (M : α1 → α2 → α3 → List (Nat × Res)) (p : α1 → α2 → α3 → Prop) (a : Act) (w : World) : Prop := Back N w0 (fun q : α1 × α2 × α3 => fputs (G (q.1) (q.2.1) (q.2.2)) (.drop W T)) (fun q => lsets (ldrop D B) (M (q.1) (q.2.1) (q.2.2))) (fun q => p (q.1) (q.2.1) (q.2.2)) a w
theorem tx_back3 {α1 α2 α3 : Type} {G : α1 → α2 → α3 → List (Nat × Value)} {W : List Nat} {T : Frm} {M : α1 → α2 → α3 → List (Nat × Res)} {D : Nat} {B : List Res} {p : α1 → α2 → α3 → Prop} (x1 : α1) (x2 : α2) (x3 : α3) (hF : Cov N F (fputs (G x1 x2 x3) .nil)) (hO : Over W T F) (hL : ∀ w, St w0 w L → St w0 w (lsets (ldrop D B) (M x1 x2 x3))) (hp : p x1 x2 x3) : TX N w0 (Exit.then (Back3 N w0 G W T B D M p) Q) .normal F L := fun _ w h1 h2 => ⟨(x1, x2, x3), hp, h1.cov (cov_head hF hO), hL w h2⟩
/-- A loop, at whose head the slots of G are as G says, and all that it does not write (W) as before. -/
theorem tr_loop3 {α1 α2 α3 : Type} (W : List Nat) (G : α1 → α2 → α3 → List (Nat × Value)) (D : Nat) (M : α1 → α2 → α3 → List (Nat × Res)) (p : α1 → α2 → α3 → Prop) (μ : α1 → α2 → α3 → Nat) (x1 : α1) (x2 : α2) (x3 : α3) (hF : Cov N F (fputs (G x1 x2 x3) .nil)) (hL : ∀ w, St w0 w L → St w0 w (lsets (ldrop D L) (M x1 x2 x3))) (hp : p x1 x2 x3)
    (h : ∀ x1 x2 x3, p x1 x2 x3 → TR P N w0 (Exit.then (Back3 N w0 G W F L D M (fun y1 y2 y3 => p y1 y2 y3 ∧ μ y1 y2 y3 < μ x1 x2 x3)) Q) c (fputs (G x1 x2 x3) (.drop W F)) (lsets (ldrop D L) (M x1 x2 x3))) : TR P N w0 Q (.loop c) F L :=
  tr_loopP (fun q : α1 × α2 × α3 => fputs (G (q.1) (q.2.1) (q.2.2)) (.drop W F)) (fun q => lsets (ldrop D L) (M (q.1) (q.2.1) (q.2.2))) (fun q => p (q.1) (q.2.1) (q.2.2)) (fun q => μ (q.1) (q.2.1) (q.2.2)) (x1, x2, x3) (cov_head hF over_nil) hL hp (fun q hq => h (q.1) (q.2.1) (q.2.2) hq)
/-- A cut: what follows is walked once. -/
theorem tr_cut3 {α1 α2 α3 : Type} (W : List Nat) (G : α1 → α2 → α3 → List (Nat × Value)) (D : Nat) (M : α1 → α2 → α3 → List (Nat × Res)) (p : α1 → α2 → α3 → Prop) (h1 : TR P N w0 (Exit.then (Back3 N w0 G W F L D M p) Q) x F L) (h2 : ∀ x1 x2 x3, p x1 x2 x3 → TR P N w0 Q y (fputs (G x1 x2 x3) (.drop W F)) (lsets (ldrop D L) (M x1 x2 x3))) : TR P N w0 Q (.seq x y) F L :=
  tr_cut (fun q : α1 × α2 × α3 => fputs (G (q.1) (q.2.1) (q.2.2)) (.drop W F)) (fun q => lsets (ldrop D L) (M (q.1) (q.2.1) (q.2.2))) (fun q => p (q.1) (q.2.1) (q.2.2)) h1 (fun q hq => h2 (q.1) (q.2.1) (q.2.2) hq)

def Back4 {α1 α2 α3 α4 : Type} (N : Nat) (w0 : World) (G : α1 → α2 → α3 → α4 → List (Nat × Value)) (W : List Nat) (T : Frm) (B : List Res) (D : Nat) (M : α1 → α2 → α3 → α4 → List (Nat × Res)) (p : α1 → α2 → α3 → α4 → Prop) (a : Act) (w : World) : Prop := Back N w0 (fun q : α1 × α2 × α3 × α4 => fputs (G (q.1) (q.2.1) (q.2.2.1) (q.2.2.2)) (.drop W T)) (fun q => lsets (ldrop D B) (M (q.1) (q.2.1) (q.2.2.1) (q.2.2.2))) (fun q => p (q.1) (q.2.1) (q.2.2.1) (q.2.2.2)) a w
theorem tx_back4 {α1 α2 α3 α4 : Type} {G : α1 → α2 → α3 → α4 → List (Nat × Value)} {W : List Nat} {T : Frm} {M : α1 → α2 → α3 → α4 → List (Nat × Res)} {D : Nat} {B : List Res} {p : α1 → α2 → α3 → α4 → Prop} (x1 : α1) (x2 : α2) (x3 : α3) (x4 : α4) (hF : Cov N F (fputs (G x1 x2 x3 x4) .nil)) (hO : Over W T F) (hL : ∀ w, St w0 w L → St w0 w (lsets (ldrop D B) (M x1 x2 x3 x4))) (hp : p x1 x2 x3 x4) : TX N w0 (Exit.then (Back4 N w0 G W T B D M p) Q) .normal F L := fun _ w h1 h2 => ⟨(x1, x2, x3, x4), hp, h1.cov (cov_head hF hO), hL w h2⟩
/-- A loop, at whose head the slots of G are as G says, and all that it does not write (W) as before. -/
theorem tr_loop4 {α1 α2 α3 α4 : Type} (W : List Nat) (G : α1 → α2 → α3 → α4 → List (Nat × Value)) (D : Nat) (M : α1 → α2 → α3 → α4 → List (Nat × Res)) (p : α1 → α2 → α3 → α4 → Prop) (μ : α1 → α2 → α3 → α4 → Nat) (x1 : α1) (x2 : α2) (x3 : α3) (x4 : α4) (hF : Cov N F (fputs (G x1 x2 x3 x4) .nil)) (hL : ∀ w, St w0 w L → St w0 w (lsets (ldrop D L) (M x1 x2 x3 x4))) (hp : p x1 x2 x3 x4)
    (h : ∀ x1 x2 x3 x4, p x1 x2 x3 x4 → TR P N w0 (Exit.then (Back4 N w0 G W F L D M (fun y1 y2 y3 y4 => p y1 y2 y3 y4 ∧ μ y1 y2 y3 y4 < μ x1 x2 x3 x4)) Q) c (fputs (G x1 x2 x3 x4) (.drop W F)) (lsets (ldrop D L) (M x1 x2 x3 x4))) : TR P N w0 Q (.loop c) F L :=
  tr_loopP (fun q : α1 × α2 × α3 × α4 => fputs (G (q.1) (q.2.1) (q.2.2.1) (q.2.2.2)) (.drop W F)) (fun q => lsets (ldrop D L) (M (q.1) (q.2.1) (q.2.2.1) (q.2.2.2))) (fun q => p (q.1) (q.2.1) (q.2.2.1) (q.2.2.2)) (fun q => μ (q.1) (q.2.1) (q.2.2.1) (q.2.2.2)) (x1, x2, x3, x4) (cov_head hF over_nil) hL hp (fun q hq => h (q.1) (q.2.1) (q.2.2.1) (q.2.2.2) hq)
/-- A cut: what follows is walked once. -/
theorem tr_cut4 {α1 α2 α3 α4 : Type} (W : List Nat) (G : α1 → α2 → α3 → α4 → List (Nat × Value)) (D : Nat) (M : α1 → α2 → α3 → α4 → List (Nat × Res)) (p : α1 → α2 → α3 → α4 → Prop) (h1 : TR P N w0 (Exit.then (Back4 N w0 G W F L D M p) Q) x F L) (h2 : ∀ x1 x2 x3 x4, p x1 x2 x3 x4 → TR P N w0 Q y (fputs (G x1 x2 x3 x4) (.drop W F)) (lsets (ldrop D L) (M x1 x2 x3 x4))) : TR P N w0 Q (.seq x y) F L :=
  tr_cut (fun q : α1 × α2 × α3 × α4 => fputs (G (q.1) (q.2.1) (q.2.2.1) (q.2.2.2)) (.drop W F)) (fun q => lsets (ldrop D L) (M (q.1) (q.2.1) (q.2.2.1) (q.2.2.2))) (fun q => p (q.1) (q.2.1) (q.2.2.1) (q.2.2.2)) h1 (fun q hq => h2 (q.1) (q.2.1) (q.2.2.1) (q.2.2.2) hq)

def Back5 {α1 α2 α3 α4 α5 : Type} (N : Nat) (w0 : World) (G : α1 → α2 → α3 → α4 → α5 → List (Nat × Value)) (W : List Nat) (T : Frm) (B : List Res) (D : Nat) (M : α1 → α2 → α3 → α4 → α5 → List (Nat × Res)) (p : α1 → α2 → α3 → α4 → α5 → Prop) (a : Act) (w : World) : Prop := Back N w0 (fun q : α1 × α2 × α3 × α4 × α5 => fputs (G (q.1) (q.2.1) (q.2.2.1) (q.2.2.2.1) (q.2.2.2.2)) (.drop W T)) (fun q => lsets (ldrop D B) (M (q.1) (q.2.1) (q.2.2.1) (q.2.2.2.1) (q.2.2.2.2))) (fun q => p (q.1) (q.2.1) (q.2.2.1) (q.2.2.2.1) (q.2.2.2.2)) a w
theorem tx_back5 {α1 α2 α3 α4 α5 : Type} {G : α1 → α2 → α3 → α4 → α5 → List (Nat × Value)} {W : List Nat} {T : Frm} {M : α1 → α2 → α3 → α4 → α5 → List (Nat × Res)} {D : Nat} {B : List Res} {p : α1 → α2 → α3 → α4 → α5 → Prop} (x1 : α1) (x2 : α2) (x3 : α3) (x4 : α4) (x5 : α5) (hF : Cov N F (fputs (G x1 x2 x3 x4 x5) .nil)) (hO : Over W T F) (hL : ∀ w, St w0 w L → St w0 w (lsets (ldrop D B) (M x1 x2 x3 x4 x5))) (hp : p x1 x2 x3 x4 x5) : TX N w0 (Exit.then (Back5 N w0 G W T B D M p) Q) .normal F L := fun _ w h1 h2 => ⟨(x1, x2, x3, x4, x5), hp, h1.cov (cov_head hF hO), hL w h2⟩
/-- A loop, at whose head the slots of G are as G says, and all that it does not write (W) as before. -/
theorem tr_loop5 {α1 α2 α3 α4 α5 : Type} (W : List Nat) (G : α1 → α2 → α3 → α4 → α5 → List (Nat × Value)) (D : Nat) (M : α1 → α2 → α3 → α4 → α5 → List (Nat × Res)) (p : α1 → α2 → α3 → α4 → α5 → Prop) (μ : α1 → α2 → α3 → α4 → α5 → Nat) (x1 : α1) (x2 : α2) (x3 : α3) (x4 : α4) (x5 : α5) (hF : Cov N F (fputs (G x1 x2 x3 x4 x5) .nil)) (hL : ∀ w, St w0 w L → St w0 w (lsets (ldrop D L) (M x1 x2 x3 x4 x5))) (hp : p x1 x2 x3 x4 x5)
    (h : ∀ x1 x2 x3 x4 x5, p x1 x2 x3 x4 x5 → TR P N w0 (Exit.then (Back5 N w0 G W F L D M (fun y1 y2 y3 y4 y5 => p y1 y2 y3 y4 y5 ∧ μ y1 y2 y3 y4 y5 < μ x1 x2 x3 x4 x5)) Q) c (fputs (G x1 x2 x3 x4 x5) (.drop W F)) (lsets (ldrop D L) (M x1 x2 x3 x4 x5))) : TR P N w0 Q (.loop c) F L :=
  tr_loopP (fun q : α1 × α2 × α3 × α4 × α5 => fputs (G (q.1) (q.2.1) (q.2.2.1) (q.2.2.2.1) (q.2.2.2.2)) (.drop W F)) (fun q => lsets (ldrop D L) (M (q.1) (q.2.1) (q.2.2.1) (q.2.2.2.1) (q.2.2.2.2))) (fun q => p (q.1) (q.2.1) (q.2.2.1) (q.2.2.2.1) (q.2.2.2.2)) (fun q => μ (q.1) (q.2.1) (q.2.2.1) (q.2.2.2.1) (q.2.2.2.2)) (x1, x2, x3, x4, x5) (cov_head hF over_nil) hL hp (fun q hq => h (q.1) (q.2.1) (q.2.2.1) (q.2.2.2.1) (q.2.2.2.2) hq)
/-- A cut: what follows is walked once. -/
theorem tr_cut5 {α1 α2 α3 α4 α5 : Type} (W : List Nat) (G : α1 → α2 → α3 → α4 → α5 → List (Nat × Value)) (D : Nat) (M : α1 → α2 → α3 → α4 → α5 → List (Nat × Res)) (p : α1 → α2 → α3 → α4 → α5 → Prop) (h1 : TR P N w0 (Exit.then (Back5 N w0 G W F L D M p) Q) x F L) (h2 : ∀ x1 x2 x3 x4 x5, p x1 x2 x3 x4 x5 → TR P N w0 Q y (fputs (G x1 x2 x3 x4 x5) (.drop W F)) (lsets (ldrop D L) (M x1 x2 x3 x4 x5))) : TR P N w0 Q (.seq x y) F L :=
  tr_cut (fun q : α1 × α2 × α3 × α4 × α5 => fputs (G (q.1) (q.2.1) (q.2.2.1) (q.2.2.2.1) (q.2.2.2.2)) (.drop W F)) (fun q => lsets (ldrop D L) (M (q.1) (q.2.1) (q.2.2.1) (q.2.2.2.1) (q.2.2.2.2))) (fun q => p (q.1) (q.2.1) (q.2.2.1) (q.2.2.2.1) (q.2.2.2.2)) h1 (fun q hq => h2 (q.1) (q.2.1) (q.2.2.1) (q.2.2.2.1) (q.2.2.2.2) hq)

def Back6 {α1 α2 α3 α4 α5 α6 : Type} (N : Nat) (w0 : World) (G : α1 → α2 → α3 → α4 → α5 → α6 → List (Nat × Value)) (W : List Nat) (T : Frm) (B : List Res) (D : Nat) (M : α1 → α2 → α3 → α4 → α5 → α6 → List (Nat × Res)) (p : α1 → α2 → α3 → α4 → α5 → α6 → Prop) (a : Act) (w : World) : Prop := Back N w0 (fun q : α1 × α2 × α3 × α4 × α5 × α6 => fputs (G (q.1) (q.2.1) (q.2.2.1) (q.2.2.2.1) (q.2.2.2.2.1) (q.2.2.2.2.2)) (.drop W T)) (fun q => lsets (ldrop D B) (M (q.1) (q.2.1) (q.2.2.1) (q.2.2.2.1) (q.2.2.2.2.1) (q.2.2.2.2.2))) (fun q => p (q.1) (q.2.1) (q.2.2.1) (q.2.2.2.1) (q.2.2.2.2.1) (q.2.2.2.2.2)) a w
theorem tx_back6 {α1 α2 α3 α4 α5 α6 : Type} {G : α1 → α2 → α3 → α4 → α5 → α6 → List (Nat × Value)} {W : List Nat} {T : Frm} {M : α1 → α2 → α3 → α4 → α5 → α6 → List (Nat × Res)} {D : Nat} {B : List Res} {p : α1 → α2 → α3 → α4 → α5 → α6 → Prop} (x1 : α1) (x2 : α2) (x3 : α3) (x4 : α4) (x5 : α5) (x6 : α6) (hF : Cov N F (fputs (G x1 x2 x3 x4 x5 x6) .nil)) (hO : Over W T F) (hL : ∀ w, St w0 w L → St w0 w (lsets (ldrop D B) (M x1 x2 x3 x4 x5 x6))) (hp : p x1 x2 x3 x4 x5 x6) : TX N w0 (Exit.then (Back6 N w0 G W T B D M p) Q) .normal F L := fun _ w h1 h2 => ⟨(x1, x2, x3, x4, x5, x6), hp, h1.cov (cov_head hF hO), hL w h2⟩
/-- A loop, at whose head the slots of G are as G says, and all that it does not write (W) as before. -/
theorem tr_loop6 {α1 α2 α3 α4 α5 α6 : Type} (W : List Nat) (G : α1 → α2 → α3 → α4 → α5 → α6 → List (Nat × Value)) (D : Nat) (M : α1 → α2 → α3 → α4 → α5 → α6 → List (Nat × Res)) (p : α1 → α2 → α3 → α4 → α5 → α6 → Prop) (μ : α1 → α2 → α3 → α4 → α5 → α6 → Nat) (x1 : α1) (x2 : α2) (x3 : α3) (x4 : α4) (x5 : α5) (x6 : α6) (hF : Cov N F (fputs (G x1 x2 x3 x4 x5 x6) .nil)) (hL : ∀ w, St w0 w L → St w0 w (lsets (ldrop D L) (M x1 x2 x3 x4 x5 x6))) (hp : p x1 x2 x3 x4 x5 x6)
    (h : ∀ x1 x2 x3 x4 x5 x6, p x1 x2 x3 x4 x5 x6 → TR P N w0 (Exit.then (Back6 N w0 G W F L D M (fun y1 y2 y3 y4 y5 y6 => p y1 y2 y3 y4 y5 y6 ∧ μ y1 y2 y3 y4 y5 y6 < μ x1 x2 x3 x4 x5 x6)) Q) c (fputs (G x1 x2 x3 x4 x5 x6) (.drop W F)) (lsets (ldrop D L) (M x1 x2 x3 x4 x5 x6))) : TR P N w0 Q (.loop c) F L :=
  tr_loopP (fun q : α1 × α2 × α3 × α4 × α5 × α6 => fputs (G (q.1) (q.2.1) (q.2.2.1) (q.2.2.2.1) (q.2.2.2.2.1) (q.2.2.2.2.2)) (.drop W F)) (fun q => lsets (ldrop D L) (M (q.1) (q.2.1) (q.2.2.1) (q.2.2.2.1) (q.2.2.2.2.1) (q.2.2.2.2.2))) (fun q => p (q.1) (q.2.1) (q.2.2.1) (q.2.2.2.1) (q.2.2.2.2.1) (q.2.2.2.2.2)) (fun q => μ (q.1) (q.2.1) (q.2.2.1) (q.2.2.2.1) (q.2.2.2.2.1) (q.2.2.2.2.2)) (x1, x2, x3, x4, x5, x6) (cov_head hF over_nil) hL hp (fun q hq => h (q.1) (q.2.1) (q.2.2.1) (q.2.2.2.1) (q.2.2.2.2.1) (q.2.2.2.2.2) hq)
/-- A cut: what follows is walked once. -/
theorem tr_cut6 {α1 α2 α3 α4 α5 α6 : Type} (W : List Nat) (G : α1 → α2 → α3 → α4 → α5 → α6 → List (Nat × Value)) (D : Nat) (M : α1 → α2 → α3 → α4 → α5 → α6 → List (Nat × Res)) (p : α1 → α2 → α3 → α4 → α5 → α6 → Prop) (h1 : TR P N w0 (Exit.then (Back6 N w0 G W F L D M p) Q) x F L) (h2 : ∀ x1 x2 x3 x4 x5 x6, p x1 x2 x3 x4 x5 x6 → TR P N w0 Q y (fputs (G x1 x2 x3 x4 x5 x6) (.drop W F)) (lsets (ldrop D L) (M x1 x2 x3 x4 x5 x6))) : TR P N w0 Q (.seq x y) F L :=
  tr_cut (fun q : α1 × α2 × α3 × α4 × α5 × α6 => fputs (G (q.1) (q.2.1) (q.2.2.1) (q.2.2.2.1) (q.2.2.2.2.1) (q.2.2.2.2.2)) (.drop W F)) (fun q => lsets (ldrop D L) (M (q.1) (q.2.1) (q.2.2.1) (q.2.2.2.1) (q.2.2.2.2.1) (q.2.2.2.2.2))) (fun q => p (q.1) (q.2.1) (q.2.2.1) (q.2.2.2.1) (q.2.2.2.2.1) (q.2.2.2.2.2)) h1 (fun q hq => h2 (q.1) (q.2.1) (q.2.2.1) (q.2.2.2.1) (q.2.2.2.2.1) (q.2.2.2.2.2) hq)

def Back7 {α1 α2 α3 α4 α5 α6 α7 : Type} (N : Nat) (w0 : World) (G : α1 → α2 → α3 → α4 → α5 → α6 → α7 → List (Nat × Value)) (W : List Nat) (T : Frm) (B : List Res) (D : Nat) (M : α1 → α2 → α3 → α4 → α5 → α6 → α7 → List (Nat × Res)) (p : α1 → α2 → α3 → α4 → α5 → α6 → α7 → Prop) (a : Act) (w : World) : Prop := Back N w0 (fun q : α1 × α2 × α3 × α4 × α5 × α6 × α7 => fputs (G (q.1) (q.2.1) (q.2.2.1) (q.2.2.2.1) (q.2.2.2.2.1) (q.2.2.2.2.2.1) (q.2.2.2.2.2.2)) (.drop W T)) (fun q => lsets (ldrop D B) (M (q.1) (q.2.1) (q.2.2.1) (q.2.2.2.1) (q.2.2.2.2.1) (q.2.2.2.2.2.1) (q.2.2.2.2.2.2))) (fun q => p (q.1) (q.2.1) (q.2.2.1) (q.2.2.2.1) (q.2.2.2.2.1) (q.2.2.2.2.2.1) (q.2.2.2.2.2.2)) a w
theorem tx_back7 {α1 α2 α3 α4 α5 α6 α7 : Type} {G : α1 → α2 → α3 → α4 → α5 → α6 → α7 → List (Nat × Value)} {W : List Nat} {T : Frm} {M : α1 → α2 → α3 → α4 → α5 → α6 → α7 → List (Nat × Res)} {D : Nat} {B : List Res} {p : α1 → α2 → α3 → α4 → α5 → α6 → α7 → Prop} (x1 : α1) (x2 : α2) (x3 : α3) (x4 : α4) (x5 : α5) (x6 : α6) (x7 : α7) (hF : Cov N F (fputs (G x1 x2 x3 x4 x5 x6 x7) .nil)) (hO : Over W T F) (hL : ∀ w, St w0 w L → St w0 w (lsets (ldrop D B) (M x1 x2 x3 x4 x5 x6 x7))) (hp : p x1 x2 x3 x4 x5 x6 x7) : TX N w0 (Exit.then (Back7 N w0 G W T B D M p) Q) .normal F L := fun _ w h1 h2 => ⟨(x1, x2, x3, x4, x5, x6, x7), hp, h1.cov (cov_head hF hO), hL w h2⟩
/-- A loop, at whose head the slots of G are as G says, and all that it does not write (W) as before. -/
theorem tr_loop7 {α1 α2 α3 α4 α5 α6 α7 : Type} (W : List Nat) (G : α1 → α2 → α3 → α4 → α5 → α6 → α7 → List (Nat × Value)) (D : Nat) (M : α1 → α2 → α3 → α4 → α5 → α6 → α7 → List (Nat × Res)) (p : α1 → α2 → α3 → α4 → α5 → α6 → α7 → Prop) (μ : α1 → α2 → α3 → α4 → α5 → α6 → α7 → Nat) (x1 : α1) (x2 : α2) (x3 : α3) (x4 : α4) (x5 : α5) (x6 : α6) (x7 : α7) (hF : Cov N F (fputs (G x1 x2 x3 x4 x5 x6 x7) .nil)) (hL : ∀ w, St w0 w L → St w0 w (lsets (ldrop D L) (M x1 x2 x3 x4 x5 x6 x7))) (hp : p x1 x2 x3 x4 x5 x6 x7)
    (h : ∀ x1 x2 x3 x4 x5 x6 x7, p x1 x2 x3 x4 x5 x6 x7 → TR P N w0 (Exit.then (Back7 N w0 G W F L D M (fun y1 y2 y3 y4 y5 y6 y7 => p y1 y2 y3 y4 y5 y6 y7 ∧ μ y1 y2 y3 y4 y5 y6 y7 < μ x1 x2 x3 x4 x5 x6 x7)) Q) c (fputs (G x1 x2 x3 x4 x5 x6 x7) (.drop W F)) (lsets (ldrop D L) (M x1 x2 x3 x4 x5 x6 x7))) : TR P N w0 Q (.loop c) F L :=
  tr_loopP (fun q : α1 × α2 × α3 × α4 × α5 × α6 × α7 => fputs (G (q.1) (q.2.1) (q.2.2.1) (q.2.2.2.1) (q.2.2.2.2.1) (q.2.2.2.2.2.1) (q.2.2.2.2.2.2)) (.drop W F)) (fun q => lsets (ldrop D L) (M (q.1) (q.2.1) (q.2.2.1) (q.2.2.2.1) (q.2.2.2.2.1) (q.2.2.2.2.2.1) (q.2.2.2.2.2.2))) (fun q => p (q.1) (q.2.1) (q.2.2.1) (q.2.2.2.1) (q.2.2.2.2.1) (q.2.2.2.2.2.1) (q.2.2.2.2.2.2)) (fun q => μ (q.1) (q.2.1) (q.2.2.1) (q.2.2.2.1) (q.2.2.2.2.1) (q.2.2.2.2.2.1) (q.2.2.2.2.2.2)) (x1, x2, x3, x4, x5, x6, x7) (cov_head hF over_nil) hL hp (fun q hq => h (q.1) (q.2.1) (q.2.2.1) (q.2.2.2.1) (q.2.2.2.2.1) (q.2.2.2.2.2.1) (q.2.2.2.2.2.2) hq)
/-- A cut: what follows is walked once. -/
theorem tr_cut7 {α1 α2 α3 α4 α5 α6 α7 : Type} (W : List Nat) (G : α1 → α2 → α3 → α4 → α5 → α6 → α7 → List (Nat × Value)) (D : Nat) (M : α1 → α2 → α3 → α4 → α5 → α6 → α7 → List (Nat × Res)) (p : α1 → α2 → α3 → α4 → α5 → α6 → α7 → Prop) (h1 : TR P N w0 (Exit.then (Back7 N w0 G W F L D M p) Q) x F L) (h2 : ∀ x1 x2 x3 x4 x5 x6 x7, p x1 x2 x3 x4 x5 x6 x7 → TR P N w0 Q y (fputs (G x1 x2 x3 x4 x5 x6 x7) (.drop W F)) (lsets (ldrop D L) (M x1 x2 x3 x4 x5 x6 x7))) : TR P N w0 Q (.seq x y) F L :=
  tr_cut (fun q : α1 × α2 × α3 × α4 × α5 × α6 × α7 => fputs (G (q.1) (q.2.1) (q.2.2.1) (q.2.2.2.1) (q.2.2.2.2.1) (q.2.2.2.2.2.1) (q.2.2.2.2.2.2)) (.drop W F)) (fun q => lsets (ldrop D L) (M (q.1) (q.2.1) (q.2.2.1) (q.2.2.2.1) (q.2.2.2.2.1) (q.2.2.2.2.2.1) (q.2.2.2.2.2.2))) (fun q => p (q.1) (q.2.1) (q.2.2.1) (q.2.2.2.1) (q.2.2.2.2.1) (q.2.2.2.2.2.1) (q.2.2.2.2.2.2)) h1 (fun q hq => h2 (q.1) (q.2.1) (q.2.2.1) (q.2.2.2.1) (q.2.2.2.2.1) (q.2.2.2.2.2.1) (q.2.2.2.2.2.2) hq)

def Back8 {α1 α2 α3 α4 α5 α6 α7 α8 : Type} (N : Nat) (w0 : World) (G : α1 → α2 → α3 → α4 → α5 → α6 → α7 → α8 → List (Nat × Value)) (W : List Nat) (T : Frm) (B : List Res) (D : Nat) (M : α1 → α2 → α3 → α4 → α5 → α6 → α7 → α8 → List (Nat × Res)) (p : α1 → α2 → α3 → α4 → α5 → α6 → α7 → α8 → Prop) (a : Act) (w : World) : Prop := Back N w0 (fun q : α1 × α2 × α3 × α4 × α5 × α6 × α7 × α8 => fputs (G (q.1) (q.2.1) (q.2.2.1) (q.2.2.2.1) (q.2.2.2.2.1) (q.2.2.2.2.2.1) (q.2.2.2.2.2.2.1) (q.2.2.2.2.2.2.2)) (.drop W T)) (fun q => lsets (ldrop D B) (M (q.1) (q.2.1) (q.2.2.1) (q.2.2.2.1) (q.2.2.2.2.1) (q.2.2.2.2.2.1) (q.2.2.2.2.2.2.1) (q.2.2.2.2.2.2.2))) (fun q => p (q.1) (q.2.1) (q.2.2.1) (q.2.2.2.1) (q.2.2.2.2.1) (q.2.2.2.2.2.1) (q.2.2.2.2.2.2.1) (q.2.2.2.2.2.2.2)) a w
theorem tx_back8 {α1 α2 α3 α4 α5 α6 α7 α8 : Type} {G : α1 → α2 → α3 → α4 → α5 → α6 → α7 → α8 → List (Nat × Value)} {W : List Nat} {T : Frm} {M : α1 → α2 → α3 → α4 → α5 → α6 → α7 → α8 → List (Nat × Res)} {D : Nat} {B : List Res} {p : α1 → α2 → α3 → α4 → α5 → α6 → α7 → α8 → Prop} (x1 : α1) (x2 : α2) (x3 : α3) (x4 : α4) (x5 : α5) (x6 : α6) (x7 : α7) (x8 : α8) (hF : Cov N F (fputs (G x1 x2 x3 x4 x5 x6 x7 x8) .nil)) (hO : Over W T F) (hL : ∀ w, St w0 w L → St w0 w (lsets (ldrop D B) (M x1 x2 x3 x4 x5 x6 x7 x8))) (hp : p x1 x2 x3 x4 x5 x6 x7 x8) : TX N w0 (Exit.then (Back8 N w0 G W T B D M p) Q) .normal F L := fun _ w h1 h2 => ⟨(x1, x2, x3, x4, x5, x6, x7, x8), hp, h1.cov (cov_head hF hO), hL w h2⟩
/-- A loop, at whose head the slots of G are as G says, and all that it does not write (W) as before. -/
theorem tr_loop8 {α1 α2 α3 α4 α5 α6 α7 α8 : Type} (W : List Nat) (G : α1 → α2 → α3 → α4 → α5 → α6 → α7 → α8 → List (Nat × Value)) (D : Nat) (M : α1 → α2 → α3 → α4 → α5 → α6 → α7 → α8 → List (Nat × Res)) (p : α1 → α2 → α3 → α4 → α5 → α6 → α7 → α8 → Prop) (μ : α1 → α2 → α3 → α4 → α5 → α6 → α7 → α8 → Nat) (x1 : α1) (x2 : α2) (x3 : α3) (x4 : α4) (x5 : α5) (x6 : α6) (x7 : α7) (x8 : α8) (hF : Cov N F (fputs (G x1 x2 x3 x4 x5 x6 x7 x8) .nil)) (hL : ∀ w, St w0 w L → St w0 w (lsets (ldrop D L) (M x1 x2 x3 x4 x5 x6 x7 x8))) (hp : p x1 x2 x3 x4 x5 x6 x7 x8)
    (h : ∀ x1 x2 x3 x4 x5 x6 x7 x8, p x1 x2 x3 x4 x5 x6 x7 x8 → TR P N w0 (Exit.then (Back8 N w0 G W F L D M (fun y1 y2 y3 y4 y5 y6 y7 y8 => p y1 y2 y3 y4 y5 y6 y7 y8 ∧ μ y1 y2 y3 y4 y5 y6 y7 y8 < μ x1 x2 x3 x4 x5 x6 x7 x8)) Q) c (fputs (G x1 x2 x3 x4 x5 x6 x7 x8) (.drop W F)) (lsets (ldrop D L) (M x1 x2 x3 x4 x5 x6 x7 x8))) : TR P N w0 Q (.loop c) F L :=
  tr_loopP (fun q : α1 × α2 × α3 × α4 × α5 × α6 × α7 × α8 => fputs (G (q.1) (q.2.1) (q.2.2.1) (q.2.2.2.1) (q.2.2.2.2.1) (q.2.2.2.2.2.1) (q.2.2.2.2.2.2.1) (q.2.2.2.2.2.2.2)) (.drop W F)) (fun q => lsets (ldrop D L) (M (q.1) (q.2.1) (q.2.2.1) (q.2.2.2.1) (q.2.2.2.2.1) (q.2.2.2.2.2.1) (q.2.2.2.2.2.2.1) (q.2.2.2.2.2.2.2))) (fun q => p (q.1) (q.2.1) (q.2.2.1) (q.2.2.2.1) (q.2.2.2.2.1) (q.2.2.2.2.2.1) (q.2.2.2.2.2.2.1) (q.2.2.2.2.2.2.2)) (fun q => μ (q.1) (q.2.1) (q.2.2.1) (q.2.2.2.1) (q.2.2.2.2.1) (q.2.2.2.2.2.1) (q.2.2.2.2.2.2.1) (q.2.2.2.2.2.2.2)) (x1, x2, x3, x4, x5, x6, x7, x8) (cov_head hF over_nil) hL hp (fun q hq => h (q.1) (q.2.1) (q.2.2.1) (q.2.2.2.1) (q.2.2.2.2.1) (q.2.2.2.2.2.1) (q.2.2.2.2.2.2.1) (q.2.2.2.2.2.2.2) hq)
/-- A cut: what follows is walked once. -/
theorem tr_cut8 {α1 α2 α3 α4 α5 α6 α7 α8 : Type} (W : List Nat) (G : α1 → α2 → α3 → α4 → α5 → α6 → α7 → α8 → List (Nat × Value)) (D : Nat) (M : α1 → α2 → α3 → α4 → α5 → α6 → α7 → α8 → List (Nat × Res)) (p : α1 → α2 → α3 → α4 → α5 → α6 → α7 → α8 → Prop) (h1 : TR P N w0 (Exit.then (Back8 N w0 G W F L D M p) Q) x F L) (h2 : ∀ x1 x2 x3 x4 x5 x6 x7 x8, p x1 x2 x3 x4 x5 x6 x7 x8 → TR P N w0 Q y (fputs (G x1 x2 x3 x4 x5 x6 x7 x8) (.drop W F)) (lsets (ldrop D L) (M x1 x2 x3 x4 x5 x6 x7 x8))) : TR P N w0 Q (.seq x y) F L :=
  tr_cut (fun q : α1 × α2 × α3 × α4 × α5 × α6 × α7 × α8 => fputs (G (q.1) (q.2.1) (q.2.2.1) (q.2.2.2.1) (q.2.2.2.2.1) (q.2.2.2.2.2.1) (q.2.2.2.2.2.2.1) (q.2.2.2.2.2.2.2)) (.drop W F)) (fun q => lsets (ldrop D L) (M (q.1) (q.2.1) (q.2.2.1) (q.2.2.2.1) (q.2.2.2.2.1) (q.2.2.2.2.2.1) (q.2.2.2.2.2.2.1) (q.2.2.2.2.2.2.2))) (fun q => p (q.1) (q.2.1) (q.2.2.1) (q.2.2.2.1) (q.2.2.2.2.1) (q.2.2.2.2.2.1) (q.2.2.2.2.2.2.1) (q.2.2.2.2.2.2.2)) h1 (fun q hq => h2 (q.1) (q.2.1) (q.2.2.1) (q.2.2.2.1) (q.2.2.2.2.1) (q.2.2.2.2.2.1) (q.2.2.2.2.2.2.1) (q.2.2.2.2.2.2.2) hq)


def Back9 {α1 α2 α3 α4 α5 α6 α7 α8 α9 : Type} (N : Nat) (w0 : World) (G : α1 → α2 → α3 → α4 → α5 → α6 → α7 → α8 → α9 → List (Nat × Value)) (W : List Nat) (T : Frm) (B : List Res) (D : Nat) (M : α1 → α2 → α3 → α4 → α5 → α6 → α7 → α8 → α9 → List (Nat × Res)) (p : α1 → α2 → α3 → α4 → α5 → α6 → α7 → α8 → α9 → Prop) (a : Act) (w : World) : Prop := Back N w0 (fun q : α1 × α2 × α3 × α4 × α5 × α6 × α7 × α8 × α9 => fputs (G (q.1) (q.2.1) (q.2.2.1) (q.2.2.2.1) (q.2.2.2.2.1) (q.2.2.2.2.2.1) (q.2.2.2.2.2.2.1) (q.2.2.2.2.2.2.2.1) (q.2.2.2.2.2.2.2.2)) (.drop W T)) (fun q => lsets (ldrop D B) (M (q.1) (q.2.1) (q.2.2.1) (q.2.2.2.1) (q.2.2.2.2.1) (q.2.2.2.2.2.1) (q.2.2.2.2.2.2.1) (q.2.2.2.2.2.2.2.1) (q.2.2.2.2.2.2.2.2))) (fun q => p (q.1) (q.2.1) (q.2.2.1) (q.2.2.2.1) (q.2.2.2.2.1) (q.2.2.2.2.2.1) (q.2.2.2.2.2.2.1) (q.2.2.2.2.2.2.2.1) (q.2.2.2.2.2.2.2.2)) a w
theorem tx_back9 {α1 α2 α3 α4 α5 α6 α7 α8 α9 : Type} {G : α1 → α2 → α3 → α4 → α5 → α6 → α7 → α8 → α9 → List (Nat × Value)} {W : List Nat} {T : Frm} {M : α1 → α2 → α3 → α4 → α5 → α6 → α7 → α8 → α9 → List (Nat × Res)} {D : Nat} {B : List Res} {p : α1 → α2 → α3 → α4 → α5 → α6 → α7 → α8 → α9 → Prop} (x1 : α1) (x2 : α2) (x3 : α3) (x4 : α4) (x5 : α5) (x6 : α6) (x7 : α7) (x8 : α8) (x9 : α9) (hF : Cov N F (fputs (G x1 x2 x3 x4 x5 x6 x7 x8 x9) .nil)) (hO : Over W T F) (hL : ∀ w, St w0 w L → St w0 w (lsets (ldrop D B) (M x1 x2 x3 x4 x5 x6 x7 x8 x9))) (hp : p x1 x2 x3 x4 x5 x6 x7 x8 x9) : TX N w0 (Exit.then (Back9 N w0 G W T B D M p) Q) .normal F L := fun _ w h1 h2 => ⟨(x1, x2, x3, x4, x5, x6, x7, x8, x9), hp, h1.cov (cov_head hF hO), hL w h2⟩
theorem tr_loop9 {α1 α2 α3 α4 α5 α6 α7 α8 α9 : Type} (W : List Nat) (G : α1 → α2 → α3 → α4 → α5 → α6 → α7 → α8 → α9 → List (Nat × Value)) (D : Nat) (M : α1 → α2 → α3 → α4 → α5 → α6 → α7 → α8 → α9 → List (Nat × Res)) (p : α1 → α2 → α3 → α4 → α5 → α6 → α7 → α8 → α9 → Prop) (μ : α1 → α2 → α3 → α4 → α5 → α6 → α7 → α8 → α9 → Nat) (x1 : α1) (x2 : α2) (x3 : α3) (x4 : α4) (x5 : α5) (x6 : α6) (x7 : α7) (x8 : α8) (x9 : α9) (hF : Cov N F (fputs (G x1 x2 x3 x4 x5 x6 x7 x8 x9) .nil)) (hL : ∀ w, St w0 w L → St w0 w (lsets (ldrop D L) (M x1 x2 x3 x4 x5 x6 x7 x8 x9))) (hp : p x1 x2 x3 x4 x5 x6 x7 x8 x9)
    (h : ∀ x1 x2 x3 x4 x5 x6 x7 x8 x9, p x1 x2 x3 x4 x5 x6 x7 x8 x9 → TR P N w0 (Exit.then (Back9 N w0 G W F L D M (fun y1 y2 y3 y4 y5 y6 y7 y8 y9 => p y1 y2 y3 y4 y5 y6 y7 y8 y9 ∧ μ y1 y2 y3 y4 y5 y6 y7 y8 y9 < μ x1 x2 x3 x4 x5 x6 x7 x8 x9)) Q) c (fputs (G x1 x2 x3 x4 x5 x6 x7 x8 x9) (.drop W F)) (lsets (ldrop D L) (M x1 x2 x3 x4 x5 x6 x7 x8 x9))) : TR P N w0 Q (.loop c) F L :=
  tr_loopP (fun q : α1 × α2 × α3 × α4 × α5 × α6 × α7 × α8 × α9 => fputs (G (q.1) (q.2.1) (q.2.2.1) (q.2.2.2.1) (q.2.2.2.2.1) (q.2.2.2.2.2.1) (q.2.2.2.2.2.2.1) (q.2.2.2.2.2.2.2.1) (q.2.2.2.2.2.2.2.2)) (.drop W F)) (fun q => lsets (ldrop D L) (M (q.1) (q.2.1) (q.2.2.1) (q.2.2.2.1) (q.2.2.2.2.1) (q.2.2.2.2.2.1) (q.2.2.2.2.2.2.1) (q.2.2.2.2.2.2.2.1) (q.2.2.2.2.2.2.2.2))) (fun q => p (q.1) (q.2.1) (q.2.2.1) (q.2.2.2.1) (q.2.2.2.2.1) (q.2.2.2.2.2.1) (q.2.2.2.2.2.2.1) (q.2.2.2.2.2.2.2.1) (q.2.2.2.2.2.2.2.2)) (fun q => μ (q.1) (q.2.1) (q.2.2.1) (q.2.2.2.1) (q.2.2.2.2.1) (q.2.2.2.2.2.1) (q.2.2.2.2.2.2.1) (q.2.2.2.2.2.2.2.1) (q.2.2.2.2.2.2.2.2)) (x1, x2, x3, x4, x5, x6, x7, x8, x9) (cov_head hF over_nil) hL hp (fun q hq => h (q.1) (q.2.1) (q.2.2.1) (q.2.2.2.1) (q.2.2.2.2.1) (q.2.2.2.2.2.1) (q.2.2.2.2.2.2.1) (q.2.2.2.2.2.2.2.1) (q.2.2.2.2.2.2.2.2) hq)
theorem tr_cut9 {α1 α2 α3 α4 α5 α6 α7 α8 α9 : Type} (W : List Nat) (G : α1 → α2 → α3 → α4 → α5 → α6 → α7 → α8 → α9 → List (Nat × Value)) (D : Nat) (M : α1 → α2 → α3 → α4 → α5 → α6 → α7 → α8 → α9 → List (Nat × Res)) (p : α1 → α2 → α3 → α4 → α5 → α6 → α7 → α8 → α9 → Prop) (h1 : TR P N w0 (Exit.then (Back9 N w0 G W F L D M p) Q) x F L) (h2 : ∀ x1 x2 x3 x4 x5 x6 x7 x8 x9, p x1 x2 x3 x4 x5 x6 x7 x8 x9 → TR P N w0 Q y (fputs (G x1 x2 x3 x4 x5 x6 x7 x8 x9) (.drop W F)) (lsets (ldrop D L) (M x1 x2 x3 x4 x5 x6 x7 x8 x9))) : TR P N w0 Q (.seq x y) F L :=
  tr_cut (fun q : α1 × α2 × α3 × α4 × α5 × α6 × α7 × α8 × α9 => fputs (G (q.1) (q.2.1) (q.2.2.1) (q.2.2.2.1) (q.2.2.2.2.1) (q.2.2.2.2.2.1) (q.2.2.2.2.2.2.1) (q.2.2.2.2.2.2.2.1) (q.2.2.2.2.2.2.2.2)) (.drop W F)) (fun q => lsets (ldrop D L) (M (q.1) (q.2.1) (q.2.2.1) (q.2.2.2.1) (q.2.2.2.2.1) (q.2.2.2.2.2.1) (q.2.2.2.2.2.2.1) (q.2.2.2.2.2.2.2.1) (q.2.2.2.2.2.2.2.2))) (fun q => p (q.1) (q.2.1) (q.2.2.1) (q.2.2.2.1) (q.2.2.2.2.1) (q.2.2.2.2.2.1) (q.2.2.2.2.2.2.1) (q.2.2.2.2.2.2.2.1) (q.2.2.2.2.2.2.2.2)) h1 (fun q hq => h2 (q.1) (q.2.1) (q.2.2.1) (q.2.2.2.1) (q.2.2.2.2.1) (q.2.2.2.2.2.1) (q.2.2.2.2.2.2.1) (q.2.2.2.2.2.2.2.1) (q.2.2.2.2.2.2.2.2) hq)

def Back10 {α1 α2 α3 α4 α5 α6 α7 α8 α9 α10 : Type} (N : Nat) (w0 : World) (G : α1 → α2 → α3 → α4 → α5 → α6 → α7 → α8 → α9 → α10 → List (Nat × Value)) (W : List Nat) (T : Frm) (B : List Res) (D : Nat) (M : α1 → α2 → α3 → α4 → α5 → α6 → α7 → α8 → α9 → α10 → List (Nat × Res)) (p : α1 → α2 → α3 → α4 → α5 → α6 → α7 → α8 → α9 → α10 → Prop) (a : Act) (w : World) : Prop := Back N w0 (fun q : α1 × α2 × α3 × α4 × α5 × α6 × α7 × α8 × α9 × α10 => fputs (G (q.1) (q.2.1) (q.2.2.1) (q.2.2.2.1) (q.2.2.2.2.1) (q.2.2.2.2.2.1) (q.2.2.2.2.2.2.1) (q.2.2.2.2.2.2.2.1) (q.2.2.2.2.2.2.2.2.1) (q.2.2.2.2.2.2.2.2.2)) (.drop W T)) (fun q => lsets (ldrop D B) (M (q.1) (q.2.1) (q.2.2.1) (q.2.2.2.1) (q.2.2.2.2.1) (q.2.2.2.2.2.1) (q.2.2.2.2.2.2.1) (q.2.2.2.2.2.2.2.1) (q.2.2.2.2.2.2.2.2.1) (q.2.2.2.2.2.2.2.2.2))) (fun q => p (q.1) (q.2.1) (q.2.2.1) (q.2.2.2.1) (q.2.2.2.2.1) (q.2.2.2.2.2.1) (q.2.2.2.2.2.2.1) (q.2.2.2.2.2.2.2.1) (q.2.2.2.2.2.2.2.2.1) (q.2.2.2.2.2.2.2.2.2)) a w
theorem tx_back10 {α1 α2 α3 α4 α5 α6 α7 α8 α9 α10 : Type} {G : α1 → α2 → α3 → α4 → α5 → α6 → α7 → α8 → α9 → α10 → List (Nat × Value)} {W : List Nat} {T : Frm} {M : α1 → α2 → α3 → α4 → α5 → α6 → α7 → α8 → α9 → α10 → List (Nat × Res)} {D : Nat} {B : List Res} {p : α1 → α2 → α3 → α4 → α5 → α6 → α7 → α8 → α9 → α10 → Prop} (x1 : α1) (x2 : α2) (x3 : α3) (x4 : α4) (x5 : α5) (x6 : α6) (x7 : α7) (x8 : α8) (x9 : α9) (x10 : α10) (hF : Cov N F (fputs (G x1 x2 x3 x4 x5 x6 x7 x8 x9 x10) .nil)) (hO : Over W T F) (hL : ∀ w, St w0 w L → St w0 w (lsets (ldrop D B) (M x1 x2 x3 x4 x5 x6 x7 x8 x9 x10))) (hp : p x1 x2 x3 x4 x5 x6 x7 x8 x9 x10) : TX N w0 (Exit.then (Back10 N w0 G W T B D M p) Q) .normal F L := fun _ w h1 h2 => ⟨(x1, x2, x3, x4, x5, x6, x7, x8, x9, x10), hp, h1.cov (cov_head hF hO), hL w h2⟩
theorem tr_loop10 {α1 α2 α3 α4 α5 α6 α7 α8 α9 α10 : Type} (W : List Nat) (G : α1 → α2 → α3 → α4 → α5 → α6 → α7 → α8 → α9 → α10 → List (Nat × Value)) (D : Nat) (M : α1 → α2 → α3 → α4 → α5 → α6 → α7 → α8 → α9 → α10 → List (Nat × Res)) (p : α1 → α2 → α3 → α4 → α5 → α6 → α7 → α8 → α9 → α10 → Prop) (μ : α1 → α2 → α3 → α4 → α5 → α6 → α7 → α8 → α9 → α10 → Nat) (x1 : α1) (x2 : α2) (x3 : α3) (x4 : α4) (x5 : α5) (x6 : α6) (x7 : α7) (x8 : α8) (x9 : α9) (x10 : α10) (hF : Cov N F (fputs (G x1 x2 x3 x4 x5 x6 x7 x8 x9 x10) .nil)) (hL : ∀ w, St w0 w L → St w0 w (lsets (ldrop D L) (M x1 x2 x3 x4 x5 x6 x7 x8 x9 x10))) (hp : p x1 x2 x3 x4 x5 x6 x7 x8 x9 x10)
    (h : ∀ x1 x2 x3 x4 x5 x6 x7 x8 x9 x10, p x1 x2 x3 x4 x5 x6 x7 x8 x9 x10 → TR P N w0 (Exit.then (Back10 N w0 G W F L D M (fun y1 y2 y3 y4 y5 y6 y7 y8 y9 y10 => p y1 y2 y3 y4 y5 y6 y7 y8 y9 y10 ∧ μ y1 y2 y3 y4 y5 y6 y7 y8 y9 y10 < μ x1 x2 x3 x4 x5 x6 x7 x8 x9 x10)) Q) c (fputs (G x1 x2 x3 x4 x5 x6 x7 x8 x9 x10) (.drop W F)) (lsets (ldrop D L) (M x1 x2 x3 x4 x5 x6 x7 x8 x9 x10))) : TR P N w0 Q (.loop c) F L :=
  tr_loopP (fun q : α1 × α2 × α3 × α4 × α5 × α6 × α7 × α8 × α9 × α10 => fputs (G (q.1) (q.2.1) (q.2.2.1) (q.2.2.2.1) (q.2.2.2.2.1) (q.2.2.2.2.2.1) (q.2.2.2.2.2.2.1) (q.2.2.2.2.2.2.2.1) (q.2.2.2.2.2.2.2.2.1) (q.2.2.2.2.2.2.2.2.2)) (.drop W F)) (fun q => lsets (ldrop D L) (M (q.1) (q.2.1) (q.2.2.1) (q.2.2.2.1) (q.2.2.2.2.1) (q.2.2.2.2.2.1) (q.2.2.2.2.2.2.1) (q.2.2.2.2.2.2.2.1) (q.2.2.2.2.2.2.2.2.1) (q.2.2.2.2.2.2.2.2.2))) (fun q => p (q.1) (q.2.1) (q.2.2.1) (q.2.2.2.1) (q.2.2.2.2.1) (q.2.2.2.2.2.1) (q.2.2.2.2.2.2.1) (q.2.2.2.2.2.2.2.1) (q.2.2.2.2.2.2.2.2.1) (q.2.2.2.2.2.2.2.2.2)) (fun q => μ (q.1) (q.2.1) (q.2.2.1) (q.2.2.2.1) (q.2.2.2.2.1) (q.2.2.2.2.2.1) (q.2.2.2.2.2.2.1) (q.2.2.2.2.2.2.2.1) (q.2.2.2.2.2.2.2.2.1) (q.2.2.2.2.2.2.2.2.2)) (x1, x2, x3, x4, x5, x6, x7, x8, x9, x10) (cov_head hF over_nil) hL hp (fun q hq => h (q.1) (q.2.1) (q.2.2.1) (q.2.2.2.1) (q.2.2.2.2.1) (q.2.2.2.2.2.1) (q.2.2.2.2.2.2.1) (q.2.2.2.2.2.2.2.1) (q.2.2.2.2.2.2.2.2.1) (q.2.2.2.2.2.2.2.2.2) hq)
theorem tr_cut10 {α1 α2 α3 α4 α5 α6 α7 α8 α9 α10 : Type} (W : List Nat) (G : α1 → α2 → α3 → α4 → α5 → α6 → α7 → α8 → α9 → α10 → List (Nat × Value)) (D : Nat) (M : α1 → α2 → α3 → α4 → α5 → α6 → α7 → α8 → α9 → α10 → List (Nat × Res)) (p : α1 → α2 → α3 → α4 → α5 → α6 → α7 → α8 → α9 → α10 → Prop) (h1 : TR P N w0 (Exit.then (Back10 N w0 G W F L D M p) Q) x F L) (h2 : ∀ x1 x2 x3 x4 x5 x6 x7 x8 x9 x10, p x1 x2 x3 x4 x5 x6 x7 x8 x9 x10 → TR P N w0 Q y (fputs (G x1 x2 x3 x4 x5 x6 x7 x8 x9 x10) (.drop W F)) (lsets (ldrop D L) (M x1 x2 x3 x4 x5 x6 x7 x8 x9 x10))) : TR P N w0 Q (.seq x y) F L :=
  tr_cut (fun q : α1 × α2 × α3 × α4 × α5 × α6 × α7 × α8 × α9 × α10 => fputs (G (q.1) (q.2.1) (q.2.2.1) (q.2.2.2.1) (q.2.2.2.2.1) (q.2.2.2.2.2.1) (q.2.2.2.2.2.2.1) (q.2.2.2.2.2.2.2.1) (q.2.2.2.2.2.2.2.2.1) (q.2.2.2.2.2.2.2.2.2)) (.drop W F)) (fun q => lsets (ldrop D L) (M (q.1) (q.2.1) (q.2.2.1) (q.2.2.2.1) (q.2.2.2.2.1) (q.2.2.2.2.2.1) (q.2.2.2.2.2.2.1) (q.2.2.2.2.2.2.2.1) (q.2.2.2.2.2.2.2.2.1) (q.2.2.2.2.2.2.2.2.2))) (fun q => p (q.1) (q.2.1) (q.2.2.1) (q.2.2.2.1) (q.2.2.2.2.1) (q.2.2.2.2.2.1) (q.2.2.2.2.2.2.1) (q.2.2.2.2.2.2.2.1) (q.2.2.2.2.2.2.2.2.1) (q.2.2.2.2.2.2.2.2.2)) h1 (fun q hq => h2 (q.1) (q.2.1) (q.2.2.1) (q.2.2.2.1) (q.2.2.2.2.1) (q.2.2.2.2.2.1) (q.2.2.2.2.2.2.1) (q.2.2.2.2.2.2.2.1) (q.2.2.2.2.2.2.2.2.1) (q.2.2.2.2.2.2.2.2.2) hq)

/-- The end. -/
theorem tx_ret {fn : Func} {R : Ending → World → Prop} (hr : ∀ a w, Fr N a F → St w0 w L → (results fn a.tmps).run P w = .ok v w) (h : ∀ w, St w0 w L → R (.returned v) w) : TX N w0 (bodyPost P fn R) .ret F L := fun a w hF hS =>
  ⟨hF.defers, v, hr a w hF hS, h w hS⟩
theorem tx_end {fn : Func} {R : Ending → World → Prop} (hr : ∀ a w, Fr N a F → St w0 w L → (results fn a.tmps).run P w = .ok v w) (h : ∀ w, St w0 w L → R (.returned v) w) : TX N w0 (bodyPost P fn R) .normal F L := fun a w hF hS =>
  ⟨hF.defers, v, hr a w hF hS, h w hS⟩
/-- One result in a slot, or what lies in a block of the call's own. -/
def rvSem (tmps : Array Value) : ResultVar → Sem Value
  | .tmp t => pure (tmps.getD t undef)
  | .cell b t => do loadVar t (← asAddr (tmps.getD b undef))
theorem results_eq (fn : Func) (tmps : Array Value) : results fn tmps = (do let vs ← fn.results.mapM (rvSem tmps); pure (if h : vs.size = 1 then vs[0] else .tuple vs)) := rfl
def ROK (P : Program) (N : Nat) (w0 : World) (F : Frm) (L : List Res) (r : ResultVar) (v : Value) : Prop :=
  ∀ a w, Fr N a F → St w0 w L → (rvSem a.tmps r).run P w = .ok v w
theorem rok_t {t : Nat} (h : fget N F t = some v) : ROK P N w0 F L (.tmp t) v := fun a w hF hS => by
  simp [rvSem, hF.at_ t v h]
theorem res1 {fn : Func} {r1 : ResultVar} {v1 : Value} (hf : fn.results = #[r1]) (h1 : ROK P N w0 F L r1 v1) : ∀ a w, Fr N a F → St w0 w L → (results fn a.tmps).run P w = .ok v1 w := fun a w hF hS => by
  have g1 := h1 a w hF hS
  simp [results_eq, hf, g1, Result.andThen]
theorem res2 {fn : Func} {r1 r2 : ResultVar} {v1 v2 : Value} (hf : fn.results = #[r1, r2]) (h1 : ROK P N w0 F L r1 v1) (h2 : ROK P N w0 F L r2 v2) : ∀ a w, Fr N a F → St w0 w L → (results fn a.tmps).run P w = .ok (.tuple #[v1, v2]) w := fun a w hF hS => by
  have g1 := h1 a w hF hS
  have g2 := h2 a w hF hS
  simp [results_eq, hf, g1, g2, Result.andThen]
theorem res3 {fn : Func} {r1 r2 r3 : ResultVar} {v1 v2 v3 : Value} (hf : fn.results = #[r1, r2, r3]) (h1 : ROK P N w0 F L r1 v1) (h2 : ROK P N w0 F L r2 v2) (h3 : ROK P N w0 F L r3 v3) : ∀ a w, Fr N a F → St w0 w L → (results fn a.tmps).run P w = .ok (.tuple #[v1, v2, v3]) w := fun a w hF hS => by
  have g1 := h1 a w hF hS
  have g2 := h2 a w hF hS
  have g3 := h3 a w hF hS
  simp [results_eq, hf, g1, g2, g3, Result.andThen]
theorem res4 {fn : Func} {r1 r2 r3 r4 : ResultVar} {v1 v2 v3 v4 : Value} (hf : fn.results = #[r1, r2, r3, r4]) (h1 : ROK P N w0 F L r1 v1) (h2 : ROK P N w0 F L r2 v2) (h3 : ROK P N w0 F L r3 v3) (h4 : ROK P N w0 F L r4 v4) : ∀ a w, Fr N a F → St w0 w L → (results fn a.tmps).run P w = .ok (.tuple #[v1, v2, v3, v4]) w := fun a w hF hS => by
  have g1 := h1 a w hF hS
  have g2 := h2 a w hF hS
  have g3 := h3 a w hF hS
  have g4 := h4 a w hF hS
  simp [results_eq, hf, g1, g2, g3, g4, Result.andThen]
theorem res5 {fn : Func} {r1 r2 r3 r4 r5 : ResultVar} {v1 v2 v3 v4 v5 : Value} (hf : fn.results = #[r1, r2, r3, r4, r5]) (h1 : ROK P N w0 F L r1 v1) (h2 : ROK P N w0 F L r2 v2) (h3 : ROK P N w0 F L r3 v3) (h4 : ROK P N w0 F L r4 v4) (h5 : ROK P N w0 F L r5 v5) : ∀ a w, Fr N a F → St w0 w L → (results fn a.tmps).run P w = .ok (.tuple #[v1, v2, v3, v4, v5]) w := fun a w hF hS => by
  have g1 := h1 a w hF hS
  have g2 := h2 a w hF hS
  have g3 := h3 a w hF hS
  have g4 := h4 a w hF hS
  have g5 := h5 a w hF hS
  simp [results_eq, hf, g1, g2, g3, g4, g5, Result.andThen]
end

/-- The start: the arguments lie in the first slots. -/
def ins : Nat → List Value → Frm
  | _, [] => .nil
  | k, v :: l => .put k v (ins (k + 1) l)
theorem fget_ins {N i : Nat} {u : Value} : ∀ (l : List Value) (k : Nat), fget N (ins k l) i = some u → k ≤ i ∧ l[i - k]? = some u
  | [], k, h => by simp [ins, fget, fgo] at h
  | v :: l, k, h => by
    simp only [ins, fget_cons] at h
    split at h
    · rename_i e
      subst e
      split at h
      · simp only [Option.some.injEq] at h
        subst h
        exact ⟨Nat.le_refl _, by simp⟩
      · cases h
    · have := fget_ins l (k + 1) h
      refine ⟨by omega, ?_⟩
      rw [show i - k = (i - (k + 1)) + 1 by omega]
      simpa using this.2
theorem calls_tr {P : Program} {f : FuncId} {fn : Func} {c : Code} {l : List Value} {w0 w : World} {R : Ending → World → Prop} {L : List Res} {N : Nat} (hf : P.funcs[f]? = some fn) (hn : fn.ntmps = N) (hb : fn.body = some c) (hl : Nat.ble l.length N = true) (hS : St w0 w L)
    (h : TR P N w0 (bodyPost P fn R) c (ins 0 l) L) : Calls P f l.toArray w R := by
  have hl' := Nat.le_of_ble_eq_true hl
  refine calls_of_wp hf hb (h _ _ ⟨rfl, by simp [hn]; omega, fun i v hv => ?_⟩ hS)
  have := (fget_ins l 0 hv).2
  simp only [Nat.sub_zero] at this
  have hi : i < l.length := (List.getElem?_eq_some_iff.1 this).1
  simp only [List.size_toArray]
  rw [Array.getElem?_append_left (by simpa using hi)]
  simpa using this
end Go.Proofs.Ytpknjfeiiaopgaa.E
