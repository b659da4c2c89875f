/- A table of keys, plain: what is done to it, and who is first. -/
import Derived.Test.YtpknjfeiiaopgaaHpV
namespace Go.Proofs.Ytpknjfeiiaopgaa.Heap
open Go.RowKit Go.Proofs.Ytpknjfeiiaopgaa.E Go.Proofs.Ytpknjfeiiaopgaa.Big

/-- A table: the keys of those that are held. -/
abbrev Tb := Int → Option (Int × Int)
def upd (f : Tb) (i : Int) (v : Option (Int × Int)) : Tb := fun j => if j = i then v else f j
def IsMin (f : Tb) (i : Int) : Prop := ∃ k, f i = some k ∧ ∀ i' k', f i' = some k' → i' ≠ i → lt3 (i, k) (i', k')
def Emp (f : Tb) : Prop := ∀ i, f i = none
theorem IsMin.uniq {f : Tb} {i j : Int} (h : IsMin f i) (h' : IsMin f j) : i = j := by
  obtain ⟨k, h1, h2⟩ := h
  obtain ⟨k', h3, h4⟩ := h'
  apply Classical.byContradiction
  intro hne
  exact lt3_asym (h2 j k' h3 (fun e => hne e.symm)) (h4 i k h1 hne)
open Classical in
/-- Who is first. -/
noncomputable def amin (f : Tb) : Int := if h : ∃ i, IsMin f i then Classical.choose h else 0
theorem amin_eq {f : Tb} {i : Int} (h : IsMin f i) : amin f = i := by
  have he : ∃ i, IsMin f i := ⟨i, h⟩
  unfold amin
  rw [dif_pos he]
  exact (Classical.choose_spec he).uniq h
/-- An operation. -/
structure Op4 where
  kind : Int
  id : Int
  hi : Int
  lo : Int
open Classical in
/-- What is wrong, and the table behind it. -/
noncomputable def err (f : Tb) (o : Op4) : Int :=
  if o.kind < 1 ∨ 4 < o.kind then 5
  else if o.kind = 1 then (if f o.id = none then 0 else 6)
  else if o.kind = 2 then (if Emp f then 3 else 0)
  else (if f o.id = none then 3 else 0)
open Classical in
noncomputable def nxt (f : Tb) (o : Op4) : Tb :=
  if err f o ≠ 0 then f
  else if o.kind = 2 then upd f (amin f) none
  else if o.kind = 3 then upd f o.id none
  else upd f o.id (some (o.hi, o.lo))
/-- The table, what was wrong, who was popped. -/
structure Rn where
  f : Tb
  errs : List Int
  pops : List Int
open Classical in
noncomputable def go (s : Rn) (o : Op4) : Rn := ⟨nxt s.f o, s.errs ++ [err s.f o], if err s.f o = 0 ∧ o.kind = 2 then s.pops ++ [amin s.f] else s.pops⟩
noncomputable def run (l : List Op4) : Rn := l.foldl go ⟨fun _ => none, [], []⟩
theorem run_take {l : List Op4} {k : Nat} (h : k < l.length) : run (l.take (k + 1)) = go (run (l.take k)) l[k] := by
  unfold run
  rw [List.take_succ_eq_append_getElem h, List.foldl_append]; rfl
/-- All of them, the first one first. -/
inductive Dr : Tb → List Int → Prop
  | nil {f : Tb} : Emp f → Dr f []
  | cons {f : Tb} {i : Int} {L : List Int} : IsMin f i → Dr (upd f i none) L → Dr f (i :: L)
theorem IsMin.not_emp {f : Tb} {i : Int} (h : IsMin f i) : ¬ Emp f := fun he => by
  obtain ⟨k, h1, _⟩ := h
  rw [he i] at h1; cases h1
theorem Dr.uniq {f : Tb} {L M : List Int} (h : Dr f L) (h' : Dr f M) : L = M := by
  induction h generalizing M with
  | nil he =>
    cases h' with
    | nil _ => rfl
    | cons hi _ => exact absurd he hi.not_emp
  | cons hi _ ih =>
    cases h' with
    | nil he => exact absurd he hi.not_emp
    | cons hj hr =>
      have := hi.uniq hj
      subst this
      rw [ih hr]

/-- The heap's items are the table's. -/
def Rf (l : List I3) (f : Tb) : Prop := ∀ i k, f i = some k ↔ (i, k) ∈ l
theorem Rf.inj {l : List I3} {f : Tb} (h : Rf l f) {x y : I3} (hx : x ∈ l) (hy : y ∈ l) (e : x.1 = y.1) : x = y := by
  obtain ⟨i, k⟩ := x
  obtain ⟨j, k'⟩ := y
  have h1 := (h i k).2 hx
  have h2 := (h j k').2 hy
  simp only at e
  subst e
  rw [h1] at h2
  cases h2
  rfl
theorem Rf.no {l : List I3} {f : Tb} (h : Rf l f) {i : Int} : f i = none ↔ ∀ x ∈ l, x.1 ≠ i := by
  constructor
  · rintro hn ⟨j, k⟩ hx rfl
    have := (h j k).2 hx
    simp only at hn
    rw [hn] at this; cases this
  · intro hn
    cases hf : f i with
    | none => rfl
    | some k => exact absurd rfl (hn (i, k) ((h i k).1 hf))
theorem Rf.emp {l : List I3} {f : Tb} (h : Rf l f) : Emp f ↔ l.length = 0 := by
  constructor
  · intro he
    cases l with
    | nil => rfl
    | cons x l =>
      obtain ⟨i, k⟩ := x
      have := (h i k).2 (by simp)
      rw [he i] at this; cases this
  · intro hl i
    have : l = [] := List.eq_nil_of_length_eq_zero hl
    subst this
    exact h.no.2 (by simp)
/-- The root is the first one. -/
theorem Rf.root {l : List I3} {f : Tb} (h : Rf l f) (hp : Hp l) (h0 : 0 < l.length) : IsMin f (gl l 0).1 := by
  have hm : gl l 0 ∈ l := mem_gl.2 ⟨0, h0, rfl⟩
  refine ⟨(gl l 0).2, (h _ _).2 hm, fun i k hi hne => ?_⟩
  obtain ⟨q, hq, e⟩ := mem_gl.1 ((h i k).1 hi)
  have := hp.root q hq
  rw [e] at this
  exact lt3_tot this (fun e2 => hne e2)
theorem Rf.del {l l' : List I3} {f : Tb} (h : Rf l f) {x : I3} (hx : x ∈ l) (hl : ∀ y, y ∈ l' ↔ y ∈ l ∧ y ≠ x) : Rf l' (upd f x.1 none) := fun i k => by
  unfold upd
  rw [hl]
  split
  · rename_i e
    subst e
    constructor
    · intro h1; cases h1
    · rintro ⟨h1, h2⟩
      exact absurd (h.inj h1 hx rfl) h2
  · rename_i e
    rw [h i k]
    exact ⟨fun h1 => ⟨h1, fun e2 => e (by rw [← e2])⟩, fun h1 => h1.1⟩
theorem Rf.add {l l' : List I3} {f : Tb} (h : Rf l f) {i : Int} {k : Int × Int} (hn : f i = none) (hl : ∀ y, y ∈ l' ↔ y ∈ l ∨ y = (i, k)) : Rf l' (upd f i (some k)) := fun j k' => by
  unfold upd
  rw [hl]
  split
  · rename_i e
    subst e
    constructor
    · intro h1; cases h1; exact .inr rfl
    · rintro (h1 | h1)
      · rw [(h j k').2 h1] at hn; cases hn
      · cases h1; rfl
  · rename_i e
    rw [h j k']
    exact ⟨fun h1 => .inl h1, fun h1 => h1.resolve_right (fun e2 => e (by cases e2; rfl))⟩
theorem Rf.put {l l' : List I3} {f : Tb} (h : Rf l f) {i : Int} {k k0 : Int × Int} (hx : (i, k0) ∈ l) (hl : ∀ y, y ∈ l' ↔ (y ∈ l ∧ y ≠ (i, k0)) ∨ y = (i, k)) : Rf l' (upd f i (some k)) := fun j k' => by
  unfold upd
  rw [hl]
  split
  · rename_i e
    subst e
    constructor
    · intro h1; cases h1; exact .inr rfl
    · rintro (⟨h1, h2⟩ | h1)
      · exact absurd (h.inj h1 hx rfl) h2
      · cases h1; rfl
  · rename_i e
    rw [h j k']
    exact ⟨fun h1 => .inl ⟨h1, fun e2 => e (by cases e2; rfl)⟩, fun h1 => by
      rcases h1 with h1 | h1
      · exact h1.1
      · exact absurd (by cases h1; rfl) e⟩
/-- Behind the taking of the item at k. -/
theorem cut_facts {l : List I3} {m1 : Mp} {k n : Nat} (hlen : l.length = n + 1) (hk : k ≤ n) (hin : Inj l) (hm1 : MapOk (swp l k n) m1) (hnd : (keys m1).Nodup) :
    ((swp l k n).take n).length = n ∧ Inj ((swp l k n).take n) ∧ MapOk ((swp l k n).take n) (mdel m1 (gl (swp l k n) n).1) ∧ gl (swp l k n) n = gl l k ∧ ∀ x, x ∈ (swp l k n).take n ↔ x ∈ l ∧ x ≠ gl l k := by
  have hin2 := hin.swp (i := k) (j := n) (by omega) (by omega)
  have hl2 : (swp l k n).length = n + 1 := by rw [swp_len]; exact hlen
  have hl : ((swp l k n).take n).length = n := by rw [List.length_take]; omega
  have hg : gl (swp l k n) n = gl l k := by rw [swp_get (by omega) (by omega), if_pos rfl]
  refine ⟨hl, fun i j hi hj e => ?_, ⟨fun i hi => ?_, fun id v hv => ?_⟩, hg, fun x => ?_⟩
  · rw [hl] at hi hj
    rw [take_get hi, take_get hj] at e
    exact hin2 i j (by omega) (by omega) e
  · rw [hl] at hi
    rw [take_get hi, mdel_get hnd]
    split
    · rename_i e
      have := hin2 i n (by omega) (by omega) e
      omega
    · exact hm1.1 i (by omega)
  · rw [mdel_get hnd] at hv
    split at hv
    · cases hv
    · rename_i hne
      obtain ⟨i, hi, e⟩ := hm1.2 id v hv
      have : i ≠ n := fun e2 => hne (by rw [← e, e2])
      exact ⟨i, by omega, by rw [take_get (by omega)]; exact e⟩
  · rw [← swp_mem (l := l) (i := k) (j := n) (by omega) (by omega) x, mem_gl, mem_gl, hl, hl2]
    constructor
    · rintro ⟨i, hi, e⟩
      rw [take_get hi] at e
      refine ⟨⟨i, by omega, e⟩, fun e2 => ?_⟩
      have := hin2 i n (by omega) (by omega) (by rw [e, e2, hg])
      omega
    · rintro ⟨⟨i, hi, e⟩, hne⟩
      have : i ≠ n := fun e2 => hne (by rw [← e, e2, hg])
      exact ⟨i, by omega, by rw [take_get (by omega)]; exact e⟩
/-- A new item at the end. -/
theorem push_facts {l : List I3} {m : Mp} {n : Nat} {x : I3} (hlen : l.length = n) (hin : Inj l) (hm : MapOk l m) (hno : ∀ y ∈ l, y.1 ≠ x.1) : Inj (l ++ [x]) ∧ MapOk (l ++ [x]) (mput m x.1 (.int .i64 ((n : Int)))) ∧ ∀ y, y ∈ l ++ [x] ↔ y ∈ l ∨ y = x := by
  have hg : ∀ i, i < n → gl (l ++ [x]) i = gl l i := fun i hi => by simp [gl, List.getD_eq_getElem?_getD, List.getElem?_append_left (show i < l.length by omega)]
  have hgn : gl (l ++ [x]) n = x := by simp [gl, List.getD_eq_getElem?_getD, ← hlen]
  have hne : ∀ i, i < n → (gl l i).1 ≠ x.1 := fun i hi => hno _ (mem_gl.2 ⟨i, by omega, rfl⟩)
  have hll : (l ++ [x]).length = n + 1 := by simp [hlen]
  refine ⟨fun i j hi hj e => ?_, ⟨fun i hi => ?_, fun id v hv => ?_⟩, fun y => by simp⟩
  · rw [hll] at hi hj
    by_cases h1 : i = n <;> by_cases h2 : j = n
    · omega
    · rw [h1, hgn, hg j (by omega)] at e; exact absurd e.symm (hne j (by omega))
    · rw [h2, hgn, hg i (by omega)] at e; exact absurd e (hne i (by omega))
    · rw [hg i (by omega), hg j (by omega)] at e; exact hin i j (by omega) (by omega) e
  · rw [hll] at hi
    by_cases h1 : i = n
    · rw [h1, hgn, mput_get, if_pos rfl]
    · rw [hg i (by omega), mput_get, if_neg (hne i (by omega))]
      exact hm.1 i (by omega)
  · rw [mput_get] at hv
    split at hv
    · rename_i e; exact ⟨n, by omega, by rw [hgn, e]⟩
    · obtain ⟨i, hi, e⟩ := hm.2 id v hv
      exact ⟨i, by omega, by rw [hg i (by omega)]; exact e⟩
/-- Another key for the item at k. -/
theorem put_facts {l : List I3} {m : Mp} {n k : Nat} {x : I3} (hlen : l.length = n) (hk : k < n) (hin : Inj l) (hm : MapOk l m) (hx : x.1 = (gl l k).1) : Inj (l.set k x) ∧ MapOk (l.set k x) m ∧ ∀ y, y ∈ l.set k x ↔ (y ∈ l ∧ y ≠ gl l k) ∨ y = x := by
  have hg : ∀ i, gl (l.set k x) i = if i = k then x else gl l i := fun i => by
    unfold gl
    rw [List.getD_eq_getElem?_getD, List.getElem?_set]
    by_cases h : i = k
    · subst h; simp [show i < l.length by omega]
    · rw [if_neg (fun e => h e.symm), if_neg h]; simp [List.getD_eq_getElem?_getD]
  have hg1 : ∀ i, (gl (l.set k x) i).1 = (gl l i).1 := fun i => by
    rw [hg]; split
    · rename_i e; rw [e, hx]
    · rfl
  have hll : (l.set k x).length = n := by simp [hlen]
  refine ⟨fun i j hi hj e => ?_, ⟨fun i hi => ?_, fun id v hv => ?_⟩, fun y => ?_⟩
  · rw [hg1, hg1] at e
    exact hin i j (by omega) (by omega) e
  · rw [hg1]; exact hm.1 i (by omega)
  · obtain ⟨i, hi, e⟩ := hm.2 id v hv
    exact ⟨i, by omega, by rw [hg1]; exact e⟩
  · rw [mem_gl, mem_gl]
    constructor
    · rintro ⟨i, hi, e⟩
      rw [hg] at e
      split at e
      · exact .inr e.symm
      · rename_i hne
        refine .inl ⟨⟨i, by omega, e⟩, fun e2 => hne (hin i k (by omega) (by omega) (by rw [e, e2]))⟩
    · rintro (⟨⟨i, hi, e⟩, hne⟩ | e)
      · exact ⟨i, by omega, by rw [hg, if_neg (fun e2 => hne (by rw [← e, e2]))]; exact e⟩
      · exact ⟨k, by omega, by rw [hg, if_pos rfl]; exact e.symm⟩
end Go.Proofs.Ytpknjfeiiaopgaa.Heap
