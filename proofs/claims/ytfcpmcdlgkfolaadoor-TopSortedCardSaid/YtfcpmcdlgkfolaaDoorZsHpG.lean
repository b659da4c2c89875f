/- Heaps, plain. -/
import Derived.Test.YtfcpmcdlgkfolaaDoorZsMem
import Derived.Test.YtfcpmcdlgkfolaaDoorZsEM
import Derived.Test.YtfcpmcdlgkfolaaDoorZsEU
import Derived.Test.YtfcpmcdlgkfolaaDoorZsFlO
import Derived.Test.YtfcpmcdlgkfolaaDoorZsBigF
import Derived.Test.YtfcpmcdlgkfolaaDoorZsEF
namespace Go.Proofs.YtfcpmcdlgkfolaaDoor.Heap

abbrev I3 := Int × Int × Int
/-- Which one is first: by the key, then by the number. -/
def lt3 (a b : I3) : Prop := a.2.1 < b.2.1 ∨ (a.2.1 = b.2.1 ∧ (a.2.2 < b.2.2 ∨ (a.2.2 = b.2.2 ∧ a.1 < b.1)))
instance (a b : I3) : Decidable (lt3 a b) := by unfold lt3; infer_instance
def d3 : I3 := (0, 0, 0)
def gl (l : List I3) (i : Nat) : I3 := l.getD i d3
theorem gl_lt {l : List I3} {i : Nat} (h : i < l.length) : gl l i = l[i] := by simp [gl, List.getD_eq_getElem?_getD, h]
theorem lt3_trans {a b c : I3} (h1 : ¬ lt3 a b) (h2 : ¬ lt3 b c) : ¬ lt3 a c := by unfold lt3 at *; omega
theorem lt3_asym {a b : I3} (h : lt3 a b) : ¬ lt3 b a := by unfold lt3 at *; omega
theorem lt3_irr (a : I3) : ¬ lt3 a a := by unfold lt3; omega
theorem lt3_tot {a b : I3} (h : ¬ lt3 a b) (hne : a.1 ≠ b.1) : lt3 b a := by unfold lt3 at *; omega
theorem lt3_tr {a b c : I3} (h1 : lt3 a b) (h2 : lt3 b c) : lt3 a c := by unfold lt3 at *; omega

def Hp (l : List I3) : Prop := ∀ i, 0 < i → i < l.length → ¬ lt3 (gl l i) (gl l ((i - 1) / 2))
/-- A heap but for the place k. -/
structure AH (l : List I3) (k : Nat) : Prop where
  lt : k < l.length
  ok : ∀ i, 0 < i → i < l.length → i ≠ k → (i - 1) / 2 ≠ k → ¬ lt3 (gl l i) (gl l ((i - 1) / 2))
  gp : ∀ c, 0 < c → c < l.length → (c - 1) / 2 = k → 0 < k → ¬ lt3 (gl l c) (gl l ((k - 1) / 2))
/-- A heap but for what lies under the place k. -/
structure DH (l : List I3) (k : Nat) : Prop where
  lt : k < l.length
  ok : ∀ i, 0 < i → i < l.length → (i - 1) / 2 ≠ k → ¬ lt3 (gl l i) (gl l ((i - 1) / 2))
  gp : ∀ c, 0 < c → c < l.length → (c - 1) / 2 = k → 0 < k → ¬ lt3 (gl l c) (gl l ((k - 1) / 2))
theorem Hp.root {l : List I3} (h : Hp l) : ∀ i, i < l.length → ¬ lt3 (gl l i) (gl l 0) := by
  intro i
  induction i using Nat.strongRecOn with
  | ind i ih =>
    intro hi
    by_cases h0 : i = 0
    · subst h0; exact lt3_irr _
    · exact lt3_trans (h i (by omega) hi) (ih ((i - 1) / 2) (by omega) (by omega))

def swp (l : List I3) (i j : Nat) : List I3 := (l.set i (gl l j)).set j (gl l i)
theorem swp_len (l : List I3) (i j : Nat) : (swp l i j).length = l.length := by simp [swp]
theorem swp_get {l : List I3} {i j : Nat} (hi : i < l.length) (hj : j < l.length) (x : Nat) : gl (swp l i j) x = if x = j then gl l i else if x = i then gl l j else gl l x := by
  unfold swp
  show ((l.set i (gl l j)).set j (gl l i)).getD x d3 = _
  rw [List.getD_eq_getElem?_getD, List.getElem?_set, List.getElem?_set]
  by_cases h1 : x = j
  · subst h1
    simp [hj]
  · rw [if_neg (fun e => h1 e.symm), if_neg h1]
    by_cases h2 : x = i
    · subst h2
      simp [hi]
    · rw [if_neg (fun e => h2 e.symm), if_neg h2]
      simp [gl, List.getD_eq_getElem?_getD]
theorem mem_gl {l : List I3} {x : I3} : x ∈ l ↔ ∃ i, i < l.length ∧ gl l i = x := by
  rw [List.mem_iff_getElem]
  constructor
  · rintro ⟨i, hi, h⟩; exact ⟨i, hi, by rw [gl_lt hi]; exact h⟩
  · rintro ⟨i, hi, h⟩; exact ⟨i, hi, by rw [gl_lt hi] at h; exact h⟩
theorem swp_mem {l : List I3} {i j : Nat} (hi : i < l.length) (hj : j < l.length) (x : I3) : x ∈ swp l i j ↔ x ∈ l := by
  rw [mem_gl, mem_gl, swp_len]
  constructor
  · rintro ⟨q, hq, h⟩
    rw [swp_get hi hj] at h
    split at h
    · exact ⟨i, hi, h⟩
    · split at h
      · exact ⟨j, hj, h⟩
      · exact ⟨q, hq, h⟩
  · rintro ⟨q, hq, h⟩
    by_cases h1 : q = i
    · subst h1
      exact ⟨j, hj, by rw [swp_get hi hj, if_pos rfl]; exact h⟩
    · by_cases h2 : q = j
      · subst h2
        refine ⟨i, hi, ?_⟩
        rw [swp_get hi hj]
        split
        · rename_i e; exact absurd e.symm h1
        · rw [if_pos rfl]; exact h
      · exact ⟨q, hq, by rw [swp_get hi hj, if_neg h2, if_neg h1]; exact h⟩
/-- No number twice. -/
def Inj (l : List I3) : Prop := ∀ i j, i < l.length → j < l.length → (gl l i).1 = (gl l j).1 → i = j
def sg (i j x : Nat) : Nat := if x = j then i else if x = i then j else x
theorem swp_sg {l : List I3} {i j : Nat} (hi : i < l.length) (hj : j < l.length) (x : Nat) : gl (swp l i j) x = gl l (sg i j x) := by
  rw [swp_get hi hj]
  unfold sg
  split
  · rfl
  · split <;> rfl
theorem sg_lt {n i j x : Nat} (hi : i < n) (hj : j < n) (hx : x < n) : sg i j x < n := by
  unfold sg
  split
  · exact hi
  · split <;> assumption
theorem sg_inj {i j a b : Nat} (h : sg i j a = sg i j b) : a = b := by
  unfold sg at h
  (repeat' split at h) <;> omega
theorem Inj.swp {l : List I3} {i j : Nat} (h : Inj l) (hi : i < l.length) (hj : j < l.length) : Inj (swp l i j) := by
  intro a b ha hb e
  rw [swp_len] at ha hb
  rw [swp_sg hi hj, swp_sg hi hj] at e
  exact sg_inj (h _ _ (sg_lt hi hj ha) (sg_lt hi hj hb) e)

/-- Up by one. -/
theorem AH.up {l : List I3} {k : Nat} (h : AH l k) (h0 : 0 < k) (hlt : lt3 (gl l k) (gl l ((k - 1) / 2))) : AH (swp l k ((k - 1) / 2)) ((k - 1) / 2) := by
  have hk := h.lt
  have hp : (k - 1) / 2 < l.length := by omega
  refine ⟨by rw [swp_len]; exact hp, fun i i0 i1 i2 i3 => ?_, fun c c0 c1 c2 p0 => ?_⟩
  · rw [swp_len] at i1
    rw [swp_get hk hp, swp_get hk hp, if_neg i2, if_neg i3, if_neg (fun e => i3 (by rw [e]))]
    split
    · rename_i e
      exact h.gp i i0 i1 e h0
    · rename_i e
      exact h.ok i i0 i1 (fun e2 => i3 (by rw [e2])) e
  · rw [swp_len] at c1
    have hpp : ¬ lt3 (gl l ((k - 1) / 2)) (gl l (((k - 1) / 2 - 1) / 2)) := h.ok _ p0 hp (by omega) (by omega)
    rw [swp_get hk hp, swp_get hk hp, if_neg (show ¬ c = (k - 1) / 2 by omega), if_neg (show ¬ ((k - 1) / 2 - 1) / 2 = (k - 1) / 2 by omega), if_neg (show ¬ ((k - 1) / 2 - 1) / 2 = k by omega)]
    split
    · exact hpp
    · rename_i e
      exact lt3_trans (by rw [← c2]; exact h.ok c c0 c1 e (by omega)) hpp
theorem AH.down {l : List I3} {k : Nat} (h : AH l k) (hd : 0 < k → ¬ lt3 (gl l k) (gl l ((k - 1) / 2))) : DH l k :=
  ⟨h.lt, fun i i0 i1 i2 => by
    by_cases e : i = k
    · subst e; exact hd i0
    · exact h.ok i i0 i1 e i2, h.gp⟩
theorem DH.leaf {l : List I3} {k : Nat} (h : DH l k) (hc : l.length ≤ 2 * k + 1) : Hp l := fun i i0 i1 => h.ok i i0 i1 (by omega)
/-- The smaller one under k. -/
def Kid (l : List I3) (k c : Nat) : Prop := c < l.length ∧ (c = 2 * k + 1 ∨ c = 2 * k + 2) ∧ ∀ s, s < l.length → (s = 2 * k + 1 ∨ s = 2 * k + 2) → ¬ lt3 (gl l s) (gl l c)
theorem kid_l {l : List I3} {k : Nat} (h : 2 * k + 1 < l.length) (h2 : ¬ (2 * k + 2 < l.length ∧ lt3 (gl l (2 * k + 2)) (gl l (2 * k + 1)))) : Kid l k (2 * k + 1) :=
  ⟨h, .inl rfl, fun s hs h3 => by
    rcases h3 with rfl | rfl
    · exact lt3_irr _
    · exact fun h4 => h2 ⟨hs, h4⟩⟩
theorem kid_r {l : List I3} {k : Nat} (h : 2 * k + 2 < l.length) (h2 : lt3 (gl l (2 * k + 2)) (gl l (2 * k + 1))) : Kid l k (2 * k + 2) :=
  ⟨h, .inr rfl, fun s _ h3 => by
    rcases h3 with rfl | rfl
    · exact lt3_asym h2
    · exact lt3_irr _⟩
theorem DH.done {l : List I3} {k c : Nat} (h : DH l k) (hc : Kid l k c) (hn : ¬ lt3 (gl l c) (gl l k)) : Hp l := fun i i0 i1 => by
  by_cases e : (i - 1) / 2 = k
  · rw [e]
    exact lt3_trans (hc.2.2 i i1 (by omega)) hn
  · exact h.ok i i0 i1 e
theorem DH.next {l : List I3} {k c : Nat} (h : DH l k) (hc : Kid l k c) (hn : lt3 (gl l c) (gl l k)) : DH (swp l c k) c := by
  have hk := h.lt
  have hcl := hc.1
  have hck : (c - 1) / 2 = k ∧ 0 < c ∧ k < c := by have := hc.2.1; omega
  refine ⟨by rw [swp_len]; exact hcl, fun i i0 i1 i2 => ?_, fun g g0 g1 g2 c0 => ?_⟩
  · rw [swp_len] at i1
    rw [swp_get hcl hk, swp_get hcl hk]
    by_cases e1 : i = k
    · subst e1
      rw [if_pos rfl, if_neg (show ¬ (i - 1) / 2 = i by omega), if_neg i2]
      exact h.gp c hck.2.1 hcl hck.1 i0
    · rw [if_neg e1]
      by_cases e2 : (i - 1) / 2 = k
      · rw [if_pos e2]
        by_cases e3 : i = c
        · rw [if_pos e3]; exact lt3_asym hn
        · rw [if_neg e3]; exact hc.2.2 i i1 (by omega)
      · rw [if_neg e2, if_neg i2]
        by_cases e3 : i = c
        · exact absurd (by rw [e3]; exact hck.1) e2
        · rw [if_neg e3]; exact h.ok i i0 i1 e2
  · rw [swp_len] at g1
    rw [swp_get hcl hk, swp_get hcl hk, hck.1, if_pos rfl, if_neg (show ¬ g = k by omega), if_neg (show ¬ g = c by omega), ← g2]
    exact h.ok g g0 g1 (by omega)

/-- What is taken away, pushed, updated. -/
theorem AH.push {l : List I3} (h : Hp l) (x : I3) : AH (l ++ [x]) l.length := by
  have hg : ∀ i, i < l.length → gl (l ++ [x]) i = gl l i := fun i hi => by simp [gl, List.getD_eq_getElem?_getD, List.getElem?_append_left hi]
  refine ⟨by simp, fun i i0 i1 i2 _ => ?_, fun c c0 c1 c2 _ => ?_⟩
  · simp at i1
    rw [hg i (by omega), hg _ (by omega)]
    exact h i i0 (by omega)
  · simp at c1; omega
theorem AH.upd {l : List I3} (h : Hp l) {k : Nat} (hk : k < l.length) (x : I3) : AH (l.set k x) k := by
  have hg : ∀ i, i ≠ k → gl (l.set k x) i = gl l i := fun i hi => by simp [gl, List.getD_eq_getElem?_getD, List.getElem?_set, Ne.symm hi]
  refine ⟨by simpa using hk, fun i i0 i1 i2 i3 => ?_, fun c c0 c1 c2 k0 => ?_⟩
  · simp at i1
    rw [hg i i2, hg _ i3]
    exact h i i0 i1
  · simp at c1
    rw [hg c (by omega), hg _ (by omega)]
    exact lt3_trans (by have := h c c0 c1; rwa [c2] at this) (h k k0 hk)
theorem take_get {l : List I3} {n i : Nat} (hi : i < n) : gl (l.take n) i = gl l i := by simp [gl, List.getD_eq_getElem?_getD, List.getElem?_take, hi]
theorem Hp.take {l : List I3} (h : Hp l) (n : Nat) : Hp (l.take n) := fun i i0 i1 => by
  rw [List.length_take] at i1
  rw [take_get (by omega), take_get (by omega)]
  exact h i i0 (by omega)
theorem AH.cut {l : List I3} (h : Hp l) {k n : Nat} (hn : n + 1 = l.length) (hk : k < n) : AH ((swp l k n).take n) k := by
  have hg : ∀ i, i < n → i ≠ k → gl ((swp l k n).take n) i = gl l i := fun i hi hne => by
    rw [take_get hi, swp_get (by omega) (by omega), if_neg (by omega), if_neg hne]
  have hl : ((swp l k n).take n).length = n := by rw [List.length_take, swp_len]; omega
  refine ⟨by rw [hl]; exact hk, fun i i0 i1 i2 i3 => ?_, fun c c0 c1 c2 k0 => ?_⟩
  · rw [hl] at i1
    rw [hg i i1 i2, hg _ (by omega) i3]
    exact h i i0 (by omega)
  · rw [hl] at c1
    rw [hg c c1 (by omega), hg _ (by omega) (by omega)]
    exact lt3_trans (by have := h c c0 (by omega); rwa [c2] at this) (h k k0 (by omega))
theorem swp_self {l : List I3} {n : Nat} (hn : n < l.length) : swp l n n = l := by
  apply List.ext_getElem (swp_len l n n)
  intro i h1 h2
  rw [← gl_lt h1, ← gl_lt h2, swp_get hn hn]
  split
  · rename_i e; rw [e]
  · rfl
end Go.Proofs.YtfcpmcdlgkfolaaDoor.Heap

namespace Go.Proofs.YtfcpmcdlgkfolaaDoor.E
open Go.RowKit Go.MapKept
open Go.ChangeMaps (setBlock)
section
variable {P : Program} {N : Nat} {w0 : World} {F : Frm} {L : List Res} {d : Option Tmp} {x y z : Operand} {v : Value} {t ty kt et : TypeId} {pos : String} {af : Array Edge} {gd : Option (Nat × Bool)} {K : Frm → List Res → Prop} {b : Nat} {m : List (Int × Value)}
/-- A map of which the entry of k has the stamp q. -/
def mpE (b : Nat) (m : List (Int × Value)) (k q : Int) : Res where
  foot := [b]
  holds w := ∃ (es : Array MapEntry) (clock j : Nat) (e : MapEntry), MapIs w b m es clock ∧ es.toList[j]? = some e ∧ e.key = .int .i64 k ∧ (e.born : Int) = q
  stable w w' hf := by
    rintro ⟨es, clock, j, e, ⟨h1, h2, h3⟩, h4⟩
    exact ⟨es, clock, j, e, ⟨(hf b (by simp)).trans h1, h2, h3⟩, h4⟩
theorem modify_same {l : List MapEntry} {j : Nat} {f g : MapEntry → MapEntry} (h : ∀ e, l[j]? = some e → f e = g e) : l.modify j f = l.modify j g := by
  apply List.ext_getElem?
  intro i
  rw [List.getElem?_modify, List.getElem?_modify]
  by_cases hij : j = i
  · subst hij
    cases he : l[j]? with
    | none => rfl
    | some e => simp [h e he]
  · simp [hij]
theorem modify_id {l : List MapEntry} {j : Nat} {f : MapEntry → MapEntry} (h : ∀ e, l[j]? = some e → f e = e) : l.modify j f = l := by
  apply List.ext_getElem?
  intro i
  rw [List.getElem?_modify]
  by_cases hij : j = i
  · subst hij
    cases he : l[j]? with
    | none => rfl
    | some e => simp [h e he]
  · simp [hij]
theorem oj_mapEntry {k : Int} (i : Nat) (hm : P.underlying t = some (.map kt et)) (hkt : P.underlying kt = some (.int .i64)) (hx : FE N F x (.map (some b))) (hy : FE N F y (.int .i64 k)) (hk : lget L i = some (mpR b m [])) (hg : mget m k = some v)
    (h : ∀ q : Int, K (fput F d (.tuple #[v, .int .i64 q])) (lset L i (mpE b m k q))) : OpJ P N w0 F L ⟨d, .mapEntry t x y, ty, pos, af, gd⟩ K := fun a w hF hS => by
  obtain ⟨es, clock, ⟨h1, h2, h3⟩, _, _⟩ := hS.holds i _ hk
  have hb : b < w.heap.size := (Array.getElem?_eq_some_iff.1 h1).1
  rcases find_view k v es.toList m 0 h3 with ⟨g1, g2, g3⟩ | ⟨j, e, g1, g2, g3, g4, _⟩
  · rw [g3] at hg; cases hg
  · have hv : e.val = v := Option.some.inj (g4.symm.trans hg)
    have hj : es[j]? = some e := by simpa using g2
    have hes : es.modify j (fun e => { e with key := .int .i64 k }) = es := by
      apply Array.toList_inj.1
      rw [Array.toList_modify]
      refine modify_id (fun e' he' => ?_)
      rw [g2] at he'
      cases he'
      rw [← g3]
    have hr : (execOp a.eval ⟨d, .mapEntry t x y, ty, pos, af, gd⟩).run P w = .ok (.value (.tuple #[v, .int .i64 e.born])) (setBlock w b (.map es clock)) := by
      simp [execOp, Instr.mapEntry, hx a hF, hy a hF, run_underlying hm, MapKept.run_getObj_map h1, run_checkKey (k := .int .i64 k) hkt rfl, run_findKey hkt g1, hj, g3, run_keyThatStays (d := .int .i64) (k := .int .i64 k) rfl, MapKept.run_setObj_map _ h1, Result.andThen, setBlock, hes, hv, goInt]
    unfold Oper.wp
    rw [hr]
    refine ⟨_, _, h e.born, hF.put _ _, hS.turn hk rfl rfl rfl (by simp [setBlock]) (fun c _ hc => ?_) ⟨es, clock, j, e, ⟨by simp [setBlock, hb], h2, h3⟩, g2, g3, rfl⟩ (fun c hc => ?_)⟩
    · have : b ≠ c := fun e => hc (by subst e; exact List.mem_cons_self ..)
      simp [setBlock, this]
    · have hcb : c = b := by simpa [mpE] using hc
      subst hcb
      exact ⟨by simpa [setBlock] using hb, .inl (List.mem_cons_self ..)⟩
theorem oj_entryStore {k q : Int} (i : Nat) (hx : FE N F x (.map (some b))) (hy : FE N F y (.int .i64 q)) (hz : FE N F z v) (hk : lget L i = some (mpE b m k q))
    (h : K (fput F d undef) (lset L i (mpR b (mput m k v) []))) : OpJ P N w0 F L ⟨d, .entryStore t x y z, ty, pos, af, gd⟩ K := fun a w hF hS => by
  obtain ⟨es, clock, j, e, ⟨h1, h2, h3⟩, h4, h5, h6⟩ := hS.holds i _ hk
  have hb : b < w.heap.size := (Array.getElem?_eq_some_iff.1 h1).1
  have hjl : j < es.size := by have := (List.getElem?_eq_some_iff.1 h4).1; simpa using this
  have hje : es[j] = e := by have := (List.getElem?_eq_some_iff.1 h4).2; simpa using this
  have uniq : ∀ i' (hi' : i' < es.size), (es[i'].born : Int) = q → i' = j := fun i' hi' hq => by
    refine (List.getElem?_inj (l := es.toList.map (·.born)) (by simpa using hi') h2.2.1).1 ?_
    rw [List.getElem?_map, List.getElem?_map, h4, List.getElem?_eq_getElem (by simpa using hi')]
    simp only [Option.map_some, Option.some.injEq, Array.getElem_toList]
    omega
  have hfi : es.findIdx? (fun x => ((x.born : Int) == q)) = some j := by
    rw [Array.findIdx?_eq_some_iff_getElem]
    refine ⟨hjl, by rw [hje]; simpa using h6, fun i' hi' => ?_⟩
    intro hp
    have := uniq i' (by omega) (by simpa using hp)
    omega
  rcases find_view k v es.toList m 0 h3 with ⟨g1, g2, g3⟩ | ⟨j2, e2, g1, g2, g3, g4, g5, _⟩
  · exact absurd h5 (g2 e (List.mem_of_getElem? h4))
  · have hj2 : j2 = j := by
      refine (List.getElem?_inj (l := es.toList.map (·.key)) ?_ h2.2.2).1 ?_
      · rw [List.length_map]; exact (List.getElem?_eq_some_iff.1 g2).1
      · rw [List.getElem?_map, List.getElem?_map, g2, h4]
        simp [g3, h5]
    subst hj2
    have hr : (execOp a.eval ⟨d, .entryStore t x y z, ty, pos, af, gd⟩).run P w = .ok .skip (setBlock w b (.map (es.modify j2 fun e => { e with val := v }) clock)) := by
      simp [execOp, Instr.entryStore, hx a hF, hy a hF, hz a hF, MapKept.run_getObj_map h1, asInt, asIntOf, hfi, MapKept.run_setObj_map _ h1, Result.andThen, setBlock]
    unfold Oper.wp
    rw [hr]
    refine ⟨_, _, h, hF.put _ _, hS.turn hk rfl rfl rfl (by simp [setBlock]) (fun c _ hc => ?_) ⟨es.modify j2 fun e => { e with val := v }, clock, ⟨by simp [setBlock, hb], stamped_modify h2 _ _ (fun _ _ => rfl) (fun _ _ _ => rfl), ?_⟩, fun _ h => by simp at h, by simp⟩ (fun c hc => ?_)⟩
    · have : b ≠ c := fun e => hc (by simp [mpE, e])
      simp [setBlock, this]
    · rw [Array.toList_modify, ← g5]
      congr 1
      refine modify_same (fun e' he' => ?_)
      rw [h4] at he'
      cases he'
      rw [← h5]
    · have hcb : c = b := by simpa [mpR] using hc
      subst hcb
      exact ⟨by simpa [setBlock] using hb, .inl (by simp [mpE])⟩
end
end Go.Proofs.YtfcpmcdlgkfolaaDoor.E

namespace Go.Proofs.YtfcpmcdlgkfolaaDoor.Heap
open Go.RowKit Go.Proofs.YtfcpmcdlgkfolaaDoor.E Go.Proofs.YtfcpmcdlgkfolaaDoor.Big

theorem res0 {P : Program} {N : Nat} {w0 : World} {F : Frm} {L : List Res} {fn : Func} (hf : fn.results = #[]) : ∀ a w, Fr N a F → St w0 w L → (results fn a.tmps).run P w = .ok (.tuple #[]) w := fun a w _ _ => by
  simp [results, hf]
def cI3 (x : I3) : List Value := [(.int .i64 x.1), .int .u64 x.2.1, .int .u64 x.2.2]
theorem hcI : ∀ x, (cI3 x).length = 3 := fun _ => rfl
abbrev Mp := List (Int × Value)
theorem key_at {l : List I3} {j : Nat} (h : j < l.length) : ∀ (q : Nat) (u : Value), [.int .u64 (gl l j).2.1, .int .u64 (gl l j).2.2][q]? = some u → (l.flatMap cI3)[j * 3 + 1 + q]? = some u := fun q u hu => by
  rw [Nat.add_assoc]
  refine flatGA (d := d3) hcI h (1 + q) u ?_
  match q with
  | 0 => exact hu
  | 1 => exact hu
  | q + 2 => simp at hu
theorem cmp_cases (a b : Int) : cmp a b = -1 ∧ a < b ∨ cmp a b = 1 ∧ b < a ∨ cmp a b = 0 ∧ a = b := by unfold cmp; split <;> (try split) <;> omega
/-- What the comparison of two keys says. -/
def kc (a b : I3) : Int := if cmp a.2.1 b.2.1 = 0 then cmp a.2.2 b.2.2 else cmp a.2.1 b.2.1
theorem kc_lt {a b : I3} (h : kc a b ≠ 0) : kc a b < 0 ↔ lt3 a b := by
  unfold kc at h ⊢
  have g1 := cmp_cases a.2.1 b.2.1
  have g2 := cmp_cases a.2.2 b.2.2
  unfold lt3
  generalize cmp a.2.1 b.2.1 = u at *
  generalize cmp a.2.2 b.2.2 = v at *
  split at h <;> split <;> omega
theorem kc_eq {a b : I3} (h : kc a b = 0) : a.1 < b.1 ↔ lt3 a b := by
  unfold kc at h
  have g1 := cmp_cases a.2.1 b.2.1
  have g2 := cmp_cases a.2.2 b.2.2
  unfold lt3
  generalize cmp a.2.1 b.2.1 = u at *
  generalize cmp a.2.2 b.2.2 = v at *
  split at h <;> omega
/-- The map tells where each item is, and tells of no others. -/
def MapOk (l : List I3) (m : Mp) : Prop := (∀ i, i < l.length → mget m (gl l i).1 = some (.int .i64 ((i : Int)))) ∧ ∀ k v, mget m k = some v → ∃ i, i < l.length ∧ (gl l i).1 = k
theorem MapOk.swp {l : List I3} {m : Mp} {i j : Nat} (h : MapOk l m) (hin : Inj l) (hi : i < l.length) (hj : j < l.length) : MapOk (swp l i j) (mput (mput m (gl (Heap.swp l i j) i).1 (.int .i64 ((i : Int)))) (gl (Heap.swp l i j) j).1 (.int .i64 ((j : Int)))) := by
  have hin2 := hin.swp hi hj
  have hl := swp_len l i j
  refine ⟨fun x hx => ?_, fun k v hk => ?_⟩
  · rw [mput_get, mput_get]
    split
    · rename_i e
      rw [hin2 x j hx (by omega) e]
    · split
      · rename_i e
        rw [hin2 x i hx (by omega) e]
      · rename_i e1 e2
        have h1 : x ≠ j := fun e => e1 (by rw [e])
        have h2 : x ≠ i := fun e => e2 (by rw [e])
        rw [swp_get hi hj, if_neg h1, if_neg h2]
        exact h.1 x (by omega)
  · rw [mput_get, mput_get] at hk
    split at hk
    · rename_i e; exact ⟨j, by omega, e.symm⟩
    · split at hk
      · rename_i e; exact ⟨i, by omega, e.symm⟩
      · obtain ⟨q, hq, he⟩ := h.2 k v hk
        have : gl l q ∈ Heap.swp l i j := (swp_mem hi hj _).2 (mem_gl.2 ⟨q, hq, rfl⟩)
        obtain ⟨r, hr, e⟩ := mem_gl.1 this
        exact ⟨r, hr, by rw [e]; exact he⟩
theorem MapOk.g1 {l : List I3} {m : Mp} {i j : Nat} (h : MapOk l m) (hi : i < l.length) (hj : j < l.length) : mget m (gl (Heap.swp l i j) i).1 = some (.int .i64 ((j : Int))) := by
  rw [swp_get hi hj]
  split
  · rename_i e; subst e; exact h.1 i hi
  · rw [if_pos rfl]; exact h.1 j hj
theorem MapOk.g2 {l : List I3} {m : Mp} {i j : Nat} (h : MapOk l m) (hi : i < l.length) (hj : j < l.length) : mget (mput m (gl (Heap.swp l i j) i).1 (.int .i64 ((i : Int)))) (gl (Heap.swp l i j) j).1 = some (.int .i64 ((i : Int))) := by
  rw [mput_get]
  split
  · rfl
  · rw [swp_get hi hj, if_pos rfl]; exact h.1 i hi
/-- What stays true of a heap's items. -/
structure Same (n : Nat) (l0 l : List I3) (m : Mp) : Prop where
  len : l.length = n
  inj : Inj l
  map : MapOk l m
  mem : ∀ x, x ∈ l ↔ x ∈ l0
theorem Same.swp {n : Nat} {l0 l : List I3} {m m' : Mp} {i j : Nat} (h : Same n l0 l m) (hi : i < n) (hj : j < n) (hm : MapOk (Heap.swp l i j) m') : Same n l0 (Heap.swp l i j) m' := by
  have hl := h.len
  exact ⟨by rw [swp_len]; exact hl, h.inj.swp (by omega) (by omega), hm, fun x => (swp_mem (by omega) (by omega) x).trans (h.mem x)⟩
end Go.Proofs.YtfcpmcdlgkfolaaDoor.Heap

namespace Go.Proofs.YtfcpmcdlgkfolaaDoor.Heap
open Go.RowKit Go.Proofs.YtfcpmcdlgkfolaaDoor.E Go.Proofs.YtfcpmcdlgkfolaaDoor.Big

set_option maxRecDepth 100000 in
set_option maxHeartbeats 400000 in
theorem nanE (x : Int) (w : World) :
    Calls Tryd.prog 153 #[.int .u64 x] w fun e w' => e = .returned (.bool false) ∧ St w w' [] := by
  refine calls_tr Tryd.func153 Tryd.ntmps153 rfl rfl (St.refl _) ?_
  refine tr_seq ?_
  refine tr_region ?_
  refine tl_step rfl (oj_val (y_assign fe_c) ?_)
  refine tl_nil ?_
  refine tx_then ?_
  refine tr_seq ?_
  refine tr_region ?_
  refine tl_step rfl (oj_val (y_move (fe_t rfl)) ?_)
  refine tl_step rfl (oj_val (y_move (fe_t rfl)) ?_)
  refine tl_step rfl (oj_val (y_neq (fe_t rfl) (fe_t rfl)) ?_)
  refine tl_step rfl (oj_val (y_assign (fe_t rfl)) ?_)
  refine tl_nil ?_
  refine tx_then ?_
  refine tr_ret ?_
  refine tx_ret (res1 Tryd.results153 (rok_t rfl)) (fun w' hS => ?_)
  exact ⟨by simp, hS.pick [] _ rfl (by decide)⟩

set_option maxRecDepth 100000 in
set_option maxHeartbeats 400000 in
theorem compareE (x y : Int) (w : World) :
    Calls Tryd.prog 148 #[.int .u64 x, .int .u64 y] w fun e w' => e = .returned ((.int .i64 (cmp x y))) ∧ St w w' [] := by
  refine calls_tr Tryd.func148 Tryd.ntmps148 rfl rfl (St.refl _) ?_
  refine tr_seq ?_
  refine tr_region ?_
  refine tl_step rfl (oj_val (y_assign fe_c) ?_)
  refine tl_nil ?_
  refine tx_then ?_
  refine tr_seq ?_
  refine tr_region ?_
  refine tl_step rfl (oj_val (y_move (fe_t rfl)) ?_)
  refine tl_step rfl (oj_callv Tryd.call153 fe_f (fel_cons (fe_t rfl) fel_nil) (fun w' hS => nanE _ w') ?_)
  refine tl_step rfl (oj_val (y_assign (fe_t rfl)) ?_)
  refine tl_nil ?_
  refine tx_then ?_
  refine tr_seq ?_
  refine tr_region ?_
  refine tl_step rfl (oj_val (y_move (fe_t rfl)) ?_)
  refine tl_step rfl (oj_callv Tryd.call153 fe_f (fel_cons (fe_t rfl) fel_nil) (fun w' hS => nanE _ w') ?_)
  refine tl_step rfl (oj_val (y_assign (fe_t rfl)) ?_)
  refine tl_nil ?_
  refine tx_then ?_
  refine tr_seq ?_
  refine tr_seq ?_
  refine tr_region ?_
  refine tl_step rfl (oj_val (y_move (fe_t rfl)) ?_)
  refine tl_nil ?_
  refine tx_then ?_
  refine tr_condf (fe_t rfl) ?_
  refine tr_skip ?_
  refine tx_then ?_
  refine tr_seq ?_
  refine tr_seq ?_
  refine tr_region ?_
  refine tl_step rfl (oj_val (y_move (fe_t rfl)) ?_)
  refine tl_nil ?_
  refine tx_then ?_
  refine tr_condf (fe_t rfl) ?_
  refine tr_skip ?_
  refine tx_then ?_
  refine tr_seq ?_
  refine tr_seq ?_
  refine tr_region ?_
  refine tl_step rfl (oj_val (y_move (fe_t rfl)) ?_)
  refine tl_step rfl (oj_val (y_move (fe_t rfl)) ?_)
  refine tl_step rfl (oj_val (y_lss (fe_t rfl) (fe_t rfl)) ?_)
  refine tl_nil ?_
  refine tx_then ?_
  refine tr_condp (fe_t rfl) (fun hq1 => ?_) (fun hq2 => ?_)
  · refine tr_seq ?_
    refine tr_region ?_
    refine tl_step rfl (oj_val (y_assign fe_c) ?_)
    refine tl_nil ?_
    refine tx_then ?_
    refine tr_ret ?_
    refine tx_then_ret ?_
    refine tx_ret (res1 Tryd.results148 (rok_t rfl)) (fun w' hS => ?_)
    exact ⟨by unfold cmp; repeat (first | rw [if_pos (by omega)] | rw [if_neg (by omega)]), hS.pick [] _ rfl (by decide)⟩
  · refine tr_skip ?_
    refine tx_then ?_
    refine tr_seq ?_
    refine tr_seq ?_
    refine tr_region ?_
    refine tl_step rfl (oj_val (y_move (fe_t rfl)) ?_)
    refine tl_step rfl (oj_val (y_move (fe_t rfl)) ?_)
    refine tl_step rfl (oj_val (y_gtr (fe_t rfl) (fe_t rfl)) ?_)
    refine tl_nil ?_
    refine tx_then ?_
    refine tr_condp (fe_t rfl) (fun hq3 => ?_) (fun hq4 => ?_)
    · refine tr_seq ?_
      refine tr_region ?_
      refine tl_step rfl (oj_val (y_assign fe_c) ?_)
      refine tl_nil ?_
      refine tx_then ?_
      refine tr_ret ?_
      refine tx_then_ret ?_
      refine tx_ret (res1 Tryd.results148 (rok_t rfl)) (fun w' hS => ?_)
      exact ⟨by unfold cmp; repeat (first | rw [if_pos (by omega)] | rw [if_neg (by omega)]), hS.pick [] _ rfl (by decide)⟩
    · refine tr_skip ?_
      refine tx_then ?_
      refine tr_seq ?_
      refine tr_region ?_
      refine tl_step rfl (oj_val (y_assign fe_c) ?_)
      refine tl_nil ?_
      refine tx_then ?_
      refine tr_ret ?_
      refine tx_ret (res1 Tryd.results148 (rok_t rfl)) (fun w' hS => ?_)
      exact ⟨by unfold cmp; repeat (first | rw [if_pos (by omega)] | rw [if_neg (by omega)]), hS.pick [] _ rfl (by decide)⟩

set_option maxRecDepth 100000 in
set_option maxHeartbeats 800000 in
theorem orE (A : Option Addr) (c : Nat) (a b : Int) (w : World) (hr : Rd w A [(.int .i64 a), (.int .i64 b)]) :
    Calls Tryd.prog 147 #[.slice A 2 c] w fun e w' => e = .returned ((.int .i64 (if a = 0 then b else a))) ∧ St w w' [] := by
  refine calls_tr Tryd.func147 Tryd.ntmps147 rfl rfl (St.refl _) ?_
  refine tr_seq ?_
  refine tr_region ?_
  refine tl_step rfl (oj_val (y_assign fe_c) ?_)
  refine tl_nil ?_
  refine tx_then ?_
  refine tr_seq ?_
  refine tr_region ?_
  refine tl_step rfl (oj_val (y_assign fe_c) ?_)
  refine tl_nil ?_
  refine tx_then ?_
  refine tr_seq ?_
  refine tr_seq ?_
  refine tr_region ?_
  refine tl_step rfl (oj_val (y_move (fe_t rfl)) ?_)
  refine tl_step rfl (oj_val (y_len Tryd.underlying39 (fe_t rfl)) ?_)
  refine tl_step rfl (oj_val (y_move fe_c) ?_)
  refine tl_nil ?_
  refine tx_then ?_
  refine tr_block ?_
  refine tr_loop1 [2, 5, 8, 9, 10, 11, 12, 13, 14, 15, 16] (fun (k : Nat) => [(8, .int .i64 (k : Int))]) 0 (fun (k : Nat) => []) (fun (k : Nat) => k ≤ 2 ∧ (0 < k → a = 0) ∧ (1 < k → b = 0)) (fun (k : Nat) => 2 - k) (0) (cov_cons (by first | rfl | exact v_int (by omega) | exact v_bool (by simp [*])) (cov_nil)) (fun w h => h) ?_ ?_
  · try dsimp only
    exact ⟨by omega, fun h => by omega, fun h => by omega⟩
  intro k hp
  have hi := hp
  obtain ⟨hk, hp0⟩ := hp
  refine tr_seq ?_
  refine tr_region ?_
  refine tl_step rfl (oj_val (y_lss (fe_t rfl) (fe_t rfl)) ?_)
  refine tl_nil ?_
  refine tx_then ?_
  refine tr_seq ?_
  refine tr_condp (fe_t rfl) (fun hq1 => ?_) (fun hq2 => ?_)
  · refine tr_skip ?_
    refine tx_then ?_
    refine tr_seq ?_
    refine tr_block ?_
    refine tr_seq ?_
    refine tr_region ?_
    refine tl_step rfl (oj_val (y_index Tryd.underlying39 Tryd.sizeOf3 (fe_t rfl) (fe_t rfl) (rdl_out hr) (rfl) (by decide) (by omega) (Nat.mul_one _)) ?_)
    refine tl_step rfl (oj_val (y_ld (v := (.int .i64 (if k = 0 then a else b))) Tryd.isAgg3 (fe_t rfl) (rdl_out hr) (by have : k = 0 ∨ k = 1 := (by omega); rcases this with rfl | rfl <;> rfl)) ?_)
    refine tl_step rfl (oj_val (y_assign (fe_t rfl)) ?_)
    refine tl_nil ?_
    refine tx_then ?_
    refine tr_seq ?_
    refine tr_region ?_
    refine tl_step rfl (oj_val (y_move (fe_t rfl)) ?_)
    refine tl_step rfl (oj_val (y_move (fe_t rfl)) ?_)
    refine tl_step rfl (oj_val (y_neq (fe_t rfl) (fe_t rfl)) ?_)
    refine tl_nil ?_
    refine tx_then ?_
    refine tr_condp (fe_t rfl) (fun hq3 => ?_) (fun hq4 => ?_)
    · have hz := hq3
      refine tr_seq ?_
      refine tr_region ?_
      refine tl_step rfl (oj_val (y_move (fe_t rfl)) ?_)
      refine tl_step rfl (oj_val (y_assign (fe_t rfl)) ?_)
      refine tl_nil ?_
      refine tx_then ?_
      refine tr_ret ?_
      refine tx_in_ret ?_
      refine tx_then_ret ?_
      refine tx_then_ret ?_
      refine tx_in_ret ?_
      refine tx_then_ret ?_
      refine tx_ret (res1 Tryd.results147 (rok_t rfl)) (fun w' hS => ?_)
      exact ⟨by first | (rw [show (if k = 0 then a else b) = if a = 0 then b else a by by_cases hk0 : k = 0 <;> simp only [hk0, if_true, if_false] at hz ⊢ <;> split <;> omega]; done) | (rw [if_pos (hi.2.1 (by omega)), hi.2.2 (by omega)]), hS.pick [] _ rfl (by decide)⟩
    · have hz := hq4
      refine tr_skip ?_
      refine tx_in ?_
      refine tx_then ?_
      refine tr_region ?_
      refine tl_step rfl (oj_val (y_inc (fe_t rfl) fe_c (by omega)) ?_)
      refine tl_step rfl (oj_val (y_move (fe_t rfl)) ?_)
      refine tl_nil ?_
      apply tx_back1 (k + 1)
      · exact (cov_cons (by first | rfl | exact v_int (by omega) | exact v_bool (by simp [*])) (cov_nil))
      · repeat (first | exact over_nil | refine over_put rfl ?_ | refine over_drop rfl ?_)
      · exact fun w h => h.pick [] _ rfl (by decide)
      · refine ⟨⟨by omega, fun _ => ?_, fun _ => ?_⟩, by omega⟩
        · by_cases hk0 : k = 0
          · simp only [hk0, if_true] at hz; omega
          · exact hi.2.1 (by omega)
        · by_cases hk0 : k = 0
          · omega
          · simp only [hk0, if_false] at hz; omega
  · refine tr_exit ?_
    refine tx_then_exit ?_
    refine tx_then_exit ?_
    refine tx_in_exit ?_
    refine tx_then ?_
    refine tr_seq ?_
    refine tr_region ?_
    refine tl_step rfl (oj_val (y_move (fe_t rfl)) ?_)
    refine tl_step rfl (oj_val (y_assign (fe_t rfl)) ?_)
    refine tl_nil ?_
    refine tx_then ?_
    refine tr_ret ?_
    refine tx_ret (res1 Tryd.results147 (rok_t rfl)) (fun w' hS => ?_)
    exact ⟨by first | (rw [show (if k = 0 then a else b) = if a = 0 then b else a by by_cases hk0 : k = 0 <;> simp only [hk0, if_true, if_false] at hz ⊢ <;> split <;> omega]; done) | (rw [if_pos (hi.2.1 (by omega)), hi.2.2 (by omega)]), hS.pick [] _ rfl (by decide)⟩

set_option maxRecDepth 100000 in
set_option maxHeartbeats 1000000 in
theorem wcmpE (a b : I3) (w : World) :
    Calls Tryd.prog 132 #[.agg #[.int .u64 a.2.1, .int .u64 a.2.2], .agg #[.int .u64 b.2.1, .int .u64 b.2.2]] w fun e w' => e = .returned (.int .i64 (kc a b)) ∧ St w w' [] := by
  refine calls_tr Tryd.func132 Tryd.ntmps132 rfl rfl (St.refl _) ?_
  refine tr_seq ?_
  refine tr_region ?_
  refine tl_step rfl (oj_box (fe_t rfl) (fun b1 => ?_))
  refine tl_step rfl (oj_box (fe_t rfl) (fun b2 => ?_))
  refine tl_step rfl (oj_val (y_assign fe_c) ?_)
  refine tl_nil ?_
  refine tx_then ?_
  refine tr_seq ?_
  refine tb_draw 13 (sel _ [0, 1]) (fun w h => h.sel _ rfl (by decide)) rfl ?_
  refine tb_float (i := 0) rfl (by kernel_rfl) rfl (wants_none rfl) (yq_of (y_fieldAddr (td := 60) Tryd.underlying88 rfl rfl Tryd.sizeOf60 (o' := 0) rfl (fe_t rfl))) ?_
  refine tb_float (i := 1) rfl (by kernel_rfl) rfl (wants_none rfl) (yq_of (y_ldb 1 Tryd.isAgg60 (fe_t rfl) rfl rfl)) ?_
  refine tb_float (i := 2) rfl (by kernel_rfl) rfl (wants_none rfl) (yq_of (y_fieldAddr (td := 60) Tryd.underlying88 rfl rfl Tryd.sizeOf60 (o' := 0) rfl (fe_t rfl))) ?_
  refine tb_float (i := 3) rfl (by kernel_rfl) rfl (wants_none rfl) (yq_of (y_ldb 0 Tryd.isAgg60 (fe_t rfl) rfl rfl)) ?_
  refine tb_float (i := 4) rfl (by kernel_rfl) rfl (wants_none rfl) (yq_call Tryd.call148 fe_f (fel_cons (fe_t rfl) (fel_cons (fe_t rfl) fel_nil)) (fun w' hS => compareE _ _ w')) ?_
  refine tb_float (i := 5) rfl (by kernel_rfl) rfl (wants_none rfl) (yq_of (y_fieldAddr (td := 60) Tryd.underlying88 rfl rfl Tryd.sizeOf60 (o' := 1) rfl (fe_t rfl))) ?_
  refine tb_float (i := 6) rfl (by kernel_rfl) rfl (wants_none rfl) (yq_of (y_ldb 1 Tryd.isAgg60 (fe_t rfl) rfl rfl)) ?_
  refine tb_float (i := 7) rfl (by kernel_rfl) rfl (wants_none rfl) (yq_of (y_fieldAddr (td := 60) Tryd.underlying88 rfl rfl Tryd.sizeOf60 (o' := 1) rfl (fe_t rfl))) ?_
  refine tb_float (i := 8) rfl (by kernel_rfl) rfl (wants_none rfl) (yq_of (y_ldb 0 Tryd.isAgg60 (fe_t rfl) rfl rfl)) ?_
  refine tb_float (i := 9) rfl (by kernel_rfl) rfl (wants_none rfl) (yq_call Tryd.call148 fe_f (fel_cons (fe_t rfl) (fel_cons (fe_t rfl) fel_nil)) (fun w' hS => compareE _ _ w')) ?_
  refine tb_one2 (i := 10) rfl (by kernel_rfl) (by kernel_rfl) (wants_none rfl) (oj_lit2 (k := .i64) (a := cmp a.2.1 b.2.1) (b := cmp a.2.2 b.2.2) Tryd.underlying39 Tryd.sizeOf3 Tryd.zeroValue3 (fe_t rfl) (fe_t rfl) (fun g => ⟨fun w h => h.pick [1, 2] _ rfl (by decide), ?_⟩))
  refine tb_one2 (i := 11) rfl (by kernel_rfl) (by kernel_rfl) (wants_none rfl) (oj_callv Tryd.call147 fe_f (fel_cons (fe_t rfl) fel_nil) (fun w' hS => orE _ _ _ _ w' (rdl_vec 0 rfl _ hS)) (⟨fun w h => h.pick [1, 2] _ rfl (by decide), ?_⟩))
  refine tb_float (i := 12) rfl (by kernel_rfl) rfl (wants_none rfl) (yq_of (y_assign (fe_t rfl))) ?_
  refine tb_done (by kernel_rfl) ?_
  refine tx_then ?_
  refine tr_ret ?_
  refine tx_ret (res1 Tryd.results132 (rok_t rfl)) (fun w' hS => ?_)
  exact ⟨rfl, hS.pick [] _ rfl (by decide)⟩

set_option maxRecDepth 100000 in
set_option maxHeartbeats 4000000 in
theorem lessE {w0 w : World} {T : List Res} {hb mb n c : Nat} {A : Option Addr} {l : List I3} (hn : l.length = n) (hS : St w0 w (blk hb [.slice A n c, .map (some mb)] :: vec 144 3 (.slice A n c) n (l.flatMap cI3) :: T)) {i j : Nat} (hi : i < n) (hj : j < n) :
    Calls Tryd.prog 110 #[.pointer (some ⟨hb, 0, none⟩), (.int .i64 ((i : Int))), (.int .i64 ((j : Int)))] w fun e w' => ∃ _q : Unit, True ∧ e = .returned (.bool (decide (lt3 (gl l i) (gl l j)))) ∧ St w0 w' (blk hb [.slice A n c, .map (some mb)] :: vec 144 3 (.slice A n c) n (l.flatMap cI3) :: T) := by
  refine calls_tr Tryd.func110 Tryd.ntmps110 rfl rfl hS ?_
  refine tr_seq ?_
  refine tr_region ?_
  refine tl_step rfl (oj_val (y_assign fe_c) ?_)
  refine tl_nil ?_
  refine tx_then ?_
  refine tr_seq ?_
  refine tr_seq ?_
  refine tb_draw 18 (sel _ [0, 1]) (fun w h => h.sel _ rfl (by decide)) rfl ?_
  refine tb_float (i := 0) rfl (by kernel_rfl) rfl (wants_none rfl) (yq_of (y_move (fe_t rfl))) ?_
  refine tb_float (i := 1) rfl (by kernel_rfl) rfl (wants_none rfl) (yq_of (y_nilCheck (fe_t rfl))) ?_
  refine tb_float (i := 2) rfl (by kernel_rfl) rfl (wants_none rfl) (yq_of (y_fieldAddr (td := 139) Tryd.underlying141 rfl rfl Tryd.sizeOf139 (o' := 0) rfl (fe_t rfl))) ?_
  refine tb_float (i := 3) rfl (by kernel_rfl) rfl (wants_none rfl) (yq_of (y_ldb 0 Tryd.isAgg139 (fe_t rfl) rfl rfl)) ?_
  refine tb_float (i := 4) rfl (by kernel_rfl) rfl (wants_none rfl) (yq_of (y_move (fe_t rfl))) ?_
  refine tb_float (i := 5) rfl (by kernel_rfl) rfl (wants_none rfl) (yq_of (y_index Tryd.underlying139 Tryd.sizeOf144 (fe_t rfl) (fe_t rfl) (rdl_vec 1 rfl) (by rw [flat_len hcI, hn]) (by decide) (by omega) rfl)) ?_
  refine tb_float (i := 6) rfl (by kernel_rfl) rfl (wants_none rfl) (yq_of (y_fieldAddrE (td := 88) Tryd.underlying144 rfl rfl Tryd.sizeOf88 rfl (fe_t rfl) (rdl_vec 1 rfl) (by rw [flat_len hcI, hn]; omega))) ?_
  refine tb_float (i := 7) rfl (by kernel_rfl) rfl (wants_none rfl) (yq_of (y_ldA (cs := [.int .u64 (gl l i).2.1, .int .u64 (gl l i).2.2]) Tryd.isAgg88 Tryd.sizeOf88 (fe_t rfl) (rdl_vec 1 rfl) rfl (by decide) (key_at (by omega)))) ?_
  refine tb_float (i := 8) rfl (by kernel_rfl) rfl (wants_none rfl) (yq_of (y_move (fe_t rfl))) ?_
  refine tb_float (i := 9) rfl (by kernel_rfl) rfl (wants_none rfl) (yq_of (y_nilCheck (fe_t rfl))) ?_
  refine tb_float (i := 10) rfl (by kernel_rfl) rfl (wants_none rfl) (yq_of (y_fieldAddr (td := 139) Tryd.underlying141 rfl rfl Tryd.sizeOf139 (o' := 0) rfl (fe_t rfl))) ?_
  refine tb_float (i := 11) rfl (by kernel_rfl) rfl (wants_none rfl) (yq_of (y_ldb 0 Tryd.isAgg139 (fe_t rfl) rfl rfl)) ?_
  refine tb_float (i := 12) rfl (by kernel_rfl) rfl (wants_none rfl) (yq_of (y_move (fe_t rfl))) ?_
  refine tb_float (i := 13) rfl (by kernel_rfl) rfl (wants_none rfl) (yq_of (y_index Tryd.underlying139 Tryd.sizeOf144 (fe_t rfl) (fe_t rfl) (rdl_vec 1 rfl) (by rw [flat_len hcI, hn]) (by decide) (by omega) rfl)) ?_
  refine tb_float (i := 14) rfl (by kernel_rfl) rfl (wants_none rfl) (yq_of (y_fieldAddrE (td := 88) Tryd.underlying144 rfl rfl Tryd.sizeOf88 rfl (fe_t rfl) (rdl_vec 1 rfl) (by rw [flat_len hcI, hn]; omega))) ?_
  refine tb_float (i := 15) rfl (by kernel_rfl) rfl (wants_none rfl) (yq_of (y_ldA (cs := [.int .u64 (gl l j).2.1, .int .u64 (gl l j).2.2]) Tryd.isAgg88 Tryd.sizeOf88 (fe_t rfl) (rdl_vec 1 rfl) rfl (by decide) (key_at (by omega)))) ?_
  refine tb_float (i := 16) rfl (by kernel_rfl) rfl (wants_none rfl) (yq_call Tryd.call132 fe_f (fel_cons (fe_t rfl) (fel_cons (fe_t rfl) fel_nil)) (fun w' hS => wcmpE (gl l i) (gl l j) w')) ?_
  refine tb_float (i := 17) rfl (by kernel_rfl) rfl (wants_none rfl) (yq_of (y_assign (fe_t rfl))) ?_
  refine tb_done (by kernel_rfl) ?_
  refine tx_then ?_
  refine tr_seq ?_
  refine tr_region ?_
  refine tl_step rfl (oj_val (y_move (fe_t rfl)) ?_)
  refine tl_step rfl (oj_val (y_neq (fe_t rfl) fe_c) ?_)
  refine tl_nil ?_
  refine tx_then ?_
  refine tr_condp (fe_t rfl) (fun hq1 => ?_) (fun hq2 => ?_)
  · have hK := kc_lt hq1
    refine tr_seq ?_
    refine tr_region ?_
    refine tl_step rfl (oj_val (y_move (fe_t rfl)) ?_)
    refine tl_step rfl (oj_val (y_lss (fe_t rfl) fe_c) ?_)
    refine tl_step rfl (oj_val (y_assign (fe_t rfl)) ?_)
    refine tl_nil ?_
    refine tx_then ?_
    refine tr_ret ?_
    refine tx_then_ret ?_
    refine tx_ret (res1 Tryd.results110 (rok_t rfl)) (fun w' hS => ?_)
    have h1 := pickT (l := [_, _]) hS [0, 1] rfl (by decide)
    exact ⟨(), trivial, ret_bool (decide_eq_decide.2 (hK)), h1⟩
  · have hK := kc_eq (Decidable.not_not.1 hq2)
    refine tr_skip ?_
    refine tx_then ?_
    refine tr_seq ?_
    refine tb_draw 18 (sel _ [0, 1]) (fun w h => h.sel _ rfl (by decide)) rfl ?_
    refine tb_float (i := 0) rfl (by kernel_rfl) rfl (wants_none rfl) (yq_of (y_move (fe_t rfl))) ?_
    refine tb_float (i := 1) rfl (by kernel_rfl) rfl (wants_none rfl) (yq_of (y_nilCheck (fe_t rfl))) ?_
    refine tb_float (i := 2) rfl (by kernel_rfl) rfl (wants_none rfl) (yq_of (y_fieldAddr (td := 139) Tryd.underlying141 rfl rfl Tryd.sizeOf139 (o' := 0) rfl (fe_t rfl))) ?_
    refine tb_float (i := 3) rfl (by kernel_rfl) rfl (wants_none rfl) (yq_of (y_ldb 0 Tryd.isAgg139 (fe_t rfl) rfl rfl)) ?_
    refine tb_float (i := 4) rfl (by kernel_rfl) rfl (wants_none rfl) (yq_of (y_move (fe_t rfl))) ?_
    refine tb_float (i := 5) rfl (by kernel_rfl) rfl (wants_none rfl) (yq_of (y_index Tryd.underlying139 Tryd.sizeOf144 (fe_t rfl) (fe_t rfl) (rdl_vec 1 rfl) (by rw [flat_len hcI, hn]) (by decide) (by omega) rfl)) ?_
    refine tb_float (i := 6) rfl (by kernel_rfl) rfl (wants_none rfl) (yq_of (y_fieldAddrE (td := 3) Tryd.underlying144 rfl rfl Tryd.sizeOf3 rfl (fe_t rfl) (rdl_vec 1 rfl) (by rw [flat_len hcI, hn]; omega))) ?_
    refine tb_float (i := 7) rfl (by kernel_rfl) rfl (wants_none rfl) (yq_of (y_ld Tryd.isAgg3 (fe_t rfl) (rdl_vec 1 rfl) (flatG (d := d3) (i := 0) hcI (by omega) rfl))) ?_
    refine tb_float (i := 8) rfl (by kernel_rfl) rfl (wants_none rfl) (yq_of (y_move (fe_t rfl))) ?_
    refine tb_float (i := 9) rfl (by kernel_rfl) rfl (wants_none rfl) (yq_of (y_nilCheck (fe_t rfl))) ?_
    refine tb_float (i := 10) rfl (by kernel_rfl) rfl (wants_none rfl) (yq_of (y_fieldAddr (td := 139) Tryd.underlying141 rfl rfl Tryd.sizeOf139 (o' := 0) rfl (fe_t rfl))) ?_
    refine tb_float (i := 11) rfl (by kernel_rfl) rfl (wants_none rfl) (yq_of (y_ldb 0 Tryd.isAgg139 (fe_t rfl) rfl rfl)) ?_
    refine tb_float (i := 12) rfl (by kernel_rfl) rfl (wants_none rfl) (yq_of (y_move (fe_t rfl))) ?_
    refine tb_float (i := 13) rfl (by kernel_rfl) rfl (wants_none rfl) (yq_of (y_index Tryd.underlying139 Tryd.sizeOf144 (fe_t rfl) (fe_t rfl) (rdl_vec 1 rfl) (by rw [flat_len hcI, hn]) (by decide) (by omega) rfl)) ?_
    refine tb_float (i := 14) rfl (by kernel_rfl) rfl (wants_none rfl) (yq_of (y_fieldAddrE (td := 3) Tryd.underlying144 rfl rfl Tryd.sizeOf3 rfl (fe_t rfl) (rdl_vec 1 rfl) (by rw [flat_len hcI, hn]; omega))) ?_
    refine tb_float (i := 15) rfl (by kernel_rfl) rfl (wants_none rfl) (yq_of (y_ld Tryd.isAgg3 (fe_t rfl) (rdl_vec 1 rfl) (flatG (d := d3) (i := 0) hcI (by omega) rfl))) ?_
    refine tb_float (i := 16) rfl (by kernel_rfl) rfl (wants_none rfl) (yq_of (y_lss (fe_t rfl) (fe_t rfl))) ?_
    refine tb_float (i := 17) rfl (by kernel_rfl) rfl (wants_none rfl) (yq_of (y_assign (fe_t rfl))) ?_
    refine tb_done (by kernel_rfl) ?_
    refine tx_then ?_
    refine tr_ret ?_
    refine tx_ret (res1 Tryd.results110 (rok_t rfl)) (fun w' hS => ?_)
    have h1 := pickT (l := [_, _]) hS [0, 1] rfl (by decide)
    exact ⟨(), trivial, ret_bool (decide_eq_decide.2 (hK)), h1⟩

set_option maxRecDepth 100000 in
set_option maxHeartbeats 4000000 in
theorem swapE {w0 w : World} {T : List Res} {hb mb n c : Nat} {A : Option Addr} {l : List I3} {m : Mp} (hn : l.length = n) (hin : Inj l) (hmo : MapOk l m) (hS : St w0 w (blk hb [.slice A n c, .map (some mb)] :: vec 144 3 (.slice A n c) n (l.flatMap cI3) :: mpR mb m [] :: T)) {i j : Nat} (hi : i < n) (hj : j < n) :
    Calls Tryd.prog 88 #[.pointer (some ⟨hb, 0, none⟩), (.int .i64 ((i : Int))), (.int .i64 ((j : Int)))] w fun e w' => ∃ m' : Mp, MapOk (swp l i j) m' ∧ e = .returned (.tuple #[]) ∧ St w0 w' (blk hb [.slice A n c, .map (some mb)] :: vec 144 3 (.slice A n c) n ((swp l i j).flatMap cI3) :: mpR mb m' [] :: T) := by
  refine calls_tr Tryd.func88 Tryd.ntmps88 rfl rfl hS ?_
  refine tr_seq ?_
  refine tb_draw1 25 [_, _, _] [_, _, _] (fun w h => h.pick [0, 1, 2] _ rfl (by decide)) (fun w h => (h.weak (i := 1) rfl).pick [1, 0, 2] _ rfl (by decide)) rfl ?_
  refine tb_float (i := 0) rfl (by kernel_rfl) rfl (wants_none rfl) (yq_of (y_move (fe_t rfl))) ?_
  refine tb_float (i := 1) rfl (by kernel_rfl) rfl (wants_none rfl) (yq_of (y_nilCheck (fe_t rfl))) ?_
  refine tb_float (i := 2) rfl (by kernel_rfl) rfl (wants_none rfl) (yq_of (y_fieldAddr (td := 139) Tryd.underlying141 rfl rfl Tryd.sizeOf139 (o' := 0) rfl (fe_t rfl))) ?_
  refine tb_float (i := 3) rfl (by kernel_rfl) rfl (wants_none rfl) (yq_of (y_ldb 1 Tryd.isAgg139 (fe_t rfl) rfl rfl)) ?_
  refine tb_float (i := 4) rfl (by kernel_rfl) rfl (wants_none rfl) (yq_of (y_move (fe_t rfl))) ?_
  refine tb_float (i := 5) rfl (by kernel_rfl) rfl (wants_none rfl) (yq_of (y_move (fe_t rfl))) ?_
  refine tb_float (i := 6) rfl (by kernel_rfl) rfl (wants_none rfl) (yq_of (y_nilCheck (fe_t rfl))) ?_
  refine tb_float (i := 7) rfl (by kernel_rfl) rfl (wants_none rfl) (yq_of (y_fieldAddr (td := 139) Tryd.underlying141 rfl rfl Tryd.sizeOf139 (o' := 0) rfl (fe_t rfl))) ?_
  refine tb_float (i := 8) rfl (by kernel_rfl) rfl (wants_none rfl) (yq_of (y_ldb 1 Tryd.isAgg139 (fe_t rfl) rfl rfl)) ?_
  refine tb_float (i := 9) rfl (by kernel_rfl) rfl (wants_none rfl) (yq_of (y_move (fe_t rfl))) ?_
  refine tb_float (i := 10) rfl (by kernel_rfl) rfl (wants_none rfl) (yq_of (y_move (fe_t rfl))) ?_
  refine tb_float (i := 11) rfl (by kernel_rfl) rfl (wants_none rfl) (yq_of (y_nilCheck (fe_t rfl))) ?_
  refine tb_float (i := 12) rfl (by kernel_rfl) rfl (wants_none rfl) (yq_of (y_fieldAddr (td := 139) Tryd.underlying141 rfl rfl Tryd.sizeOf139 (o' := 0) rfl (fe_t rfl))) ?_
  refine tb_float (i := 13) rfl (by kernel_rfl) rfl (wants_none rfl) (yq_of (y_ldb 1 Tryd.isAgg139 (fe_t rfl) rfl rfl)) ?_
  refine tb_float (i := 14) rfl (by kernel_rfl) rfl (wants_none rfl) (yq_of (y_move (fe_t rfl))) ?_
  refine tb_float (i := 15) rfl (by kernel_rfl) rfl (wants_none rfl) (yq_of (y_indexR Tryd.underlying139 Tryd.sizeOf144 (fe_t rfl) (fe_t rfl) (rch_w 0 rfl (by omega)) (by omega) rfl)) ?_
  refine tb_float1 (i := 16) rfl (by kernel_rfl) (by kernel_rfl) rfl (wants_none rfl) (yq_of (y_ldA (cs := cI3 (gl l j)) Tryd.isAgg144 Tryd.sizeOf144 (fe_t rfl) (rdl_vec 1 rfl) rfl (by decide) (flatGA (d := d3) hcI (by omega)))) ?_
  refine tb_float (i := 17) rfl (by kernel_rfl) rfl (wants_none rfl) (yq_of (y_move (fe_t rfl))) ?_
  refine tb_float (i := 18) rfl (by kernel_rfl) rfl (wants_none rfl) (yq_of (y_nilCheck (fe_t rfl))) ?_
  refine tb_float (i := 19) rfl (by kernel_rfl) rfl (wants_none rfl) (yq_of (y_fieldAddr (td := 139) Tryd.underlying141 rfl rfl Tryd.sizeOf139 (o' := 0) rfl (fe_t rfl))) ?_
  refine tb_float (i := 20) rfl (by kernel_rfl) rfl (wants_none rfl) (yq_of (y_ldb 1 Tryd.isAgg139 (fe_t rfl) rfl rfl)) ?_
  refine tb_float (i := 21) rfl (by kernel_rfl) rfl (wants_none rfl) (yq_of (y_move (fe_t rfl))) ?_
  refine tb_float (i := 22) rfl (by kernel_rfl) rfl (wants_none rfl) (yq_of (y_indexR Tryd.underlying139 Tryd.sizeOf144 (fe_t rfl) (fe_t rfl) (rch_w 0 rfl (by omega)) (by omega) rfl)) ?_
  refine tb_float1 (i := 23) rfl (by kernel_rfl) (by kernel_rfl) rfl (wants_none rfl) (yq_of (y_ldA (cs := cI3 (gl l i)) Tryd.isAgg144 Tryd.sizeOf144 (fe_t rfl) (rdl_vec 1 rfl) rfl (by decide) (flatGA (d := d3) hcI (by omega)))) ?_
  refine tb_float (i := 24) rfl (by kernel_rfl) rfl (wants_none rfl) (yq_of (y_indexR Tryd.underlying139 Tryd.sizeOf144 (fe_t rfl) (fe_t rfl) (rch_w 0 rfl (by omega)) (by omega) rfl)) ?_
  refine tb_one2 (i := 25) rfl (by kernel_rfl) (by kernel_rfl) (wants_none rfl) (oj_storeR (i := 1) (gl l j) hcI Tryd.sizeOf144 (fe_t rfl) (fe_t rfl) rfl rfl rfl (by omega) (by decide) (⟨fun w h => (h.weak (i := 1) rfl).pick [1, 0, 2] _ rfl (by decide), ?_⟩))
  refine tb_float (i := 26) rfl (by kernel_rfl) rfl (wants_none rfl) (yq_of (y_indexR Tryd.underlying139 Tryd.sizeOf144 (fe_t rfl) (fe_t rfl) (rch_w 0 rfl (by omega)) (by omega) rfl)) ?_
  refine tb_one2 (i := 27) rfl (by kernel_rfl) (by kernel_rfl) (wants_none rfl) (oj_storeR (i := 1) (gl l i) hcI Tryd.sizeOf144 (fe_t rfl) (fe_t rfl) rfl rfl rfl (by rw [List.length_set]; omega) (by decide) (⟨fun w h => (h.weak (i := 1) rfl).pick [1, 0, 2] _ rfl (by decide), ?_⟩))
  refine tb_done (by kernel_rfl) ?_
  refine tx_then ?_
  refine tr_as (r' := vec 144 3 (.slice A n c) n ((swp l i j).flatMap cI3)) 1 rfl rfl ?_
  have hn2 : (swp l i j).length = n := by rw [swp_len]; exact hn
  refine tb_draw 26 (sel _ [0, 1]) (fun w h => h.sel _ rfl (by decide)) rfl ?_
  refine tb_float (i := 0) rfl (by kernel_rfl) rfl (wants_none rfl) (yq_of (y_move (fe_t rfl))) ?_
  refine tb_float (i := 1) rfl (by kernel_rfl) rfl (wants_none rfl) (yq_of (y_nilCheck (fe_t rfl))) ?_
  refine tb_float (i := 2) rfl (by kernel_rfl) rfl (wants_none rfl) (yq_of (y_fieldAddr (td := 69) Tryd.underlying141 rfl rfl Tryd.sizeOf69 (o' := 1) rfl (fe_t rfl))) ?_
  refine tb_float (i := 3) rfl (by kernel_rfl) rfl (wants_none rfl) (yq_of (y_ldb 0 Tryd.isAgg69 (fe_t rfl) rfl rfl)) ?_
  refine tb_float (i := 4) rfl (by kernel_rfl) rfl (wants_none rfl) (yq_of (y_move (fe_t rfl))) ?_
  refine tb_float (i := 5) rfl (by kernel_rfl) rfl (wants_none rfl) (yq_of (y_nilCheck (fe_t rfl))) ?_
  refine tb_float (i := 6) rfl (by kernel_rfl) rfl (wants_none rfl) (yq_of (y_fieldAddr (td := 139) Tryd.underlying141 rfl rfl Tryd.sizeOf139 (o' := 0) rfl (fe_t rfl))) ?_
  refine tb_float (i := 7) rfl (by kernel_rfl) rfl (wants_none rfl) (yq_of (y_ldb 0 Tryd.isAgg139 (fe_t rfl) rfl rfl)) ?_
  refine tb_float (i := 8) rfl (by kernel_rfl) rfl (wants_none rfl) (yq_of (y_move (fe_t rfl))) ?_
  refine tb_float (i := 9) rfl (by kernel_rfl) rfl (wants_none rfl) (yq_of (y_index Tryd.underlying139 Tryd.sizeOf144 (fe_t rfl) (fe_t rfl) (rdl_vec 1 rfl) (by rw [flat_len hcI, hn2]) (by decide) (by omega) rfl)) ?_
  refine tb_float (i := 10) rfl (by kernel_rfl) rfl (wants_none rfl) (yq_of (y_fieldAddrE (td := 3) Tryd.underlying144 rfl rfl Tryd.sizeOf3 rfl (fe_t rfl) (rdl_vec 1 rfl) (by rw [flat_len hcI, hn2]; omega))) ?_
  refine tb_float (i := 11) rfl (by kernel_rfl) rfl (wants_none rfl) (yq_of (y_ld Tryd.isAgg3 (fe_t rfl) (rdl_vec 1 rfl) (flatG (d := d3) (i := 0) hcI (by omega) rfl))) ?_
  refine tb_float (i := 12) rfl (by kernel_rfl) rfl (wants_none rfl) (yq_of (y_move (fe_t rfl))) ?_
  refine tb_float (i := 13) rfl (by kernel_rfl) rfl (wants_none rfl) (yq_of (y_nilCheck (fe_t rfl))) ?_
  refine tb_float (i := 14) rfl (by kernel_rfl) rfl (wants_none rfl) (yq_of (y_fieldAddr (td := 69) Tryd.underlying141 rfl rfl Tryd.sizeOf69 (o' := 1) rfl (fe_t rfl))) ?_
  refine tb_float (i := 15) rfl (by kernel_rfl) rfl (wants_none rfl) (yq_of (y_ldb 0 Tryd.isAgg69 (fe_t rfl) rfl rfl)) ?_
  refine tb_float (i := 16) rfl (by kernel_rfl) rfl (wants_none rfl) (yq_of (y_move (fe_t rfl))) ?_
  refine tb_float (i := 17) rfl (by kernel_rfl) rfl (wants_none rfl) (yq_of (y_nilCheck (fe_t rfl))) ?_
  refine tb_float (i := 18) rfl (by kernel_rfl) rfl (wants_none rfl) (yq_of (y_fieldAddr (td := 139) Tryd.underlying141 rfl rfl Tryd.sizeOf139 (o' := 0) rfl (fe_t rfl))) ?_
  refine tb_float (i := 19) rfl (by kernel_rfl) rfl (wants_none rfl) (yq_of (y_ldb 0 Tryd.isAgg139 (fe_t rfl) rfl rfl)) ?_
  refine tb_float (i := 20) rfl (by kernel_rfl) rfl (wants_none rfl) (yq_of (y_move (fe_t rfl))) ?_
  refine tb_float (i := 21) rfl (by kernel_rfl) rfl (wants_none rfl) (yq_of (y_index Tryd.underlying139 Tryd.sizeOf144 (fe_t rfl) (fe_t rfl) (rdl_vec 1 rfl) (by rw [flat_len hcI, hn2]) (by decide) (by omega) rfl)) ?_
  refine tb_float (i := 22) rfl (by kernel_rfl) rfl (wants_none rfl) (yq_of (y_fieldAddrE (td := 3) Tryd.underlying144 rfl rfl Tryd.sizeOf3 rfl (fe_t rfl) (rdl_vec 1 rfl) (by rw [flat_len hcI, hn2]; omega))) ?_
  refine tb_float (i := 23) rfl (by kernel_rfl) rfl (wants_none rfl) (yq_of (y_ld Tryd.isAgg3 (fe_t rfl) (rdl_vec 1 rfl) (flatG (d := d3) (i := 0) hcI (by omega) rfl))) ?_
  refine tb_float (i := 24) rfl (by kernel_rfl) rfl (wants_none rfl) (yq_of (y_move (fe_t rfl))) ?_
  refine tb_float (i := 25) rfl (by kernel_rfl) rfl (wants_none rfl) (yq_of (y_move (fe_t rfl))) ?_
  refine tb_one2 (i := 26) rfl (by kernel_rfl) (by kernel_rfl) (wants_none rfl) (oj_mapEntry 2 Tryd.underlying69 Tryd.underlying3 (fe_t rfl) (fe_t rfl) rfl (hmo.g1 (by omega) (by omega)) (fun q1 => ⟨fun w h => h.pick [0, 1] _ rfl (by decide), ?_⟩))
  refine tb_float (i := 27) rfl (by kernel_rfl) rfl (wants_none rfl) (yq_of (y_extract (fe_t rfl) rfl)) ?_
  refine tb_one2 (i := 28) rfl (by kernel_rfl) (by kernel_rfl) (wants_none rfl) (oj_entryStore 2 (fe_t rfl) (fe_t rfl) (fe_t rfl) rfl (⟨fun w h => h.pick [0, 1] _ rfl (by decide), ?_⟩))
  refine tb_one2 (i := 29) rfl (by kernel_rfl) (by kernel_rfl) (wants_none rfl) (oj_mapEntry 2 Tryd.underlying69 Tryd.underlying3 (fe_t rfl) (fe_t rfl) rfl (hmo.g2 (by omega) (by omega)) (fun q2 => ⟨fun w h => h.pick [0, 1] _ rfl (by decide), ?_⟩))
  refine tb_float (i := 30) rfl (by kernel_rfl) rfl (wants_none rfl) (yq_of (y_extract (fe_t rfl) rfl)) ?_
  refine tb_one2 (i := 31) rfl (by kernel_rfl) (by kernel_rfl) (wants_none rfl) (oj_entryStore 2 (fe_t rfl) (fe_t rfl) (fe_t rfl) rfl (⟨fun w h => h.pick [0, 1] _ rfl (by decide), ?_⟩))
  refine tb_done (by kernel_rfl) ?_
  refine tx_end (res0 Tryd.results88 ) (fun w' hS => ?_)
  have h1 := pickT (l := [_, _, _]) hS [0, 1, 2] rfl (by decide)
  exact ⟨_, hmo.swp hin (by omega) (by omega), rfl, h1⟩

end Go.Proofs.YtfcpmcdlgkfolaaDoor.Heap

namespace Go.Proofs.YtfcpmcdlgkfolaaDoor.Heap
open Go.RowKit Go.Proofs.YtfcpmcdlgkfolaaDoor.E Go.Proofs.YtfcpmcdlgkfolaaDoor.Big

set_option maxRecDepth 100000 in
set_option maxHeartbeats 8000000 in
theorem fixE {w0 w : World} {T : List Res} {hb mb n c : Nat} {A : Option Addr} {l : List I3} {m : Mp} (hn : l.length = n) (hin : Inj l) (hmo : MapOk l m) (hS : St w0 w (blk hb [.slice A n c, .map (some mb)] :: vec 144 3 (.slice A n c) n (l.flatMap cI3) :: mpR mb m [] :: T)) {i0 : Nat} (hah : AH l i0) (hnb : n ≤ 4398046511104) :
    Calls Tryd.prog 87 #[.pointer (some ⟨hb, 0, none⟩), (.int .i64 ((i0 : Int)))] w fun e w' => ∃ q : List I3 × Mp, (Hp q.1 ∧ Same n l q.1 q.2) ∧ e = .returned (.tuple #[]) ∧ St w0 w' (blk hb [.slice A n c, .map (some mb)] :: vec 144 3 (.slice A n c) n (q.1.flatMap cI3) :: mpR mb q.2 [] :: T) := by
  refine calls_tr Tryd.func87 Tryd.ntmps87 rfl rfl hS ?_
  refine tr_seq ?_
  refine tr_block ?_
  refine tr_loop3 [1, 5, 6, 7, 8, 9, 10, 11, 12, 13, 14, 15, 16, 17, 18, 19, 20, 21, 22, 23] (fun (i : Nat) (l1 : List I3) (m1 : Mp) => [(1, .int .i64 (i : Int))]) 0 (fun (i : Nat) (l1 : List I3) (m1 : Mp) => [(1, vec 144 3 (.slice A n c) n (l1.flatMap cI3)), (2, mpR mb m1 [])]) (fun (i : Nat) (l1 : List I3) (m1 : Mp) => AH l1 i ∧ Same n l l1 m1) (fun (i : Nat) (l1 : List I3) (m1 : Mp) => i) (i0) (l) (m) (cov_cons (by first | rfl | exact v_int (by omega) | exact v_bool (by simp [*])) (cov_nil)) (fun w h => h) ?_ ?_
  · try dsimp only
    exact ⟨hah, hn, hin, hmo, fun _ => Iff.rfl⟩
  intro i l1 m1 hp
  obtain ⟨ha1, hs1⟩ := hp
  have hl1 := hs1.len
  have hi1 := ha1.lt
  refine tr_seq ?_
  refine tr_seq ?_
  refine tr_region ?_
  refine tl_step rfl (oj_val (y_move (fe_t rfl)) ?_)
  refine tl_step rfl (oj_val (y_gtr (fe_t rfl) fe_c) ?_)
  refine tl_step rfl (oj_val (y_move (fe_t rfl)) ?_)
  refine tl_splitp (d := 7) rfl (fun hq1 => ?_) (fun hq2 => ?_)
  · refine tl_want rfl rfl rfl (oj_val (y_move (fe_t rfl)) ?_)
    refine tl_want rfl rfl rfl (oj_val (y_move (fe_t rfl)) ?_)
    refine tl_want rfl rfl rfl (oj_val (y_move (fe_t rfl)) ?_)
    refine tl_want rfl rfl rfl (oj_val (y_as (b := ((i - 1 : Nat) : Int)) (y_sub (fe_t rfl) fe_c (by omega)) (by omega)) ?_)
    refine tl_want rfl rfl rfl (oj_val (y_as (b := (((i - 1) / 2 : Nat) : Int)) (y_quo (fe_t rfl) fe_c (by omega)) (by omega)) ?_)
    refine tl_want rfl rfl rfl (oj_call2 Tryd.call110 fe_f (fel_cons (fe_t rfl) (fel_cons (fe_t rfl) (fel_cons (fe_t rfl) fel_nil))) (fun w' hS => lessE hl1 (pickT (l := [_, _, _]) hS [0, 1, 2] rfl (by decide)) (i := i) (j := ((i - 1) / 2)) (by omega) (by omega)) (fun _ _ => ?_))
    refine tl_step rfl (oj_val (y_pickt (fe_t rfl) (fe_t rfl)) ?_)
    refine tl_nil ?_
    refine tx_then ?_
    refine tr_condp (fe_t rfl) (fun hq3 => ?_) (fun hq4 => ?_)
    · refine tr_skip ?_
      refine tx_then ?_
      refine tr_block ?_
      refine tr_seq ?_
      refine tr_region ?_
      refine tl_step rfl (oj_val (y_move (fe_t rfl)) ?_)
      refine tl_step rfl (oj_val (y_move (fe_t rfl)) ?_)
      refine tl_step rfl (oj_val (y_move (fe_t rfl)) ?_)
      refine tl_step rfl (oj_val (y_as (b := ((i - 1 : Nat) : Int)) (y_sub (fe_t rfl) fe_c (by omega)) (by omega)) ?_)
      refine tl_step rfl (oj_val (y_as (b := (((i - 1) / 2 : Nat) : Int)) (y_quo (fe_t rfl) fe_c (by omega)) (by omega)) ?_)
      refine tl_step rfl (oj_call2 Tryd.call88 fe_f (fel_cons (fe_t rfl) (fel_cons (fe_t rfl) (fel_cons (fe_t rfl) fel_nil))) (fun w' hS => swapE hl1 hs1.inj hs1.map (pickT (l := [_, _, _]) hS [0, 1, 2] rfl (by decide)) (i := i) (j := ((i - 1) / 2)) (by omega) (by omega)) (fun m4 hm4 => ?_))
      refine tl_nil ?_
      refine tx_then ?_
      refine tr_region ?_
      refine tl_step rfl (oj_val (y_move (fe_t rfl)) ?_)
      refine tl_step rfl (oj_val (y_as (b := ((i - 1 : Nat) : Int)) (y_sub (fe_t rfl) fe_c (by omega)) (by omega)) ?_)
      refine tl_step rfl (oj_val (y_as (b := (((i - 1) / 2 : Nat) : Int)) (y_quo (fe_t rfl) fe_c (by omega)) (by omega)) ?_)
      refine tl_step rfl (oj_val (y_assign (fe_t rfl)) ?_)
      refine tl_nil ?_
      refine tx_in ?_
      apply tx_back3 (((i - 1) / 2)) (swp l1 i ((i - 1) / 2)) (m4)
      · exact (cov_cons (by first | rfl | exact v_int (by omega) | exact v_bool (by simp [*])) (cov_nil))
      · repeat (first | exact over_nil | refine over_put rfl ?_ | refine over_drop rfl ?_)
      · exact fun w h => h
      · exact ⟨⟨ha1.up (by omega) (by assumption), hs1.swp (by omega) (by omega) hm4⟩, by omega⟩
    · refine tr_exit ?_
      refine tx_then_exit ?_
      refine tx_then_exit ?_
      refine tx_in_exit ?_
      refine tx_then ?_
      refine tr_block ?_
      refine tr_loop3 [1, 4, 24, 25, 26, 27, 28, 29, 30, 31, 32, 33, 34, 35, 36, 37, 38, 39, 40, 41, 42, 43, 44, 45, 46, 47, 48, 49, 50, 51, 52, 53, 54, 55, 56, 57, 58, 59, 60] (fun (q : Nat) (l2 : List I3) (m3 : Mp) => [(1, .int .i64 (q : Int))]) 0 (fun (q : Nat) (l2 : List I3) (m3 : Mp) => [(1, vec 144 3 (.slice A n c) n (l2.flatMap cI3)), (2, mpR mb m3 [])]) (fun (q : Nat) (l2 : List I3) (m3 : Mp) => DH l2 q ∧ Same n l l2 m3) (fun (q : Nat) (l2 : List I3) (m3 : Mp) => n - q) (i) (l1) (m1) (cov_cons (by first | rfl | exact v_int (by omega) | exact v_bool (by simp [*])) (cov_nil)) (fun w h => h) ?_ ?_
      · try dsimp only
        exact ⟨ha1.down (fun h0 => by first | assumption | (exfalso; omega)), hs1⟩
      intro q l2 m3 hp
      obtain ⟨ha2, hs2⟩ := hp
      have hl2 := hs2.len
      have hi2 := ha2.lt
      refine tr_block ?_
      refine tr_seq ?_
      refine tr_region ?_
      refine tl_step rfl (oj_val (y_move (fe_t rfl)) ?_)
      refine tl_step rfl (oj_val (y_as (b := ((2 * q : Nat) : Int)) (y_mul fe_c (fe_t rfl) (by omega)) (by omega)) ?_)
      refine tl_step rfl (oj_val (y_as (b := ((2 * q + 1 : Nat) : Int)) (y_add (fe_t rfl) fe_c (by omega)) (by omega)) ?_)
      refine tl_step rfl (oj_val (y_assign (fe_t rfl)) ?_)
      refine tl_nil ?_
      refine tx_then ?_
      refine tr_seq ?_
      refine tr_seq ?_
      refine tr_region ?_
      refine tl_step rfl (oj_val (y_move (fe_t rfl)) ?_)
      refine tl_step rfl (oj_val (y_move (fe_t rfl)) ?_)
      refine tl_step rfl (oj_val (y_nilCheck (fe_t rfl)) ?_)
      refine tl_step rfl (oj_val (y_fieldAddr (td := 139) Tryd.underlying141 rfl rfl Tryd.sizeOf139 (o' := 0) rfl (fe_t rfl)) ?_)
      refine tl_step rfl (oj_val (y_ldb 0 Tryd.isAgg139 (fe_t rfl) rfl rfl) ?_)
      refine tl_step rfl (oj_val (y_len Tryd.underlying139 (fe_t rfl)) ?_)
      refine tl_step rfl (oj_val (y_geq (fe_t rfl) (fe_t rfl)) ?_)
      refine tl_nil ?_
      refine tx_then ?_
      refine tr_condp (fe_t rfl) (fun hq5 => ?_) (fun hq6 => ?_)
      · refine tr_ret ?_
        refine tx_then_ret ?_
        refine tx_in_ret ?_
        refine tx_then_ret ?_
        refine tx_in_ret ?_
        refine tx_ret (res0 Tryd.results87 ) (fun w' hS => ?_)
        have h1 := pickT (l := [_, _, _]) hS [0, 1, 2] rfl (by decide)
        exact ⟨(l2, m3), ⟨ha2.leaf (by omega), hs2⟩, rfl, h1⟩
      · refine tr_skip ?_
        refine tx_then ?_
        refine tr_seq ?_
        refine tr_seq ?_
        refine tr_region ?_
        refine tl_step rfl (oj_val (y_move (fe_t rfl)) ?_)
        refine tl_step rfl (oj_val (y_as (b := ((2 * q + 2 : Nat) : Int)) (y_add (fe_t rfl) fe_c (by omega)) (by omega)) ?_)
        refine tl_step rfl (oj_val (y_move (fe_t rfl)) ?_)
        refine tl_step rfl (oj_val (y_nilCheck (fe_t rfl)) ?_)
        refine tl_step rfl (oj_val (y_fieldAddr (td := 139) Tryd.underlying141 rfl rfl Tryd.sizeOf139 (o' := 0) rfl (fe_t rfl)) ?_)
        refine tl_step rfl (oj_val (y_ldb 0 Tryd.isAgg139 (fe_t rfl) rfl rfl) ?_)
        refine tl_step rfl (oj_val (y_len Tryd.underlying139 (fe_t rfl)) ?_)
        refine tl_step rfl (oj_val (y_lss (fe_t rfl) (fe_t rfl)) ?_)
        refine tl_step rfl (oj_val (y_move (fe_t rfl)) ?_)
        refine tl_splitp (d := 42) rfl (fun hq7 => ?_) (fun hq8 => ?_)
        · refine tl_want rfl rfl rfl (oj_val (y_move (fe_t rfl)) ?_)
          refine tl_want rfl rfl rfl (oj_val (y_move (fe_t rfl)) ?_)
          refine tl_want rfl rfl rfl (oj_val (y_as (b := ((2 * q + 2 : Nat) : Int)) (y_add (fe_t rfl) fe_c (by omega)) (by omega)) ?_)
          refine tl_want rfl rfl rfl (oj_val (y_move (fe_t rfl)) ?_)
          refine tl_want rfl rfl rfl (oj_call2 Tryd.call110 fe_f (fel_cons (fe_t rfl) (fel_cons (fe_t rfl) (fel_cons (fe_t rfl) fel_nil))) (fun w' hS => lessE hl2 (pickT (l := [_, _, _]) hS [0, 1, 2] rfl (by decide)) (i := 2 * q + 2) (j := 2 * q + 1) (by omega) (by omega)) (fun _ _ => ?_))
          refine tl_step rfl (oj_val (y_pickt (fe_t rfl) (fe_t rfl)) ?_)
          refine tl_nil ?_
          refine tx_then ?_
          refine tr_condp (fe_t rfl) (fun hq9 => ?_) (fun hq10 => ?_)
          · refine tr_region ?_
            refine tl_step rfl (oj_val (y_move (fe_t rfl)) ?_)
            refine tl_step rfl (oj_val (y_as (b := ((2 * q + 2 : Nat) : Int)) (y_add (fe_t rfl) fe_c (by omega)) (by omega)) ?_)
            refine tl_step rfl (oj_val (y_assign (fe_t rfl)) ?_)
            refine tl_nil ?_
            refine tx_then ?_
            refine tr_seq ?_
            refine tr_seq ?_
            have hkid := kid_r (l := l2) (k := q) (by omega) (by assumption)
            refine tr_region ?_
            refine tl_step rfl (oj_val (y_move (fe_t rfl)) ?_)
            refine tl_step rfl (oj_val (y_move (fe_t rfl)) ?_)
            refine tl_step rfl (oj_val (y_move (fe_t rfl)) ?_)
            refine tl_step rfl (oj_call2 Tryd.call110 fe_f (fel_cons (fe_t rfl) (fel_cons (fe_t rfl) (fel_cons (fe_t rfl) fel_nil))) (fun w' hS => lessE hl2 (pickT (l := [_, _, _]) hS [0, 1, 2] rfl (by decide)) (i := 2 * q + 2) (j := q) (by omega) (by omega)) (fun _ _ => ?_))
            refine tl_step rfl (oj_val (y_notp (fe_t rfl)) ?_)
            refine tl_nil ?_
            refine tx_then ?_
            refine tr_condp (fe_t rfl) (fun hq11 => ?_) (fun hq12 => ?_)
            · have hnl := hq11
              refine tr_ret ?_
              refine tx_then_ret ?_
              refine tx_in_ret ?_
              refine tx_then_ret ?_
              refine tx_in_ret ?_
              refine tx_ret (res0 Tryd.results87 ) (fun w' hS => ?_)
              have h1 := pickT (l := [_, _, _]) hS [0, 1, 2] rfl (by decide)
              exact ⟨(l2, m3), ⟨ha2.done hkid hnl, hs2⟩, rfl, h1⟩
            · have hlt := Decidable.not_not.1 hq12
              refine tr_skip ?_
              refine tx_then ?_
              refine tr_seq ?_
              refine tr_region ?_
              refine tl_step rfl (oj_val (y_move (fe_t rfl)) ?_)
              refine tl_step rfl (oj_val (y_move (fe_t rfl)) ?_)
              refine tl_step rfl (oj_val (y_move (fe_t rfl)) ?_)
              refine tl_step rfl (oj_call2 Tryd.call88 fe_f (fel_cons (fe_t rfl) (fel_cons (fe_t rfl) (fel_cons (fe_t rfl) fel_nil))) (fun w' hS => swapE hl2 hs2.inj hs2.map (pickT (l := [_, _, _]) hS [0, 1, 2] rfl (by decide)) (i := 2 * q + 2) (j := q) (by omega) (by omega)) (fun m5 hm5 => ?_))
              refine tl_nil ?_
              refine tx_then ?_
              refine tr_region ?_
              refine tl_step rfl (oj_val (y_move (fe_t rfl)) ?_)
              refine tl_step rfl (oj_val (y_assign (fe_t rfl)) ?_)
              refine tl_nil ?_
              refine tx_in ?_
              apply tx_back3 (2 * q + 2) (swp l2 (2 * q + 2) q) (m5)
              · exact (cov_cons (by first | rfl | exact v_int (by omega) | exact v_bool (by simp [*])) (cov_nil))
              · repeat (first | exact over_nil | refine over_put rfl ?_ | refine over_drop rfl ?_)
              · exact fun w h => h
              · exact ⟨⟨ha2.next hkid hlt, hs2.swp (by omega) (by omega) hm5⟩, by omega⟩
          · refine tr_skip ?_
            refine tx_then ?_
            refine tr_seq ?_
            refine tr_seq ?_
            have hkid := kid_l (l := l2) (k := q) (by omega) (fun h9 => by first | exact absurd h9.2 (by assumption) | (have := h9.1; omega))
            refine tr_region ?_
            refine tl_step rfl (oj_val (y_move (fe_t rfl)) ?_)
            refine tl_step rfl (oj_val (y_move (fe_t rfl)) ?_)
            refine tl_step rfl (oj_val (y_move (fe_t rfl)) ?_)
            refine tl_step rfl (oj_call2 Tryd.call110 fe_f (fel_cons (fe_t rfl) (fel_cons (fe_t rfl) (fel_cons (fe_t rfl) fel_nil))) (fun w' hS => lessE hl2 (pickT (l := [_, _, _]) hS [0, 1, 2] rfl (by decide)) (i := 2 * q + 1) (j := q) (by omega) (by omega)) (fun _ _ => ?_))
            refine tl_step rfl (oj_val (y_notp (fe_t rfl)) ?_)
            refine tl_nil ?_
            refine tx_then ?_
            refine tr_condp (fe_t rfl) (fun hq13 => ?_) (fun hq14 => ?_)
            · have hnl := hq13
              refine tr_ret ?_
              refine tx_then_ret ?_
              refine tx_in_ret ?_
              refine tx_then_ret ?_
              refine tx_in_ret ?_
              refine tx_ret (res0 Tryd.results87 ) (fun w' hS => ?_)
              have h1 := pickT (l := [_, _, _]) hS [0, 1, 2] rfl (by decide)
              exact ⟨(l2, m3), ⟨ha2.done hkid hnl, hs2⟩, rfl, h1⟩
            · have hlt := Decidable.not_not.1 hq14
              refine tr_skip ?_
              refine tx_then ?_
              refine tr_seq ?_
              refine tr_region ?_
              refine tl_step rfl (oj_val (y_move (fe_t rfl)) ?_)
              refine tl_step rfl (oj_val (y_move (fe_t rfl)) ?_)
              refine tl_step rfl (oj_val (y_move (fe_t rfl)) ?_)
              refine tl_step rfl (oj_call2 Tryd.call88 fe_f (fel_cons (fe_t rfl) (fel_cons (fe_t rfl) (fel_cons (fe_t rfl) fel_nil))) (fun w' hS => swapE hl2 hs2.inj hs2.map (pickT (l := [_, _, _]) hS [0, 1, 2] rfl (by decide)) (i := 2 * q + 1) (j := q) (by omega) (by omega)) (fun m5 hm5 => ?_))
              refine tl_nil ?_
              refine tx_then ?_
              refine tr_region ?_
              refine tl_step rfl (oj_val (y_move (fe_t rfl)) ?_)
              refine tl_step rfl (oj_val (y_assign (fe_t rfl)) ?_)
              refine tl_nil ?_
              refine tx_in ?_
              apply tx_back3 (2 * q + 1) (swp l2 (2 * q + 1) q) (m5)
              · exact (cov_cons (by first | rfl | exact v_int (by omega) | exact v_bool (by simp [*])) (cov_nil))
              · repeat (first | exact over_nil | refine over_put rfl ?_ | refine over_drop rfl ?_)
              · exact fun w h => h
              · exact ⟨⟨ha2.next hkid hlt, hs2.swp (by omega) (by omega) hm5⟩, by omega⟩
        · refine tl_skip rfl rfl rfl rfl ?_
          refine tl_skip rfl rfl rfl rfl ?_
          refine tl_skip rfl rfl rfl rfl ?_
          refine tl_skip rfl rfl rfl rfl ?_
          refine tl_skip rfl rfl rfl rfl ?_
          refine tl_step rfl (oj_val (y_pickf (fe_t rfl) fe_c) ?_)
          refine tl_nil ?_
          refine tx_then ?_
          refine tr_condf (fe_t rfl) ?_
          refine tr_skip ?_
          refine tx_then ?_
          refine tr_seq ?_
          refine tr_seq ?_
          have hkid := kid_l (l := l2) (k := q) (by omega) (fun h9 => by first | exact absurd h9.2 (by assumption) | (have := h9.1; omega))
          refine tr_region ?_
          refine tl_step rfl (oj_val (y_move (fe_t rfl)) ?_)
          refine tl_step rfl (oj_val (y_move (fe_t rfl)) ?_)
          refine tl_step rfl (oj_val (y_move (fe_t rfl)) ?_)
          refine tl_step rfl (oj_call2 Tryd.call110 fe_f (fel_cons (fe_t rfl) (fel_cons (fe_t rfl) (fel_cons (fe_t rfl) fel_nil))) (fun w' hS => lessE hl2 (pickT (l := [_, _, _]) hS [0, 1, 2] rfl (by decide)) (i := 2 * q + 1) (j := q) (by omega) (by omega)) (fun _ _ => ?_))
          refine tl_step rfl (oj_val (y_notp (fe_t rfl)) ?_)
          refine tl_nil ?_
          refine tx_then ?_
          refine tr_condp (fe_t rfl) (fun hq15 => ?_) (fun hq16 => ?_)
          · have hnl := hq15
            refine tr_ret ?_
            refine tx_then_ret ?_
            refine tx_in_ret ?_
            refine tx_then_ret ?_
            refine tx_in_ret ?_
            refine tx_ret (res0 Tryd.results87 ) (fun w' hS => ?_)
            have h1 := pickT (l := [_, _, _]) hS [0, 1, 2] rfl (by decide)
            exact ⟨(l2, m3), ⟨ha2.done hkid hnl, hs2⟩, rfl, h1⟩
          · have hlt := Decidable.not_not.1 hq16
            refine tr_skip ?_
            refine tx_then ?_
            refine tr_seq ?_
            refine tr_region ?_
            refine tl_step rfl (oj_val (y_move (fe_t rfl)) ?_)
            refine tl_step rfl (oj_val (y_move (fe_t rfl)) ?_)
            refine tl_step rfl (oj_val (y_move (fe_t rfl)) ?_)
            refine tl_step rfl (oj_call2 Tryd.call88 fe_f (fel_cons (fe_t rfl) (fel_cons (fe_t rfl) (fel_cons (fe_t rfl) fel_nil))) (fun w' hS => swapE hl2 hs2.inj hs2.map (pickT (l := [_, _, _]) hS [0, 1, 2] rfl (by decide)) (i := 2 * q + 1) (j := q) (by omega) (by omega)) (fun m5 hm5 => ?_))
            refine tl_nil ?_
            refine tx_then ?_
            refine tr_region ?_
            refine tl_step rfl (oj_val (y_move (fe_t rfl)) ?_)
            refine tl_step rfl (oj_val (y_assign (fe_t rfl)) ?_)
            refine tl_nil ?_
            refine tx_in ?_
            apply tx_back3 (2 * q + 1) (swp l2 (2 * q + 1) q) (m5)
            · exact (cov_cons (by first | rfl | exact v_int (by omega) | exact v_bool (by simp [*])) (cov_nil))
            · repeat (first | exact over_nil | refine over_put rfl ?_ | refine over_drop rfl ?_)
            · exact fun w h => h
            · exact ⟨⟨ha2.next hkid hlt, hs2.swp (by omega) (by omega) hm5⟩, by omega⟩
  · refine tl_skip rfl rfl rfl rfl ?_
    refine tl_skip rfl rfl rfl rfl ?_
    refine tl_skip rfl rfl rfl rfl ?_
    refine tl_skip rfl rfl rfl rfl ?_
    refine tl_skip rfl rfl rfl rfl ?_
    refine tl_skip rfl rfl rfl rfl ?_
    refine tl_step rfl (oj_val (y_pickf (fe_t rfl) fe_c) ?_)
    refine tl_nil ?_
    refine tx_then ?_
    refine tr_condf (fe_t rfl) ?_
    refine tr_exit ?_
    refine tx_then_exit ?_
    refine tx_then_exit ?_
    refine tx_in_exit ?_
    refine tx_then ?_
    refine tr_block ?_
    refine tr_loop3 [1, 4, 24, 25, 26, 27, 28, 29, 30, 31, 32, 33, 34, 35, 36, 37, 38, 39, 40, 41, 42, 43, 44, 45, 46, 47, 48, 49, 50, 51, 52, 53, 54, 55, 56, 57, 58, 59, 60] (fun (q : Nat) (l2 : List I3) (m3 : Mp) => [(1, .int .i64 (q : Int))]) 0 (fun (q : Nat) (l2 : List I3) (m3 : Mp) => [(1, vec 144 3 (.slice A n c) n (l2.flatMap cI3)), (2, mpR mb m3 [])]) (fun (q : Nat) (l2 : List I3) (m3 : Mp) => DH l2 q ∧ Same n l l2 m3) (fun (q : Nat) (l2 : List I3) (m3 : Mp) => n - q) (i) (l1) (m1) (cov_cons (by first | rfl | exact v_int (by omega) | exact v_bool (by simp [*])) (cov_nil)) (fun w h => h) ?_ ?_
    · try dsimp only
      exact ⟨ha1.down (fun h0 => by first | assumption | (exfalso; omega)), hs1⟩
    intro q l2 m3 hp
    obtain ⟨ha2, hs2⟩ := hp
    have hl2 := hs2.len
    have hi2 := ha2.lt
    refine tr_block ?_
    refine tr_seq ?_
    refine tr_region ?_
    refine tl_step rfl (oj_val (y_move (fe_t rfl)) ?_)
    refine tl_step rfl (oj_val (y_as (b := ((2 * q : Nat) : Int)) (y_mul fe_c (fe_t rfl) (by omega)) (by omega)) ?_)
    refine tl_step rfl (oj_val (y_as (b := ((2 * q + 1 : Nat) : Int)) (y_add (fe_t rfl) fe_c (by omega)) (by omega)) ?_)
    refine tl_step rfl (oj_val (y_assign (fe_t rfl)) ?_)
    refine tl_nil ?_
    refine tx_then ?_
    refine tr_seq ?_
    refine tr_seq ?_
    refine tr_region ?_
    refine tl_step rfl (oj_val (y_move (fe_t rfl)) ?_)
    refine tl_step rfl (oj_val (y_move (fe_t rfl)) ?_)
    refine tl_step rfl (oj_val (y_nilCheck (fe_t rfl)) ?_)
    refine tl_step rfl (oj_val (y_fieldAddr (td := 139) Tryd.underlying141 rfl rfl Tryd.sizeOf139 (o' := 0) rfl (fe_t rfl)) ?_)
    refine tl_step rfl (oj_val (y_ldb 0 Tryd.isAgg139 (fe_t rfl) rfl rfl) ?_)
    refine tl_step rfl (oj_val (y_len Tryd.underlying139 (fe_t rfl)) ?_)
    refine tl_step rfl (oj_val (y_geq (fe_t rfl) (fe_t rfl)) ?_)
    refine tl_nil ?_
    refine tx_then ?_
    refine tr_condp (fe_t rfl) (fun hq17 => ?_) (fun hq18 => ?_)
    · refine tr_ret ?_
      refine tx_then_ret ?_
      refine tx_in_ret ?_
      refine tx_then_ret ?_
      refine tx_in_ret ?_
      refine tx_ret (res0 Tryd.results87 ) (fun w' hS => ?_)
      have h1 := pickT (l := [_, _, _]) hS [0, 1, 2] rfl (by decide)
      exact ⟨(l2, m3), ⟨ha2.leaf (by omega), hs2⟩, rfl, h1⟩
    · refine tr_skip ?_
      refine tx_then ?_
      refine tr_seq ?_
      refine tr_seq ?_
      refine tr_region ?_
      refine tl_step rfl (oj_val (y_move (fe_t rfl)) ?_)
      refine tl_step rfl (oj_val (y_as (b := ((2 * q + 2 : Nat) : Int)) (y_add (fe_t rfl) fe_c (by omega)) (by omega)) ?_)
      refine tl_step rfl (oj_val (y_move (fe_t rfl)) ?_)
      refine tl_step rfl (oj_val (y_nilCheck (fe_t rfl)) ?_)
      refine tl_step rfl (oj_val (y_fieldAddr (td := 139) Tryd.underlying141 rfl rfl Tryd.sizeOf139 (o' := 0) rfl (fe_t rfl)) ?_)
      refine tl_step rfl (oj_val (y_ldb 0 Tryd.isAgg139 (fe_t rfl) rfl rfl) ?_)
      refine tl_step rfl (oj_val (y_len Tryd.underlying139 (fe_t rfl)) ?_)
      refine tl_step rfl (oj_val (y_lss (fe_t rfl) (fe_t rfl)) ?_)
      refine tl_step rfl (oj_val (y_move (fe_t rfl)) ?_)
      refine tl_splitp (d := 42) rfl (fun hq19 => ?_) (fun hq20 => ?_)
      · refine tl_want rfl rfl rfl (oj_val (y_move (fe_t rfl)) ?_)
        refine tl_want rfl rfl rfl (oj_val (y_move (fe_t rfl)) ?_)
        refine tl_want rfl rfl rfl (oj_val (y_as (b := ((2 * q + 2 : Nat) : Int)) (y_add (fe_t rfl) fe_c (by omega)) (by omega)) ?_)
        refine tl_want rfl rfl rfl (oj_val (y_move (fe_t rfl)) ?_)
        refine tl_want rfl rfl rfl (oj_call2 Tryd.call110 fe_f (fel_cons (fe_t rfl) (fel_cons (fe_t rfl) (fel_cons (fe_t rfl) fel_nil))) (fun w' hS => lessE hl2 (pickT (l := [_, _, _]) hS [0, 1, 2] rfl (by decide)) (i := 2 * q + 2) (j := 2 * q + 1) (by omega) (by omega)) (fun _ _ => ?_))
        refine tl_step rfl (oj_val (y_pickt (fe_t rfl) (fe_t rfl)) ?_)
        refine tl_nil ?_
        refine tx_then ?_
        refine tr_condp (fe_t rfl) (fun hq21 => ?_) (fun hq22 => ?_)
        · refine tr_region ?_
          refine tl_step rfl (oj_val (y_move (fe_t rfl)) ?_)
          refine tl_step rfl (oj_val (y_as (b := ((2 * q + 2 : Nat) : Int)) (y_add (fe_t rfl) fe_c (by omega)) (by omega)) ?_)
          refine tl_step rfl (oj_val (y_assign (fe_t rfl)) ?_)
          refine tl_nil ?_
          refine tx_then ?_
          refine tr_seq ?_
          refine tr_seq ?_
          have hkid := kid_r (l := l2) (k := q) (by omega) (by assumption)
          refine tr_region ?_
          refine tl_step rfl (oj_val (y_move (fe_t rfl)) ?_)
          refine tl_step rfl (oj_val (y_move (fe_t rfl)) ?_)
          refine tl_step rfl (oj_val (y_move (fe_t rfl)) ?_)
          refine tl_step rfl (oj_call2 Tryd.call110 fe_f (fel_cons (fe_t rfl) (fel_cons (fe_t rfl) (fel_cons (fe_t rfl) fel_nil))) (fun w' hS => lessE hl2 (pickT (l := [_, _, _]) hS [0, 1, 2] rfl (by decide)) (i := 2 * q + 2) (j := q) (by omega) (by omega)) (fun _ _ => ?_))
          refine tl_step rfl (oj_val (y_notp (fe_t rfl)) ?_)
          refine tl_nil ?_
          refine tx_then ?_
          refine tr_condp (fe_t rfl) (fun hq23 => ?_) (fun hq24 => ?_)
          · have hnl := hq23
            refine tr_ret ?_
            refine tx_then_ret ?_
            refine tx_in_ret ?_
            refine tx_then_ret ?_
            refine tx_in_ret ?_
            refine tx_ret (res0 Tryd.results87 ) (fun w' hS => ?_)
            have h1 := pickT (l := [_, _, _]) hS [0, 1, 2] rfl (by decide)
            exact ⟨(l2, m3), ⟨ha2.done hkid hnl, hs2⟩, rfl, h1⟩
          · have hlt := Decidable.not_not.1 hq24
            refine tr_skip ?_
            refine tx_then ?_
            refine tr_seq ?_
            refine tr_region ?_
            refine tl_step rfl (oj_val (y_move (fe_t rfl)) ?_)
            refine tl_step rfl (oj_val (y_move (fe_t rfl)) ?_)
            refine tl_step rfl (oj_val (y_move (fe_t rfl)) ?_)
            refine tl_step rfl (oj_call2 Tryd.call88 fe_f (fel_cons (fe_t rfl) (fel_cons (fe_t rfl) (fel_cons (fe_t rfl) fel_nil))) (fun w' hS => swapE hl2 hs2.inj hs2.map (pickT (l := [_, _, _]) hS [0, 1, 2] rfl (by decide)) (i := 2 * q + 2) (j := q) (by omega) (by omega)) (fun m5 hm5 => ?_))
            refine tl_nil ?_
            refine tx_then ?_
            refine tr_region ?_
            refine tl_step rfl (oj_val (y_move (fe_t rfl)) ?_)
            refine tl_step rfl (oj_val (y_assign (fe_t rfl)) ?_)
            refine tl_nil ?_
            refine tx_in ?_
            apply tx_back3 (2 * q + 2) (swp l2 (2 * q + 2) q) (m5)
            · exact (cov_cons (by first | rfl | exact v_int (by omega) | exact v_bool (by simp [*])) (cov_nil))
            · repeat (first | exact over_nil | refine over_put rfl ?_ | refine over_drop rfl ?_)
            · exact fun w h => h
            · exact ⟨⟨ha2.next hkid hlt, hs2.swp (by omega) (by omega) hm5⟩, by omega⟩
        · refine tr_skip ?_
          refine tx_then ?_
          refine tr_seq ?_
          refine tr_seq ?_
          have hkid := kid_l (l := l2) (k := q) (by omega) (fun h9 => by first | exact absurd h9.2 (by assumption) | (have := h9.1; omega))
          refine tr_region ?_
          refine tl_step rfl (oj_val (y_move (fe_t rfl)) ?_)
          refine tl_step rfl (oj_val (y_move (fe_t rfl)) ?_)
          refine tl_step rfl (oj_val (y_move (fe_t rfl)) ?_)
          refine tl_step rfl (oj_call2 Tryd.call110 fe_f (fel_cons (fe_t rfl) (fel_cons (fe_t rfl) (fel_cons (fe_t rfl) fel_nil))) (fun w' hS => lessE hl2 (pickT (l := [_, _, _]) hS [0, 1, 2] rfl (by decide)) (i := 2 * q + 1) (j := q) (by omega) (by omega)) (fun _ _ => ?_))
          refine tl_step rfl (oj_val (y_notp (fe_t rfl)) ?_)
          refine tl_nil ?_
          refine tx_then ?_
          refine tr_condp (fe_t rfl) (fun hq25 => ?_) (fun hq26 => ?_)
          · have hnl := hq25
            refine tr_ret ?_
            refine tx_then_ret ?_
            refine tx_in_ret ?_
            refine tx_then_ret ?_
            refine tx_in_ret ?_
            refine tx_ret (res0 Tryd.results87 ) (fun w' hS => ?_)
            have h1 := pickT (l := [_, _, _]) hS [0, 1, 2] rfl (by decide)
            exact ⟨(l2, m3), ⟨ha2.done hkid hnl, hs2⟩, rfl, h1⟩
          · have hlt := Decidable.not_not.1 hq26
            refine tr_skip ?_
            refine tx_then ?_
            refine tr_seq ?_
            refine tr_region ?_
            refine tl_step rfl (oj_val (y_move (fe_t rfl)) ?_)
            refine tl_step rfl (oj_val (y_move (fe_t rfl)) ?_)
            refine tl_step rfl (oj_val (y_move (fe_t rfl)) ?_)
            refine tl_step rfl (oj_call2 Tryd.call88 fe_f (fel_cons (fe_t rfl) (fel_cons (fe_t rfl) (fel_cons (fe_t rfl) fel_nil))) (fun w' hS => swapE hl2 hs2.inj hs2.map (pickT (l := [_, _, _]) hS [0, 1, 2] rfl (by decide)) (i := 2 * q + 1) (j := q) (by omega) (by omega)) (fun m5 hm5 => ?_))
            refine tl_nil ?_
            refine tx_then ?_
            refine tr_region ?_
            refine tl_step rfl (oj_val (y_move (fe_t rfl)) ?_)
            refine tl_step rfl (oj_val (y_assign (fe_t rfl)) ?_)
            refine tl_nil ?_
            refine tx_in ?_
            apply tx_back3 (2 * q + 1) (swp l2 (2 * q + 1) q) (m5)
            · exact (cov_cons (by first | rfl | exact v_int (by omega) | exact v_bool (by simp [*])) (cov_nil))
            · repeat (first | exact over_nil | refine over_put rfl ?_ | refine over_drop rfl ?_)
            · exact fun w h => h
            · exact ⟨⟨ha2.next hkid hlt, hs2.swp (by omega) (by omega) hm5⟩, by omega⟩
      · refine tl_skip rfl rfl rfl rfl ?_
        refine tl_skip rfl rfl rfl rfl ?_
        refine tl_skip rfl rfl rfl rfl ?_
        refine tl_skip rfl rfl rfl rfl ?_
        refine tl_skip rfl rfl rfl rfl ?_
        refine tl_step rfl (oj_val (y_pickf (fe_t rfl) fe_c) ?_)
        refine tl_nil ?_
        refine tx_then ?_
        refine tr_condf (fe_t rfl) ?_
        refine tr_skip ?_
        refine tx_then ?_
        refine tr_seq ?_
        refine tr_seq ?_
        have hkid := kid_l (l := l2) (k := q) (by omega) (fun h9 => by first | exact absurd h9.2 (by assumption) | (have := h9.1; omega))
        refine tr_region ?_
        refine tl_step rfl (oj_val (y_move (fe_t rfl)) ?_)
        refine tl_step rfl (oj_val (y_move (fe_t rfl)) ?_)
        refine tl_step rfl (oj_val (y_move (fe_t rfl)) ?_)
        refine tl_step rfl (oj_call2 Tryd.call110 fe_f (fel_cons (fe_t rfl) (fel_cons (fe_t rfl) (fel_cons (fe_t rfl) fel_nil))) (fun w' hS => lessE hl2 (pickT (l := [_, _, _]) hS [0, 1, 2] rfl (by decide)) (i := 2 * q + 1) (j := q) (by omega) (by omega)) (fun _ _ => ?_))
        refine tl_step rfl (oj_val (y_notp (fe_t rfl)) ?_)
        refine tl_nil ?_
        refine tx_then ?_
        refine tr_condp (fe_t rfl) (fun hq27 => ?_) (fun hq28 => ?_)
        · have hnl := hq27
          refine tr_ret ?_
          refine tx_then_ret ?_
          refine tx_in_ret ?_
          refine tx_then_ret ?_
          refine tx_in_ret ?_
          refine tx_ret (res0 Tryd.results87 ) (fun w' hS => ?_)
          have h1 := pickT (l := [_, _, _]) hS [0, 1, 2] rfl (by decide)
          exact ⟨(l2, m3), ⟨ha2.done hkid hnl, hs2⟩, rfl, h1⟩
        · have hlt := Decidable.not_not.1 hq28
          refine tr_skip ?_
          refine tx_then ?_
          refine tr_seq ?_
          refine tr_region ?_
          refine tl_step rfl (oj_val (y_move (fe_t rfl)) ?_)
          refine tl_step rfl (oj_val (y_move (fe_t rfl)) ?_)
          refine tl_step rfl (oj_val (y_move (fe_t rfl)) ?_)
          refine tl_step rfl (oj_call2 Tryd.call88 fe_f (fel_cons (fe_t rfl) (fel_cons (fe_t rfl) (fel_cons (fe_t rfl) fel_nil))) (fun w' hS => swapE hl2 hs2.inj hs2.map (pickT (l := [_, _, _]) hS [0, 1, 2] rfl (by decide)) (i := 2 * q + 1) (j := q) (by omega) (by omega)) (fun m5 hm5 => ?_))
          refine tl_nil ?_
          refine tx_then ?_
          refine tr_region ?_
          refine tl_step rfl (oj_val (y_move (fe_t rfl)) ?_)
          refine tl_step rfl (oj_val (y_assign (fe_t rfl)) ?_)
          refine tl_nil ?_
          refine tx_in ?_
          apply tx_back3 (2 * q + 1) (swp l2 (2 * q + 1) q) (m5)
          · exact (cov_cons (by first | rfl | exact v_int (by omega) | exact v_bool (by simp [*])) (cov_nil))
          · repeat (first | exact over_nil | refine over_put rfl ?_ | refine over_drop rfl ?_)
          · exact fun w h => h
          · exact ⟨⟨ha2.next hkid hlt, hs2.swp (by omega) (by omega) hm5⟩, by omega⟩

end Go.Proofs.YtfcpmcdlgkfolaaDoor.Heap

namespace Go.Proofs.YtfcpmcdlgkfolaaDoor.Heap
open Go.RowKit Go.Proofs.YtfcpmcdlgkfolaaDoor.E Go.Proofs.YtfcpmcdlgkfolaaDoor.Big

/-- A table: the keys of those that are held. -/
abbrev Tb := Int → Option (Int × Int)
def upd (f : Tb) (i : Int) (v : Option (Int × Int)) : Tb := fun j => if j = i then v else f j
def IsMin (f : Tb) (i : Int) : Prop := ∃ k, f i = some k ∧ ∀ i' k', f i' = some k' → i' ≠ i → lt3 (i, k) (i', k')
def Emp (f : Tb) : Prop := ∀ i, f i = none
theorem IsMin.uniq {f : Tb} {i j : Int} (h : IsMin f i) (h' : IsMin f j) : i = j := by
  obtain ⟨k, h1, h2⟩ := h
  obtain ⟨k', h3, h4⟩ := h'
  apply Classical.byContradiction
  intro hne
  exact lt3_asym (h2 j k' h3 (fun e => hne e.symm)) (h4 i k h1 hne)
open Classical in
/-- Who is first. -/
noncomputable def amin (f : Tb) : Int := if h : ∃ i, IsMin f i then Classical.choose h else 0
theorem amin_eq {f : Tb} {i : Int} (h : IsMin f i) : amin f = i := by
  have he : ∃ i, IsMin f i := ⟨i, h⟩
  unfold amin
  rw [dif_pos he]
  exact (Classical.choose_spec he).uniq h
/-- An operation. -/
structure Op4 where
  kind : Int
  id : Int
  hi : Int
  lo : Int
open Classical in
/-- What is wrong, and the table behind it. -/
noncomputable def err (f : Tb) (o : Op4) : Int :=
  if o.kind < 1 ∨ 4 < o.kind then 5
  else if o.kind = 1 then (if f o.id = none then 0 else 6)
  else if o.kind = 2 then (if Emp f then 3 else 0)
  else (if f o.id = none then 3 else 0)
open Classical in
noncomputable def nxt (f : Tb) (o : Op4) : Tb :=
  if err f o ≠ 0 then f
  else if o.kind = 2 then upd f (amin f) none
  else if o.kind = 3 then upd f o.id none
  else upd f o.id (some (o.hi, o.lo))
/-- The table, what was wrong, who was popped. -/
structure Rn where
  f : Tb
  errs : List Int
  pops : List Int
open Classical in
noncomputable def go (s : Rn) (o : Op4) : Rn := ⟨nxt s.f o, s.errs ++ [err s.f o], if err s.f o = 0 ∧ o.kind = 2 then s.pops ++ [amin s.f] else s.pops⟩
noncomputable def run (l : List Op4) : Rn := l.foldl go ⟨fun _ => none, [], []⟩
theorem run_take {l : List Op4} {k : Nat} (h : k < l.length) : run (l.take (k + 1)) = go (run (l.take k)) l[k] := by
  unfold run
  rw [List.take_succ_eq_append_getElem h, List.foldl_append]; rfl
/-- All of them, the first one first. -/
inductive Dr : Tb → List Int → Prop
  | nil {f : Tb} : Emp f → Dr f []
  | cons {f : Tb} {i : Int} {L : List Int} : IsMin f i → Dr (upd f i none) L → Dr f (i :: L)
theorem IsMin.not_emp {f : Tb} {i : Int} (h : IsMin f i) : ¬ Emp f := fun he => by
  obtain ⟨k, h1, _⟩ := h
  rw [he i] at h1; cases h1
theorem Dr.uniq {f : Tb} {L M : List Int} (h : Dr f L) (h' : Dr f M) : L = M := by
  induction h generalizing M with
  | nil he =>
    cases h' with
    | nil _ => rfl
    | cons hi _ => exact absurd he hi.not_emp
  | cons hi _ ih =>
    cases h' with
    | nil he => exact absurd he hi.not_emp
    | cons hj hr =>
      have := hi.uniq hj
      subst this
      rw [ih hr]

/-- The heap's items are the table's. -/
def Rf (l : List I3) (f : Tb) : Prop := ∀ i k, f i = some k ↔ (i, k) ∈ l
theorem Rf.inj {l : List I3} {f : Tb} (h : Rf l f) {x y : I3} (hx : x ∈ l) (hy : y ∈ l) (e : x.1 = y.1) : x = y := by
  obtain ⟨i, k⟩ := x
  obtain ⟨j, k'⟩ := y
  have h1 := (h i k).2 hx
  have h2 := (h j k').2 hy
  simp only at e
  subst e
  rw [h1] at h2
  cases h2
  rfl
theorem Rf.no {l : List I3} {f : Tb} (h : Rf l f) {i : Int} : f i = none ↔ ∀ x ∈ l, x.1 ≠ i := by
  constructor
  · rintro hn ⟨j, k⟩ hx rfl
    have := (h j k).2 hx
    simp only at hn
    rw [hn] at this; cases this
  · intro hn
    cases hf : f i with
    | none => rfl
    | some k => exact absurd rfl (hn (i, k) ((h i k).1 hf))
theorem Rf.emp {l : List I3} {f : Tb} (h : Rf l f) : Emp f ↔ l.length = 0 := by
  constructor
  · intro he
    cases l with
    | nil => rfl
    | cons x l =>
      obtain ⟨i, k⟩ := x
      have := (h i k).2 (by simp)
      rw [he i] at this; cases this
  · intro hl i
    have : l = [] := List.eq_nil_of_length_eq_zero hl
    subst this
    exact h.no.2 (by simp)
/-- The root is the first one. -/
theorem Rf.root {l : List I3} {f : Tb} (h : Rf l f) (hp : Hp l) (h0 : 0 < l.length) : IsMin f (gl l 0).1 := by
  have hm : gl l 0 ∈ l := mem_gl.2 ⟨0, h0, rfl⟩
  refine ⟨(gl l 0).2, (h _ _).2 hm, fun i k hi hne => ?_⟩
  obtain ⟨q, hq, e⟩ := mem_gl.1 ((h i k).1 hi)
  have := hp.root q hq
  rw [e] at this
  exact lt3_tot this (fun e2 => hne e2)
theorem Rf.del {l l' : List I3} {f : Tb} (h : Rf l f) {x : I3} (hx : x ∈ l) (hl : ∀ y, y ∈ l' ↔ y ∈ l ∧ y ≠ x) : Rf l' (upd f x.1 none) := fun i k => by
  unfold upd
  rw [hl]
  split
  · rename_i e
    subst e
    constructor
    · intro h1; cases h1
    · rintro ⟨h1, h2⟩
      exact absurd (h.inj h1 hx rfl) h2
  · rename_i e
    rw [h i k]
    exact ⟨fun h1 => ⟨h1, fun e2 => e (by rw [← e2])⟩, fun h1 => h1.1⟩
theorem Rf.add {l l' : List I3} {f : Tb} (h : Rf l f) {i : Int} {k : Int × Int} (hn : f i = none) (hl : ∀ y, y ∈ l' ↔ y ∈ l ∨ y = (i, k)) : Rf l' (upd f i (some k)) := fun j k' => by
  unfold upd
  rw [hl]
  split
  · rename_i e
    subst e
    constructor
    · intro h1; cases h1; exact .inr rfl
    · rintro (h1 | h1)
      · rw [(h j k').2 h1] at hn; cases hn
      · cases h1; rfl
  · rename_i e
    rw [h j k']
    exact ⟨fun h1 => .inl h1, fun h1 => h1.resolve_right (fun e2 => e (by cases e2; rfl))⟩
theorem Rf.put {l l' : List I3} {f : Tb} (h : Rf l f) {i : Int} {k k0 : Int × Int} (hx : (i, k0) ∈ l) (hl : ∀ y, y ∈ l' ↔ (y ∈ l ∧ y ≠ (i, k0)) ∨ y = (i, k)) : Rf l' (upd f i (some k)) := fun j k' => by
  unfold upd
  rw [hl]
  split
  · rename_i e
    subst e
    constructor
    · intro h1; cases h1; exact .inr rfl
    · rintro (⟨h1, h2⟩ | h1)
      · exact absurd (h.inj h1 hx rfl) h2
      · cases h1; rfl
  · rename_i e
    rw [h j k']
    exact ⟨fun h1 => .inl ⟨h1, fun e2 => e (by cases e2; rfl)⟩, fun h1 => by
      rcases h1 with h1 | h1
      · exact h1.1
      · exact absurd (by cases h1; rfl) e⟩
/-- Behind the taking of the item at k. -/
theorem cut_facts {l : List I3} {m1 : Mp} {k n : Nat} (hlen : l.length = n + 1) (hk : k ≤ n) (hin : Inj l) (hm1 : MapOk (swp l k n) m1) (hnd : (keys m1).Nodup) :
    ((swp l k n).take n).length = n ∧ Inj ((swp l k n).take n) ∧ MapOk ((swp l k n).take n) (mdel m1 (gl (swp l k n) n).1) ∧ gl (swp l k n) n = gl l k ∧ ∀ x, x ∈ (swp l k n).take n ↔ x ∈ l ∧ x ≠ gl l k := by
  have hin2 := hin.swp (i := k) (j := n) (by omega) (by omega)
  have hl2 : (swp l k n).length = n + 1 := by rw [swp_len]; exact hlen
  have hl : ((swp l k n).take n).length = n := by rw [List.length_take]; omega
  have hg : gl (swp l k n) n = gl l k := by rw [swp_get (by omega) (by omega), if_pos rfl]
  refine ⟨hl, fun i j hi hj e => ?_, ⟨fun i hi => ?_, fun id v hv => ?_⟩, hg, fun x => ?_⟩
  · rw [hl] at hi hj
    rw [take_get hi, take_get hj] at e
    exact hin2 i j (by omega) (by omega) e
  · rw [hl] at hi
    rw [take_get hi, mdel_get hnd]
    split
    · rename_i e
      have := hin2 i n (by omega) (by omega) e
      omega
    · exact hm1.1 i (by omega)
  · rw [mdel_get hnd] at hv
    split at hv
    · cases hv
    · rename_i hne
      obtain ⟨i, hi, e⟩ := hm1.2 id v hv
      have : i ≠ n := fun e2 => hne (by rw [← e, e2])
      exact ⟨i, by omega, by rw [take_get (by omega)]; exact e⟩
  · rw [← swp_mem (l := l) (i := k) (j := n) (by omega) (by omega) x, mem_gl, mem_gl, hl, hl2]
    constructor
    · rintro ⟨i, hi, e⟩
      rw [take_get hi] at e
      refine ⟨⟨i, by omega, e⟩, fun e2 => ?_⟩
      have := hin2 i n (by omega) (by omega) (by rw [e, e2, hg])
      omega
    · rintro ⟨⟨i, hi, e⟩, hne⟩
      have : i ≠ n := fun e2 => hne (by rw [← e, e2, hg])
      exact ⟨i, by omega, by rw [take_get (by omega)]; exact e⟩
/-- A new item at the end. -/
theorem push_facts {l : List I3} {m : Mp} {n : Nat} {x : I3} (hlen : l.length = n) (hin : Inj l) (hm : MapOk l m) (hno : ∀ y ∈ l, y.1 ≠ x.1) : Inj (l ++ [x]) ∧ MapOk (l ++ [x]) (mput m x.1 (.int .i64 ((n : Int)))) ∧ ∀ y, y ∈ l ++ [x] ↔ y ∈ l ∨ y = x := by
  have hg : ∀ i, i < n → gl (l ++ [x]) i = gl l i := fun i hi => by simp [gl, List.getD_eq_getElem?_getD, List.getElem?_append_left (show i < l.length by omega)]
  have hgn : gl (l ++ [x]) n = x := by simp [gl, List.getD_eq_getElem?_getD, ← hlen]
  have hne : ∀ i, i < n → (gl l i).1 ≠ x.1 := fun i hi => hno _ (mem_gl.2 ⟨i, by omega, rfl⟩)
  have hll : (l ++ [x]).length = n + 1 := by simp [hlen]
  refine ⟨fun i j hi hj e => ?_, ⟨fun i hi => ?_, fun id v hv => ?_⟩, fun y => by simp⟩
  · rw [hll] at hi hj
    by_cases h1 : i = n <;> by_cases h2 : j = n
    · omega
    · rw [h1, hgn, hg j (by omega)] at e; exact absurd e.symm (hne j (by omega))
    · rw [h2, hgn, hg i (by omega)] at e; exact absurd e (hne i (by omega))
    · rw [hg i (by omega), hg j (by omega)] at e; exact hin i j (by omega) (by omega) e
  · rw [hll] at hi
    by_cases h1 : i = n
    · rw [h1, hgn, mput_get, if_pos rfl]
    · rw [hg i (by omega), mput_get, if_neg (hne i (by omega))]
      exact hm.1 i (by omega)
  · rw [mput_get] at hv
    split at hv
    · rename_i e; exact ⟨n, by omega, by rw [hgn, e]⟩
    · obtain ⟨i, hi, e⟩ := hm.2 id v hv
      exact ⟨i, by omega, by rw [hg i (by omega)]; exact e⟩
/-- Another key for the item at k. -/
theorem put_facts {l : List I3} {m : Mp} {n k : Nat} {x : I3} (hlen : l.length = n) (hk : k < n) (hin : Inj l) (hm : MapOk l m) (hx : x.1 = (gl l k).1) : Inj (l.set k x) ∧ MapOk (l.set k x) m ∧ ∀ y, y ∈ l.set k x ↔ (y ∈ l ∧ y ≠ gl l k) ∨ y = x := by
  have hg : ∀ i, gl (l.set k x) i = if i = k then x else gl l i := fun i => by
    unfold gl
    rw [List.getD_eq_getElem?_getD, List.getElem?_set]
    by_cases h : i = k
    · subst h; simp [show i < l.length by omega]
    · rw [if_neg (fun e => h e.symm), if_neg h]; simp [List.getD_eq_getElem?_getD]
  have hg1 : ∀ i, (gl (l.set k x) i).1 = (gl l i).1 := fun i => by
    rw [hg]; split
    · rename_i e; rw [e, hx]
    · rfl
  have hll : (l.set k x).length = n := by simp [hlen]
  refine ⟨fun i j hi hj e => ?_, ⟨fun i hi => ?_, fun id v hv => ?_⟩, fun y => ?_⟩
  · rw [hg1, hg1] at e
    exact hin i j (by omega) (by omega) e
  · rw [hg1]; exact hm.1 i (by omega)
  · obtain ⟨i, hi, e⟩ := hm.2 id v hv
    exact ⟨i, by omega, by rw [hg1]; exact e⟩
  · rw [mem_gl, mem_gl]
    constructor
    · rintro ⟨i, hi, e⟩
      rw [hg] at e
      split at e
      · exact .inr e.symm
      · rename_i hne
        refine .inl ⟨⟨i, by omega, e⟩, fun e2 => hne (hin i k (by omega) (by omega) (by rw [e, e2]))⟩
    · rintro (⟨⟨i, hi, e⟩, hne⟩ | e)
      · exact ⟨i, by omega, by rw [hg, if_neg (fun e2 => hne (by rw [← e, e2]))]; exact e⟩
      · exact ⟨k, by omega, by rw [hg, if_pos rfl]; exact e.symm⟩
end Go.Proofs.YtfcpmcdlgkfolaaDoor.Heap

namespace Go.Proofs.YtfcpmcdlgkfolaaDoor.E
open Go.RowKit

section
variable {P : Program} {N : Nat} {w0 : World} {F : Frm} {L : List Res} {d : Option Tmp} {x y : Operand} {v : Value} {ty t kt et : TypeId} {pos : String} {af : Array Edge} {gd : Option (Nat × Bool)} {K : Frm → List Res → Prop} {b : Nat} {m : List (Int × Value)} {its : List It}
theorem mp_nodup (i : Nat) (hk : lget L i = some (mpR b m its)) : ∀ w, St w0 w L → (keys m).Nodup := fun w hS => by
  obtain ⟨es, clock, h, _⟩ := hS.holds i _ hk
  exact h.nodup
theorem vec_cap {e s n c : Nat} {A : Option Addr} {xs : List Value} (i : Nat) (hk : lget L i = some (vec e s (.slice A n c) n xs)) : ∀ w, St w0 w L → n ≤ c := fun w hS => by
  obtain ⟨A', c', h1, h2, _⟩ := OwnV.form (hS.holds i _ hk)
  injection h1 with e1 e2 e3
  omega
theorem y_lookup2n {k : Int} (i : Nat) (hm : P.underlying t = some (.map kt et)) (hkt : P.underlying kt = some (.int .i64)) (hz : ∀ w, (zeroValue et).run P w = .ok v w) (hx : FE N F x (.map (some b))) (hy : FE N F y (.int .i64 k)) (hk : lget L i = some (mpR b m its)) (hg : mget m k = none) :
    Yld P N w0 F L ⟨d, .lookup t x y true, ty, pos, af, gd⟩ (.tuple #[v, .bool false]) := by
  have h := y_lookup2 (d := d) (ty := ty) (pos := pos) (af := af) (gd := gd) (w0 := w0) i hm hkt hz hx hy hk
  rwa [hg] at h
theorem y_lookup2s {k : Int} {u : Value} (i : Nat) (hm : P.underlying t = some (.map kt et)) (hkt : P.underlying kt = some (.int .i64)) (hz : ∀ w, (zeroValue et).run P w = .ok v w) (hx : FE N F x (.map (some b))) (hy : FE N F y (.int .i64 k)) (hk : lget L i = some (mpR b m its)) (hg : mget m k = some u) :
    Yld P N w0 F L ⟨d, .lookup t x y true, ty, pos, af, gd⟩ (.tuple #[u, .bool true]) := by
  have h := y_lookup2 (d := d) (ty := ty) (pos := pos) (af := af) (gd := gd) (w0 := w0) i hm hkt hz hx hy hk
  rwa [hg] at h
/-- As oj_append, for as much as memory bears. -/
theorem oj_appendB {e s bytes n m c i : Nat} {z : Value} {xs news : List Value} {A : Option Addr} (hu : P.underlying t = some (.slice e)) (hi : (P.info? e).map (fun i => (i.zero, i.size, i.bytes)) = some (some z, s, bytes)) (hx : FE N F x v) (hy : FE N F y (.slice A m c))
    (hk : lget L i = some (vec e s v n xs)) (hr : RdL w0 L A news) (hl : news.length = m * s) (hz : z.cells.size = s ∧ 0 < s) (h1 : ∀ u ∈ news, u.oneCell' = true) (hA : 0 < m) (hb : n + m ≤ 4398046511104 ∧ bytes ≤ 32)
    (h : ∀ A' c', n + m ≤ c' → K (fput F d (.slice A' (n + m) c')) (lset L i (vec e s (.slice A' (n + m) c') (n + m) (xs ++ news)))) : OpJ P N w0 F L ⟨d, .call ⟨.builtin .append, #[x, y], #[t, t]⟩, ty, pos, af, gd⟩ K := fun a w hF hS => by
  obtain ⟨inf, h2, h3, h4, h5⟩ := info_parts' hi
  have hbytes : (n + m) * bytes ≤ 140737488355328 := Nat.le_trans (Nat.mul_le_mul hb.1 hb.2) (by omega)
  have h0 : 0 < news.length := by rw [hl]; exact Nat.mul_pos hA hz.2
  rcases hr w hS with hn | ⟨g, o, rfl, hc⟩
  · rw [hn] at h0; simp at h0
  obtain ⟨v', w', hrun, r1, r2, r3⟩ := run_append_ownV (P := P) w t ty e inf z s bytes hu h2 h3 h4 h5 hz.1 hz.2 v n xs (hS.holds i _ hk) ⟨g, o, none⟩ m c news hl (fun j u hu => by rw [Addr.add_lit]; exact hc j u hu) h1 (by unfold maxLen; omega) hbytes
  have hrun2 : (execOp a.eval ⟨d, .call ⟨.builtin .append, #[x, y], #[t, t]⟩, ty, pos, af, gd⟩).run P w = .ok (.value v') w' := by
    simp [execOp, resolve, invoke, builtin, hx a hF, hy a hF, hrun]
  unfold Oper.wp
  rw [hrun2]
  obtain ⟨A', c', rfl, hc', _⟩ := OwnV.form r1
  exact ⟨_, _, h A' c' hc', hF.put _ _, turn_vec hS hk r1 r2 r3⟩
end
theorem two_set : ∀ (j : Nat) (xs : List Value) (a b : Value), j + 2 ≤ xs.length → xs.take j ++ [a, b] ++ xs.drop (j + 2) = (xs.set j a).set (j + 1) b
  | 0, x :: y :: xs, a, b, _ => by simp
  | j + 1, x :: xs, a, b, h => by
    have := two_set j xs a b (by simp at h; omega)
    simpa using this
  | 0, [], _, _, h => by simp at h
  | 0, [_], _, _, h => by simp at h
  | _ + 1, [], _, _, h => by simp at h
end Go.Proofs.YtfcpmcdlgkfolaaDoor.E
namespace Go.Proofs.YtfcpmcdlgkfolaaDoor.Heap
open Go.RowKit Go.Proofs.YtfcpmcdlgkfolaaDoor.E Go.Proofs.YtfcpmcdlgkfolaaDoor.Big

theorem flat_tk : ∀ (l : List I3) (k : Nat), (l.flatMap cI3).take (k * 3) = (l.take k).flatMap cI3
  | [], k => by simp
  | x :: l, 0 => by simp
  | x :: l, k + 1 => by
    rw [List.flatMap_cons, List.take_succ_cons, List.flatMap_cons, ← flat_tk l k, show (k + 1) * 3 = (cI3 x).length + k * 3 by rw [hcI]; omega, List.take_length_add_append]
theorem key_set {l : List I3} {k : Nat} {h o : Int} (hk : k < l.length) : (l.flatMap cI3).take (k * 3 + 1) ++ [.int .u64 h, .int .u64 o] ++ (l.flatMap cI3).drop (k * 3 + 1 + 2) = (l.set k ((gl l k).1, h, o)).flatMap cI3 := by
  have hl := flat_len hcI l
  rw [two_set _ _ _ _ (by omega), flat_set hcI l k hk ((gl l k).1, h, (gl l k).2.2) 1 (.int .u64 h) (by rw [gl_lt hk]; rfl) (by decide)]
  have hk2 : k < (l.set k ((gl l k).1, h, (gl l k).2.2)).length := by rw [List.length_set]; exact hk
  rw [Nat.add_assoc, flat_set hcI _ k hk2 ((gl l k).1, h, o) 2 (.int .u64 o) (by rw [List.getElem_set_self]; rfl) (by decide), List.set_set]
end Go.Proofs.YtfcpmcdlgkfolaaDoor.Heap

namespace Go.Proofs.YtfcpmcdlgkfolaaDoor.Heap
open Go.RowKit Go.Proofs.YtfcpmcdlgkfolaaDoor.E Go.Proofs.YtfcpmcdlgkfolaaDoor.Big

set_option maxRecDepth 100000 in
set_option maxHeartbeats 8000000 in
theorem takeE {w0 w : World} {T : List Res} {hb mb n c : Nat} {A : Option Addr} {l : List I3} {m : Mp} (hn : l.length = n + 1) (hin : Inj l) (hmo : MapOk l m) (hS : St w0 w (blk hb [.slice A (n + 1) c, .map (some mb)] :: vec 144 3 (.slice A (n + 1) c) (n + 1) (l.flatMap cI3) :: mpR mb m [] :: T)) {k : Nat} (hk : k ≤ n) (hp : Hp l) (hnb : n + 1 ≤ 4398046511104) :
    Calls Tryd.prog 63 #[.pointer (some ⟨hb, 0, none⟩), (.int .i64 ((k : Int)))] w fun e w' => ∃ q : List I3 × Mp, (Hp q.1 ∧ q.1.length = n ∧ Inj q.1 ∧ MapOk q.1 q.2 ∧ ∀ x, x ∈ q.1 ↔ x ∈ l ∧ x ≠ gl l k) ∧ e = .returned (.agg #[(.int .i64 ((gl l k).1)), .int .u64 (gl l k).2.1, .int .u64 (gl l k).2.2]) ∧ St w0 w' (blk hb [.slice A n c, .map (some mb)] :: vec 144 3 (.slice A n c) n (q.1.flatMap cI3) :: mpR mb q.2 [] :: T) := by
  refine calls_tr Tryd.func63 Tryd.ntmps63 rfl rfl hS ?_
  refine tr_seq ?_
  refine tr_pure (vec_cap 1 rfl) (fun hcap => ?_)
  refine tr_region ?_
  refine tl_step rfl (oj_alloc Tryd.zeroValue144 (fun bx => ?_))
  refine tl_nil ?_
  refine tx_then ?_
  refine tr_seq ?_
  refine tr_region ?_
  refine tl_step rfl (oj_val (y_move (fe_t rfl)) ?_)
  refine tl_step rfl (oj_val (y_nilCheck (fe_t rfl)) ?_)
  refine tl_step rfl (oj_val (y_fieldAddr (td := 139) Tryd.underlying141 rfl rfl Tryd.sizeOf139 (o' := 0) rfl (fe_t rfl)) ?_)
  refine tl_step rfl (oj_val (y_ldb 1 Tryd.isAgg139 (fe_t rfl) rfl rfl) ?_)
  refine tl_step rfl (oj_val (y_len Tryd.underlying139 (fe_t rfl)) ?_)
  refine tl_step rfl (oj_val (y_as (b := ((n : Nat) : Int)) (y_sub (fe_t rfl) fe_c (by omega)) (by omega)) ?_)
  refine tl_step rfl (oj_val (y_assign (fe_t rfl)) ?_)
  refine tl_nil ?_
  refine tx_then ?_
  refine tr_seq ?_
  refine tr_region ?_
  refine tl_step rfl (oj_val (y_move (fe_t rfl)) ?_)
  refine tl_step rfl (oj_val (y_move (fe_t rfl)) ?_)
  refine tl_step rfl (oj_val (y_move (fe_t rfl)) ?_)
  refine tl_step rfl (oj_call2 Tryd.call88 fe_f (fel_cons (fe_t rfl) (fel_cons (fe_t rfl) (fel_cons (fe_t rfl) fel_nil))) (fun w' hS => swapE hn hin hmo (pickT (l := [_, _, _, _]) hS [1, 2, 3, 0] rfl (by decide)) (i := k) (j := n) (by omega) (by omega)) (fun m4 hm4 => ?_))
  refine tl_nil ?_
  refine tx_then ?_
  refine tr_seq ?_
  have hl1 : (swp l k n).length = n + 1 := by rw [swp_len]; exact hn
  refine tr_region ?_
  refine tl_step rfl (oj_val (y_move (fe_t rfl)) ?_)
  refine tl_step rfl (oj_val (y_nilCheck (fe_t rfl)) ?_)
  refine tl_step rfl (oj_val (y_fieldAddr (td := 139) Tryd.underlying141 rfl rfl Tryd.sizeOf139 (o' := 0) rfl (fe_t rfl)) ?_)
  refine tl_step rfl (oj_val (y_ldb 0 Tryd.isAgg139 (fe_t rfl) rfl rfl) ?_)
  refine tl_step rfl (oj_val (y_move (fe_t rfl)) ?_)
  refine tl_step rfl (oj_val (y_index Tryd.underlying139 Tryd.sizeOf144 (fe_t rfl) (fe_t rfl) (rdl_vec 1 rfl) (by rw [flat_len hcI, hl1]) (by decide) (by omega) rfl) ?_)
  refine tl_step rfl (oj_val (y_ldA (cs := cI3 (gl (swp l k n) n)) Tryd.isAgg144 Tryd.sizeOf144 (fe_t rfl) (rdl_vec 1 rfl) rfl (by decide) (flatGA (d := d3) hcI (by omega))) ?_)
  refine tl_step rfl (oj_alloc Tryd.zeroValue144 (fun bt => ?_))
  refine tl_step rfl (oj_storeW 0 Tryd.sizeOf144 (fe_t rfl) (fe_t rfl) rfl rfl rfl rfl rfl (?_))
  refine tl_nil ?_
  refine tx_then ?_
  refine tr_seq ?_
  refine tr_region ?_
  refine tl_step rfl (oj_val (y_move (fe_t rfl)) ?_)
  refine tl_step rfl (oj_val (y_move (fe_t rfl)) ?_)
  refine tl_step rfl (oj_val (y_nilCheck (fe_t rfl)) ?_)
  refine tl_step rfl (oj_val (y_fieldAddr (td := 139) Tryd.underlying141 rfl rfl Tryd.sizeOf139 (o' := 0) rfl (fe_t rfl)) ?_)
  refine tl_step rfl (oj_val (y_ldb 1 Tryd.isAgg139 (fe_t rfl) rfl rfl) ?_)
  refine tl_step rfl (oj_val (y_move (fe_t rfl)) ?_)
  refine tl_step rfl (oj_val (y_cutH (l := n) Tryd.underlying139 Tryd.sizeOf144 (fe_t rfl) (fe_t rfl) (by omega)) ?_)
  refine tl_step rfl (oj_val (y_nilCheck (fe_t rfl)) ?_)
  refine tl_step rfl (oj_val (y_fieldAddr (td := 139) Tryd.underlying141 rfl rfl Tryd.sizeOf139 (o' := 0) rfl (fe_t rfl)) ?_)
  refine tl_step rfl (oj_store1 1 Tryd.sizeOf139 (fe_t rfl) (fe_t rfl) rfl rfl rfl rfl (?_))
  refine tl_nil ?_
  refine tx_then ?_
  refine tr_seq ?_
  refine tr_pure (mp_nodup 3 rfl) (fun hnd => ?_)
  obtain ⟨hc1, hc2, hc3, hc4, hc5⟩ := cut_facts hn hk hin hm4 hnd
  refine tr_shrink (m := n) 2 rfl (by omega) ?_
  refine tr_as (r' := vec 144 3 (.slice A n c) n (((swp l k n).take n).flatMap cI3)) 2 rfl (congrArg (vec _ _ _ _) (flat_tk _ _)) ?_
  refine tb_draw 6 (sel _ [0, 1, 2, 4]) (fun w h => h.sel _ rfl (by decide)) rfl ?_
  refine tb_float (i := 0) rfl (by kernel_rfl) rfl (wants_none rfl) (yq_of (y_move (fe_t rfl))) ?_
  refine tb_float (i := 1) rfl (by kernel_rfl) rfl (wants_none rfl) (yq_of (y_nilCheck (fe_t rfl))) ?_
  refine tb_float (i := 2) rfl (by kernel_rfl) rfl (wants_none rfl) (yq_of (y_fieldAddr (td := 69) Tryd.underlying141 rfl rfl Tryd.sizeOf69 (o' := 1) rfl (fe_t rfl))) ?_
  refine tb_float (i := 3) rfl (by kernel_rfl) rfl (wants_none rfl) (yq_of (y_ldb 1 Tryd.isAgg69 (fe_t rfl) rfl rfl)) ?_
  refine tb_float (i := 4) rfl (by kernel_rfl) rfl (wants_none rfl) (yq_of (y_fieldAddr (td := 3) Tryd.underlying144 rfl rfl Tryd.sizeOf3 (o' := 0) rfl (fe_t rfl))) ?_
  refine tb_float (i := 5) rfl (by kernel_rfl) rfl (wants_none rfl) (yq_of (y_ldb 0 Tryd.isAgg3 (fe_t rfl) rfl rfl)) ?_
  refine tb_one2 (i := 6) rfl (by kernel_rfl) (by kernel_rfl) (wants_none rfl) (oj_mapDel 3 Tryd.underlying69 Tryd.underlying3 (fe_t rfl) (fe_t rfl) rfl (⟨fun w h => h.pick [0, 1, 2, 4] _ rfl (by decide), ?_⟩))
  refine tb_done (by kernel_rfl) ?_
  refine tx_then ?_
  refine tr_seq ?_
  refine tr_seq ?_
  refine tr_region ?_
  refine tl_step rfl (oj_val (y_move (fe_t rfl)) ?_)
  refine tl_step rfl (oj_val (y_move (fe_t rfl)) ?_)
  refine tl_step rfl (oj_val (y_lss (fe_t rfl) (fe_t rfl)) ?_)
  refine tl_nil ?_
  refine tx_then ?_
  refine tr_condp (fe_t rfl) (fun hq1 => ?_) (fun hq2 => ?_)
  · refine tr_region ?_
    refine tl_step rfl (oj_val (y_move (fe_t rfl)) ?_)
    refine tl_step rfl (oj_val (y_move (fe_t rfl)) ?_)
    refine tl_step rfl (oj_call2 Tryd.call87 fe_f (fel_cons (fe_t rfl) (fel_cons (fe_t rfl) fel_nil)) (fun w' hS => fixE hc1 hc2 hc3 (pickT (l := [_, _, _, _, _]) hS [1, 2, 3, 0, 4] rfl (by decide)) (i0 := k) (AH.cut hp (by omega) (by omega)) (by omega)) (fun q7 hq7 => ?_))
    refine tl_nil ?_
    refine tx_then ?_
    refine tr_seq ?_
    refine tr_region ?_
    refine tl_step rfl (oj_val (y_ldbA 3 Tryd.isAgg144 Tryd.sizeOf144 (fe_t rfl) rfl rfl rfl) ?_)
    refine tl_step rfl (oj_storeW 4 Tryd.sizeOf144 (fe_t rfl) (fe_t rfl) rfl rfl rfl rfl rfl (?_))
    refine tl_nil ?_
    refine tx_then ?_
    refine tr_ret ?_
    refine tx_ret (res1 Tryd.results63 (rok_b 4 Tryd.isAgg144 Tryd.sizeOf144 rfl rfl rfl)) (fun w' hS => ?_)
    have h1 := pickT (l := [_, _, _, _, _]) hS [0, 1, 2] rfl (by decide)
    exact ⟨q7, ⟨hq7.1, hq7.2.len, hq7.2.inj, hq7.2.map, fun x => (hq7.2.mem x).trans (hc5 x)⟩, by rw [← hc4]; rfl, h1⟩
  · refine tr_skip ?_
    refine tx_then ?_
    refine tr_seq ?_
    refine tr_region ?_
    refine tl_step rfl (oj_val (y_ldbA 0 Tryd.isAgg144 Tryd.sizeOf144 (fe_t rfl) rfl rfl rfl) ?_)
    refine tl_step rfl (oj_storeW 4 Tryd.sizeOf144 (fe_t rfl) (fe_t rfl) rfl rfl rfl rfl rfl (?_))
    refine tl_nil ?_
    refine tx_then ?_
    refine tr_ret ?_
    refine tx_ret (res1 Tryd.results63 (rok_b 4 Tryd.isAgg144 Tryd.sizeOf144 rfl rfl rfl)) (fun w' hS => ?_)
    have h1 := pickT (l := [_, _, _, _, _]) hS [1, 2, 3] rfl (by decide)
    have hkn : k = n := by omega
    have hp0 : Hp ((swp l k n).take n) := by
      rw [hkn, swp_self (by omega)]
      exact hp.take n
    exact ⟨((swp l k n).take n, _), ⟨hp0, hc1, hc2, hc3, hc5⟩, by rw [← hc4]; rfl, h1⟩

end Go.Proofs.YtfcpmcdlgkfolaaDoor.Heap

namespace Go.Proofs.YtfcpmcdlgkfolaaDoor.Heap
open Go.RowKit Go.Proofs.YtfcpmcdlgkfolaaDoor.E Go.Proofs.YtfcpmcdlgkfolaaDoor.Big

/-- The heap and the table are one. -/
structure Gd (n : Nat) (l : List I3) (m : Mp) (f : Tb) : Prop where
  len : l.length = n
  hp : Hp l
  inj : Inj l
  map : MapOk l m
  rf : Rf l f
/-- What the queue holds: its slice, its items, where they are. -/
structure Hd where
  A : Option Addr
  n : Nat
  c : Nat
  l : List I3
  m : Mp
open Classical in
/-- Who is popped. -/
noncomputable def pop (f : Tb) (o : Op4) : Int := if err f o = 0 ∧ o.kind = 2 then amin f else 0
variable {n : Nat} {l : List I3} {m : Mp} {f : Tb} {o : Op4}
theorem Gd.no (h : Gd n l m f) {i : Int} (hm : mget m i = none) : f i = none := h.rf.no.2 fun x hx e => by
  obtain ⟨q, hq, hg⟩ := mem_gl.1 hx
  have := h.map.1 q hq
  rw [hg, e, hm] at this
  cases this
theorem Gd.at (h : Gd n l m f) (i : Int) : mget m i = none ∨ ∃ k, k < n ∧ mget m i = some (.int .i64 ((k : Int))) ∧ (gl l k).1 = i := by
  cases hm : mget m i with
  | none => exact .inl rfl
  | some v =>
    obtain ⟨k, hk, e⟩ := h.map.2 i v hm
    have := h.map.1 k hk
    rw [e, hm] at this
    exact .inr ⟨k, by rw [← h.len]; exact hk, this, e⟩
theorem Gd.yes (h : Gd n l m f) {i : Int} {k : Nat} (hk : k < n) (e : (gl l k).1 = i) : f i = some (gl l k).2 := (h.rf _ _).2 (mem_gl.2 ⟨k, by rw [h.len]; exact hk, by rw [← e]⟩)
theorem err_k (h : o.kind < 1 ∨ 4 < o.kind) : err f o = 5 := by unfold err; rw [if_pos h]
theorem err_1 (h : o.kind = 1) (hf : f o.id = none) : err f o = 0 := by unfold err; rw [if_neg (by omega), if_pos h, if_pos hf]
theorem err_1d (h : o.kind = 1) (hf : f o.id ≠ none) : err f o = 6 := by unfold err; rw [if_neg (by omega), if_pos h, if_neg hf]
theorem err_2 (h : o.kind = 2) (hf : ¬ Emp f) : err f o = 0 := by unfold err; rw [if_neg (by omega), if_neg (by omega), if_pos h, if_neg hf]
theorem err_2e (h : o.kind = 2) (hf : Emp f) : err f o = 3 := by unfold err; rw [if_neg (by omega), if_neg (by omega), if_pos h, if_pos hf]
theorem err_3 (h : o.kind = 3 ∨ o.kind = 4) (hf : f o.id ≠ none) : err f o = 0 := by unfold err; rw [if_neg (by omega), if_neg (by omega), if_neg (by omega), if_neg hf]
theorem err_3n (h : o.kind = 3 ∨ o.kind = 4) (hf : f o.id = none) : err f o = 3 := by unfold err; rw [if_neg (by omega), if_neg (by omega), if_neg (by omega), if_pos hf]
/-- What was wrong has no effect. -/
theorem bad {e : Int} (h : err f o = e) (h0 : e ≠ 0) : pop f o = 0 ∧ e = err f o ∧ nxt f o = f := by
  unfold pop nxt
  rw [h, if_neg (fun h1 => h0 h1.1), if_pos h0]
  exact ⟨rfl, rfl, rfl⟩
theorem good_2 (h : o.kind = 2) (hf : ¬ Emp f) : pop f o = amin f ∧ 0 = err f o ∧ nxt f o = upd f (amin f) none := by
  have he := err_2 h hf
  unfold pop nxt
  rw [he, if_pos ⟨rfl, h⟩, if_neg (fun h1 => h1 rfl), if_pos h]
  exact ⟨rfl, rfl, rfl⟩
theorem good_1 (h : o.kind = 1) (hf : f o.id = none) : pop f o = 0 ∧ 0 = err f o ∧ nxt f o = upd f o.id (some (o.hi, o.lo)) := by
  have he := err_1 h hf
  unfold pop nxt
  rw [he, if_neg (fun h1 => by omega), if_neg (fun h1 => h1 rfl), if_neg (by omega), if_neg (by omega)]
  exact ⟨rfl, rfl, rfl⟩
theorem good_3 (h : o.kind = 3) (hf : f o.id ≠ none) : pop f o = 0 ∧ 0 = err f o ∧ nxt f o = upd f o.id none := by
  have he := err_3 (.inl h) hf
  unfold pop nxt
  rw [he, if_neg (fun h1 => by omega), if_neg (fun h1 => h1 rfl), if_neg (by omega), if_pos h]
  exact ⟨rfl, rfl, rfl⟩
theorem good_4 (h : o.kind = 4) (hf : f o.id ≠ none) : pop f o = 0 ∧ 0 = err f o ∧ nxt f o = upd f o.id (some (o.hi, o.lo)) := by
  have he := err_3 (.inr h) hf
  unfold pop nxt
  rw [he, if_neg (fun h1 => by omega), if_neg (fun h1 => h1 rfl), if_neg (by omega), if_neg (by omega)]
  exact ⟨rfl, rfl, rfl⟩
/-- The item at k is taken. -/
theorem Gd.cut (h : Gd (n + 1) l m f) {k : Nat} (hk : k ≤ n) {q : List I3 × Mp} (hq : Hp q.1 ∧ q.1.length = n ∧ Inj q.1 ∧ MapOk q.1 q.2 ∧ ∀ x, x ∈ q.1 ↔ x ∈ l ∧ x ≠ gl l k) : Gd n q.1 q.2 (upd f (gl l k).1 none) :=
  ⟨hq.2.1, hq.1, hq.2.2.1, hq.2.2.2.1, h.rf.del (mem_gl.2 ⟨k, by have := h.len; omega, rfl⟩) hq.2.2.2.2⟩
theorem Gd.top (h : Gd n l m f) (h0 : 0 < n) : amin f = (gl l 0).1 := amin_eq (h.rf.root h.hp (by rw [h.len]; exact h0))
theorem Gd.emp (h : Gd n l m f) : Emp f ↔ n = 0 := by rw [h.rf.emp, h.len]
theorem Gd.push (h : Gd n l m f) {x : I3} (hn : f x.1 = none) {q : List I3 × Mp} (hq : Hp q.1 ∧ Same (n + 1) (l ++ [x]) q.1 q.2) : Gd (n + 1) q.1 q.2 (upd f x.1 (some x.2)) :=
  ⟨hq.2.len, hq.1, hq.2.inj, hq.2.map, h.rf.add hn fun y => (hq.2.mem y).trans (by simp)⟩
theorem Gd.put (h : Gd n l m f) {k : Nat} (hk : k < n) {x : I3} (hx : x.1 = (gl l k).1) {q : List I3 × Mp} (hq : Hp q.1 ∧ Same n (l.set k x) q.1 q.2) : Gd n q.1 q.2 (upd f x.1 (some x.2)) :=
  ⟨hq.2.len, hq.1, hq.2.inj, hq.2.map, h.rf.put (k0 := (gl l k).2) (mem_gl.2 ⟨k, by rw [h.len]; exact hk, by rw [hx]⟩) fun y => (hq.2.mem y).trans (by
    have := (put_facts h.len hk h.inj h.map hx).2.2 y
    rw [show (x.1, (gl l k).2) = gl l k by rw [hx]]
    exact this)⟩
theorem Gd.nil : Gd 0 [] [] (fun _ => none) := ⟨rfl, fun i _ h => by simp at h, fun i j h => by simp at h, ⟨fun i h => by simp at h, fun k v h => by cases h⟩, fun i k => by simp⟩
end Go.Proofs.YtfcpmcdlgkfolaaDoor.Heap

namespace Go.Proofs.YtfcpmcdlgkfolaaDoor.Heap
open Go.RowKit Go.Proofs.YtfcpmcdlgkfolaaDoor.E Go.Proofs.YtfcpmcdlgkfolaaDoor.Big

set_option maxRecDepth 100000 in
set_option maxHeartbeats 8000000 in
theorem doN {w0 w : World} {T : List Res} {hb mb n c : Nat} {A : Option Addr} {l : List I3} {m : Mp} {f : Tb} {o : Op4} (hg : Gd n l m f) (hmk : mget m o.id = none) (hS : St w0 w (blk hb [.slice A n c, .map (some mb)] :: vec 144 3 (.slice A n c) n (l.flatMap cI3) :: mpR mb m [] :: T)) (hnb : n + 1 ≤ 4398046511104) :
    Calls Tryd.prog 62 #[.pointer (some ⟨hb, 0, none⟩), .agg #[(.int .i64 o.kind), (.int .i64 o.id), .int .u64 o.hi, .int .u64 o.lo]] w fun e w' => ∃ r : Hd, (Gd r.n r.l r.m (nxt f o) ∧ r.n ≤ n + 1) ∧ e = .returned (.tuple #[(.int .i64 (pop f o)), (.int .i64 (err f o))]) ∧ St w0 w' (blk hb [.slice r.A r.n r.c, .map (some mb)] :: vec 144 3 (.slice r.A r.n r.c) r.n (r.l.flatMap cI3) :: mpR mb r.m [] :: T) := by
  have hn := hg.len
  refine calls_tr Tryd.func62 Tryd.ntmps62 rfl rfl hS ?_
  refine tr_seq ?_
  refine tr_region ?_
  refine tl_step rfl (oj_box (fe_t rfl) (fun bo => ?_))
  refine tl_step rfl (oj_val (y_assign fe_c) ?_)
  refine tl_step rfl (oj_val (y_assign fe_c) ?_)
  refine tl_nil ?_
  refine tx_then ?_
  refine tr_seq ?_
  refine tb_draw 12 (sel _ [0, 1, 2, 3]) (fun w h => h.sel _ rfl (by decide)) rfl ?_
  refine tb_float (i := 0) rfl (by kernel_rfl) rfl (wants_none rfl) (yq_of (y_move (fe_t rfl))) ?_
  refine tb_float (i := 1) rfl (by kernel_rfl) rfl (wants_none rfl) (yq_of (y_nilCheck (fe_t rfl))) ?_
  refine tb_float (i := 2) rfl (by kernel_rfl) rfl (wants_none rfl) (yq_of (y_fieldAddr (td := 69) Tryd.underlying141 rfl rfl Tryd.sizeOf69 (o' := 1) rfl (fe_t rfl))) ?_
  refine tb_float (i := 3) rfl (by kernel_rfl) rfl (wants_none rfl) (yq_of (y_ldb 1 Tryd.isAgg69 (fe_t rfl) rfl rfl)) ?_
  refine tb_float (i := 4) rfl (by kernel_rfl) rfl (wants_none rfl) (yq_of (y_fieldAddr (td := 3) Tryd.underlying90 rfl rfl Tryd.sizeOf3 (o' := 1) rfl (fe_t rfl))) ?_
  refine tb_float (i := 5) rfl (by kernel_rfl) rfl (wants_none rfl) (yq_of (y_ldb 0 Tryd.isAgg3 (fe_t rfl) rfl rfl)) ?_
  refine tb_float (i := 6) rfl (by kernel_rfl) rfl (wants_none rfl) (yq_of (y_lookup2n 3 Tryd.underlying69 Tryd.underlying3 Tryd.zeroValue3 (fe_t rfl) (fe_t rfl) rfl hmk)) ?_
  refine tb_float (i := 7) rfl (by kernel_rfl) rfl (wants_none rfl) (yq_of (y_move (fe_t rfl))) ?_
  refine tb_float (i := 8) rfl (by kernel_rfl) rfl (wants_none rfl) (yq_of (y_extract (fe_t rfl) rfl)) ?_
  refine tb_float (i := 9) rfl (by kernel_rfl) rfl (wants_none rfl) (yq_of (y_extract (fe_t rfl) rfl)) ?_
  refine tb_float (i := 10) rfl (by kernel_rfl) rfl (wants_none rfl) (yq_of (y_assign (fe_t rfl))) ?_
  refine tb_float (i := 11) rfl (by kernel_rfl) rfl (wants_none rfl) (yq_of (y_assign (fe_t rfl))) ?_
  refine tb_done (by kernel_rfl) ?_
  refine tx_then ?_
  refine tr_seq ?_
  refine tr_seq ?_
  refine tr_region ?_
  refine tl_step rfl (oj_val (y_fieldAddr (td := 3) Tryd.underlying90 rfl rfl Tryd.sizeOf3 (o' := 0) rfl (fe_t rfl)) ?_)
  refine tl_step rfl (oj_val (y_ldb 0 Tryd.isAgg3 (fe_t rfl) rfl rfl) ?_)
  refine tl_nil ?_
  refine tx_then ?_
  refine tr_block ?_
  refine tr_seq ?_
  refine tr_region ?_
  refine tl_step rfl (oj_val (y_eq (fe_t rfl) fe_c) ?_)
  refine tl_step rfl (oj_val (y_assign (fe_t rfl)) ?_)
  refine tl_nil ?_
  refine tx_then ?_
  refine tr_condp (fe_t rfl) (fun hq1 => ?_) (fun hq2 => ?_)
  · try (exfalso; omega)
    all_goals
      have hkd : o.kind = 1 := hq1
      refine tr_seq ?_
      refine tr_seq ?_
      refine tr_region ?_
      refine tl_step rfl (oj_val (y_move (fe_t rfl)) ?_)
      refine tl_nil ?_
      refine tx_then ?_
      refine tr_condf (fe_t rfl) ?_
      refine tr_skip ?_
      refine tx_then ?_
      refine tr_seq ?_
      refine tb_draw 11 (sel _ [0, 3]) (fun w h => h.sel _ rfl (by decide)) rfl ?_
      refine tb_float (i := 0) rfl (by kernel_rfl) rfl (wants_none rfl) (yq_of (y_move (fe_t rfl))) ?_
      refine tb_float (i := 1) rfl (by kernel_rfl) rfl (wants_none rfl) (yq_of (y_move (fe_t rfl))) ?_
      refine tb_float (i := 2) rfl (by kernel_rfl) rfl (wants_none rfl) (yq_of (y_nilCheck (fe_t rfl))) ?_
      refine tb_float (i := 3) rfl (by kernel_rfl) rfl (wants_none rfl) (yq_of (y_fieldAddr (td := 139) Tryd.underlying141 rfl rfl Tryd.sizeOf139 (o' := 0) rfl (fe_t rfl))) ?_
      refine tb_float1 (i := 4) rfl (by kernel_rfl) (by kernel_rfl) rfl (wants_none rfl) (yq_of (y_ldb 1 Tryd.isAgg139 (fe_t rfl) rfl rfl)) ?_
      refine tb_float (i := 5) rfl (by kernel_rfl) rfl (wants_none rfl) (yq_of (y_fieldAddr (td := 3) Tryd.underlying90 rfl rfl Tryd.sizeOf3 (o' := 1) rfl (fe_t rfl))) ?_
      refine tb_float (i := 6) rfl (by kernel_rfl) rfl (wants_none rfl) (yq_of (y_ldb 0 Tryd.isAgg3 (fe_t rfl) rfl rfl)) ?_
      refine tb_float (i := 7) rfl (by kernel_rfl) rfl (wants_none rfl) (yq_of (y_fieldAddr (td := 88) Tryd.underlying90 rfl rfl Tryd.sizeOf88 (o' := 2) rfl (fe_t rfl))) ?_
      refine tb_float (i := 8) rfl (by kernel_rfl) rfl (wants_none rfl) (yq_of (y_ldbA 0 Tryd.isAgg88 Tryd.sizeOf88 (fe_t rfl) rfl rfl rfl)) ?_
      refine tb_float (i := 9) rfl (by kernel_rfl) rfl (wants_none rfl) (yq_of ((fun {u0 u1 u2} hx hb => y_build (is := [0, 1]) (vs := [u0, .agg #[u1, u2]]) (cs := [u0, u1, u2]) rfl hx hb) (fel_cons (fe_t rfl) (fel_cons (fe_t rfl) fel_nil)) (by kernel_rfl))) ?_
      refine tb_one1 (i := 10) rfl (by kernel_rfl) (by kernel_rfl) (wants_none rfl) (oj_slice1 Tryd.underlying139 Tryd.sizeOf144 Tryd.zeroValue144 (fe_t rfl) (by decide) rfl (fun bi => ⟨fun w h => pickT (l := [_, _, _, _, _]) h [1, 2, 3, 4] rfl (by decide), ?_⟩))
      refine tb_one2 (i := 11) rfl (by kernel_rfl) (by kernel_rfl) (wants_none rfl) (oj_appendB (i := 3) (s := 3) (z := (.agg #[.int .i64 0, .int .u64 0, .int .u64 0])) (bytes := 24) Tryd.underlying139 (by kernel_rfl) (fe_t rfl) (fe_t rfl) rfl (rdl_blk 0 rfl) rfl (by decide) (by first | exact oneI | exact oneF (fun _ => rfl) | exact fun u hu => List.all_eq_true.1 (show List.all _ (fun x => x.oneCell') = true from rfl) u hu | (intro u hu; revert u hu; simp [Value.oneCell'])) (by decide) ⟨by omega, by decide⟩ (fun Aa1 ca1 hca1 => ⟨fun w h => h.pick [1, 4] _ rfl (by decide), ?_⟩))
      refine tb_float (i := 12) rfl (by kernel_rfl) rfl (wants_none rfl) (yq_of (y_nilCheck (fe_t rfl))) ?_
      refine tb_float (i := 13) rfl (by kernel_rfl) rfl (wants_none rfl) (yq_of (y_fieldAddr (td := 139) Tryd.underlying141 rfl rfl Tryd.sizeOf139 (o' := 0) rfl (fe_t rfl))) ?_
      refine tb_one2 (i := 14) rfl (by kernel_rfl) (by kernel_rfl) (wants_none rfl) (oj_store1 2 Tryd.sizeOf139 (fe_t rfl) (fe_t rfl) rfl rfl rfl rfl (⟨fun w h => h.pick [1, 4] _ rfl (by decide), ?_⟩))
      refine tb_done (by kernel_rfl) ?_
      refine tx_then ?_
      refine tr_seq ?_
      refine tr_as (r' := vec 144 3 (.slice Aa1 (n + 1) ca1) (n + 1) ((l ++ [(o.id, o.hi, o.lo)]).flatMap cI3)) 3 rfl (congrArg (vec _ _ _ _) (by rw [List.flatMap_append]; rfl)) ?_
      obtain ⟨hi2, hm2, _⟩ := push_facts (x := (o.id, o.hi, o.lo)) hn hg.inj hg.map (hg.rf.no.1 (hg.no hmk))
      have hl1 : (l ++ [(o.id, o.hi, o.lo)]).length = n + 1 := by simp [hn]
      refine tb_draw 12 (sel _ [0, 1, 2, 3]) (fun w h => h.sel _ rfl (by decide)) rfl ?_
      refine tb_float (i := 0) rfl (by kernel_rfl) rfl (wants_none rfl) (yq_of (y_move (fe_t rfl))) ?_
      refine tb_float (i := 1) rfl (by kernel_rfl) rfl (wants_none rfl) (yq_of (y_nilCheck (fe_t rfl))) ?_
      refine tb_float (i := 2) rfl (by kernel_rfl) rfl (wants_none rfl) (yq_of (y_fieldAddr (td := 69) Tryd.underlying141 rfl rfl Tryd.sizeOf69 (o' := 1) rfl (fe_t rfl))) ?_
      refine tb_float (i := 3) rfl (by kernel_rfl) rfl (wants_none rfl) (yq_of (y_ldb 2 Tryd.isAgg69 (fe_t rfl) rfl rfl)) ?_
      refine tb_float (i := 4) rfl (by kernel_rfl) rfl (wants_none rfl) (yq_of (y_fieldAddr (td := 3) Tryd.underlying90 rfl rfl Tryd.sizeOf3 (o' := 1) rfl (fe_t rfl))) ?_
      refine tb_float (i := 5) rfl (by kernel_rfl) rfl (wants_none rfl) (yq_of (y_ldb 1 Tryd.isAgg3 (fe_t rfl) rfl rfl)) ?_
      refine tb_float (i := 6) rfl (by kernel_rfl) rfl (wants_none rfl) (yq_of (y_move (fe_t rfl))) ?_
      refine tb_float (i := 7) rfl (by kernel_rfl) rfl (wants_none rfl) (yq_of (y_nilCheck (fe_t rfl))) ?_
      refine tb_float (i := 8) rfl (by kernel_rfl) rfl (wants_none rfl) (yq_of (y_fieldAddr (td := 139) Tryd.underlying141 rfl rfl Tryd.sizeOf139 (o' := 0) rfl (fe_t rfl))) ?_
      refine tb_float (i := 9) rfl (by kernel_rfl) rfl (wants_none rfl) (yq_of (y_ldb 2 Tryd.isAgg139 (fe_t rfl) rfl rfl)) ?_
      refine tb_float (i := 10) rfl (by kernel_rfl) rfl (wants_none rfl) (yq_of (y_len Tryd.underlying139 (fe_t rfl))) ?_
      refine tb_float (i := 11) rfl (by kernel_rfl) rfl (wants_none rfl) (yq_of (y_as (b := ((n : Nat) : Int)) (y_sub (fe_t rfl) fe_c (by omega)) (by omega))) ?_
      refine tb_one2 (i := 12) rfl (by kernel_rfl) (by kernel_rfl) (wants_none rfl) (oj_mapPut 4 Tryd.underlying69 Tryd.underlying3 (fe_t rfl) (fe_t rfl) (fe_t rfl) rfl (.inl rfl) (⟨fun w h => h.pick [0, 1, 2, 3] _ rfl (by decide), ?_⟩))
      refine tb_done (by kernel_rfl) ?_
      refine tx_then ?_
      refine tr_region ?_
      refine tl_step rfl (oj_val (y_move (fe_t rfl)) ?_)
      refine tl_step rfl (oj_val (y_move (fe_t rfl)) ?_)
      refine tl_step rfl (oj_val (y_nilCheck (fe_t rfl)) ?_)
      refine tl_step rfl (oj_val (y_fieldAddr (td := 139) Tryd.underlying141 rfl rfl Tryd.sizeOf139 (o' := 0) rfl (fe_t rfl)) ?_)
      refine tl_step rfl (oj_val (y_ldb 2 Tryd.isAgg139 (fe_t rfl) rfl rfl) ?_)
      refine tl_step rfl (oj_val (y_len Tryd.underlying139 (fe_t rfl)) ?_)
      refine tl_step rfl (oj_val (y_as (b := ((n : Nat) : Int)) (y_sub (fe_t rfl) fe_c (by omega)) (by omega)) ?_)
      refine tl_step rfl (oj_call2 Tryd.call87 fe_f (fel_cons (fe_t rfl) (fel_cons (fe_t rfl) fel_nil)) (fun w' hS => fixE hl1 hi2 hm2 (pickT (l := [_, _, _, _, _]) hS [2, 3, 4, 0, 1] rfl (by decide)) (i0 := n) (by have h9 := AH.push hg.hp (o.id, o.hi, o.lo); rwa [hn] at h9) (by omega)) (fun q9 hq9 => ?_))
      refine tl_nil ?_
      refine tx_in ?_
      refine tx_then ?_
      refine tr_seq ?_
      refine tr_region ?_
      refine tl_step rfl (oj_val (y_assign fe_c) ?_)
      refine tl_step rfl (oj_val (y_assign fe_c) ?_)
      refine tl_nil ?_
      refine tx_then ?_
      refine tr_ret ?_
      refine tx_ret (res2 Tryd.results62 (rok_t rfl) (rok_t rfl)) (fun w' hS => ?_)
      have h1 := pickT (l := [_, _, _, _, _]) hS [0, 1, 2] rfl (by decide)
      obtain ⟨p1, p2, p3⟩ := good_1 (f := f) (o := o) hkd (hg.no hmk)
      exact ⟨⟨Aa1, n + 1, ca1, q9.1, q9.2⟩, ⟨by rw [p3]; exact hg.push (x := (o.id, o.hi, o.lo)) (hg.no hmk) hq9, by dsimp only; omega⟩, by (rw [p1, ← p2]) <;> rfl, h1⟩
  · try (exfalso; omega)
    all_goals
      refine tr_seq ?_
      refine tr_region ?_
      refine tl_step rfl (oj_val (y_eq (fe_t rfl) fe_c) ?_)
      refine tl_step rfl (oj_val (y_assign (fe_t rfl)) ?_)
      refine tl_nil ?_
      refine tx_then ?_
      refine tr_condp (fe_t rfl) (fun hq3 => ?_) (fun hq4 => ?_)
      · try (exfalso; omega)
        all_goals
          have hkd : o.kind = 2 := hq3
          refine tr_seq ?_
          refine tr_seq ?_
          refine tr_region ?_
          refine tl_step rfl (oj_val (y_move (fe_t rfl)) ?_)
          refine tl_step rfl (oj_val (y_nilCheck (fe_t rfl)) ?_)
          refine tl_step rfl (oj_val (y_fieldAddr (td := 139) Tryd.underlying141 rfl rfl Tryd.sizeOf139 (o' := 0) rfl (fe_t rfl)) ?_)
          refine tl_step rfl (oj_val (y_ldb 1 Tryd.isAgg139 (fe_t rfl) rfl rfl) ?_)
          refine tl_step rfl (oj_val (y_len Tryd.underlying139 (fe_t rfl)) ?_)
          refine tl_step rfl (oj_val (y_eq (fe_t rfl) fe_c) ?_)
          refine tl_nil ?_
          refine tx_then ?_
          refine tr_condp (fe_t rfl) (fun hq5 => ?_) (fun hq6 => ?_)
          · try (exfalso; omega)
            all_goals
              refine tr_seq ?_
              refine tr_region ?_
              refine tl_step rfl (oj_val (y_assign fe_c) ?_)
              refine tl_step rfl (oj_val (y_assign fe_c) ?_)
              refine tl_nil ?_
              refine tx_then ?_
              refine tr_ret ?_
              refine tx_then_ret ?_
              refine tx_in_ret ?_
              refine tx_then_ret ?_
              refine tx_ret (res2 Tryd.results62 (rok_t rfl) (rok_t rfl)) (fun w' hS => ?_)
              have h1 := pickT (l := [_, _, _, _]) hS [1, 2, 3] rfl (by decide)
              obtain ⟨p1, p2, p3⟩ := bad (f := f) (o := o) (err_2e hkd (hg.emp.2 (by omega))) (by decide)
              exact ⟨⟨A, n, c, l, m⟩, ⟨by rw [p3]; exact hg, Nat.le_succ _⟩, by rw [p1, ← p2], h1⟩
          · try (exfalso; omega)
            all_goals
              obtain ⟨n', rfl⟩ : ∃ n', n = n' + 1 := ⟨n - 1, by omega⟩
              refine tr_skip ?_
              refine tx_then ?_
              refine tr_seq ?_
              refine tr_region ?_
              refine tl_step rfl (oj_val (y_move (fe_t rfl)) ?_)
              refine tl_step rfl (oj_call2 Tryd.call63 fe_f (fel_cons (fe_t rfl) (fel_cons (fe_c (v := (.int .i64 (((0 : Nat) : Int))))) fel_nil)) (fun w' hS => takeE hn hg.inj hg.map (pickT (l := [_, _, _, _]) hS [1, 2, 3, 0] rfl (by decide)) (k := 0) (by omega) hg.hp (by omega)) (fun q13 hq13 => ?_))
              refine tl_step rfl (oj_val (y_field1 (f := _) (td := 3) Tryd.underlying144 rfl rfl Tryd.isAgg3 (fe_t rfl) rfl) ?_)
              refine tl_step rfl (oj_val (y_assign (fe_t rfl)) ?_)
              refine tl_step rfl (oj_val (y_assign fe_c) ?_)
              refine tl_nil ?_
              refine tx_then ?_
              refine tr_ret ?_
              refine tx_in_ret ?_
              refine tx_then_ret ?_
              refine tx_ret (res2 Tryd.results62 (rok_t rfl) (rok_t rfl)) (fun w' hS => ?_)
              have h1 := pickT (l := [_, _, _, _]) hS [0, 1, 2] rfl (by decide)
              obtain ⟨p1, p2, p3⟩ := good_2 (f := f) (o := o) hkd (fun h9 => by have := hg.emp.1 h9; omega)
              exact ⟨⟨A, n', c, q13.1, q13.2⟩, ⟨by rw [p3, hg.top (by omega)]; exact hg.cut (by omega) hq13, by dsimp only; omega⟩, by (rw [p1, ← p2, hg.top (by omega)]) <;> rfl, h1⟩
      · try (exfalso; omega)
        all_goals
          refine tr_seq ?_
          refine tr_seq ?_
          refine tr_region ?_
          refine tl_step rfl (oj_val (y_eq (fe_t rfl) fe_c) ?_)
          refine tl_step rfl (oj_val (y_assign (fe_t rfl)) ?_)
          refine tl_nil ?_
          refine tx_then ?_
          refine tr_condp (fe_t rfl) (fun hq7 => ?_) (fun hq8 => ?_)
          · try (exfalso; omega)
            all_goals
              refine tr_skip ?_
              refine tx_then ?_
              refine tr_condp (fe_t rfl) (fun hq9 => ?_) (fun hq10 => ?_)
              · try (exfalso; omega)
                all_goals
                  refine tr_seq ?_
                  refine tr_seq ?_
                  refine tr_region ?_
                  refine tl_step rfl (oj_val (y_move (fe_t rfl)) ?_)
                  refine tl_step rfl (oj_val (y_not (fe_t rfl)) ?_)
                  refine tl_nil ?_
                  refine tx_then ?_
                  refine tr_condt (fe_t rfl) ?_
                  refine tr_seq ?_
                  refine tr_region ?_
                  refine tl_step rfl (oj_val (y_assign fe_c) ?_)
                  refine tl_step rfl (oj_val (y_assign fe_c) ?_)
                  refine tl_nil ?_
                  refine tx_then ?_
                  refine tr_ret ?_
                  refine tx_then_ret ?_
                  refine tx_in_ret ?_
                  refine tx_then_ret ?_
                  refine tx_ret (res2 Tryd.results62 (rok_t rfl) (rok_t rfl)) (fun w' hS => ?_)
                  have h1 := pickT (l := [_, _, _, _]) hS [1, 2, 3] rfl (by decide)
                  obtain ⟨p1, p2, p3⟩ := bad (f := f) (o := o) (err_3n (by omega) (hg.no hmk)) (by decide)
                  exact ⟨⟨A, n, c, l, m⟩, ⟨by rw [p3]; exact hg, Nat.le_succ _⟩, by rw [p1, ← p2], h1⟩
              · try (exfalso; omega)
                all_goals
                  refine tr_seq ?_
                  refine tr_region ?_
                  refine tl_step rfl (oj_val (y_assign fe_c) ?_)
                  refine tl_step rfl (oj_val (y_assign fe_c) ?_)
                  refine tl_nil ?_
                  refine tx_then ?_
                  refine tr_ret ?_
                  refine tx_in_ret ?_
                  refine tx_then_ret ?_
                  refine tx_ret (res2 Tryd.results62 (rok_t rfl) (rok_t rfl)) (fun w' hS => ?_)
                  have h1 := pickT (l := [_, _, _, _]) hS [1, 2, 3] rfl (by decide)
                  obtain ⟨p1, p2, p3⟩ := bad (f := f) (o := o) (err_k (by omega)) (by decide)
                  exact ⟨⟨A, n, c, l, m⟩, ⟨by rw [p3]; exact hg, Nat.le_succ _⟩, by rw [p1, ← p2], h1⟩
          · try (exfalso; omega)
            all_goals
              refine tr_region ?_
              refine tl_step rfl (oj_val (y_eq (fe_t rfl) fe_c) ?_)
              refine tl_step rfl (oj_val (y_assign (fe_t rfl)) ?_)
              refine tl_nil ?_
              refine tx_then ?_
              refine tr_condp (fe_t rfl) (fun hq11 => ?_) (fun hq12 => ?_)
              · try (exfalso; omega)
                all_goals
                  refine tr_seq ?_
                  refine tr_seq ?_
                  refine tr_region ?_
                  refine tl_step rfl (oj_val (y_move (fe_t rfl)) ?_)
                  refine tl_step rfl (oj_val (y_not (fe_t rfl)) ?_)
                  refine tl_nil ?_
                  refine tx_then ?_
                  refine tr_condt (fe_t rfl) ?_
                  refine tr_seq ?_
                  refine tr_region ?_
                  refine tl_step rfl (oj_val (y_assign fe_c) ?_)
                  refine tl_step rfl (oj_val (y_assign fe_c) ?_)
                  refine tl_nil ?_
                  refine tx_then ?_
                  refine tr_ret ?_
                  refine tx_then_ret ?_
                  refine tx_in_ret ?_
                  refine tx_then_ret ?_
                  refine tx_ret (res2 Tryd.results62 (rok_t rfl) (rok_t rfl)) (fun w' hS => ?_)
                  have h1 := pickT (l := [_, _, _, _]) hS [1, 2, 3] rfl (by decide)
                  obtain ⟨p1, p2, p3⟩ := bad (f := f) (o := o) (err_3n (by omega) (hg.no hmk)) (by decide)
                  exact ⟨⟨A, n, c, l, m⟩, ⟨by rw [p3]; exact hg, Nat.le_succ _⟩, by rw [p1, ← p2], h1⟩
              · try (exfalso; omega)
                all_goals
                  refine tr_seq ?_
                  refine tr_region ?_
                  refine tl_step rfl (oj_val (y_assign fe_c) ?_)
                  refine tl_step rfl (oj_val (y_assign fe_c) ?_)
                  refine tl_nil ?_
                  refine tx_then ?_
                  refine tr_ret ?_
                  refine tx_in_ret ?_
                  refine tx_then_ret ?_
                  refine tx_ret (res2 Tryd.results62 (rok_t rfl) (rok_t rfl)) (fun w' hS => ?_)
                  have h1 := pickT (l := [_, _, _, _]) hS [1, 2, 3] rfl (by decide)
                  obtain ⟨p1, p2, p3⟩ := bad (f := f) (o := o) (err_k (by omega)) (by decide)
                  exact ⟨⟨A, n, c, l, m⟩, ⟨by rw [p3]; exact hg, Nat.le_succ _⟩, by rw [p1, ← p2], h1⟩

set_option maxRecDepth 100000 in
set_option maxHeartbeats 8000000 in
theorem doH {w0 w : World} {T : List Res} {hb mb n c : Nat} {A : Option Addr} {l : List I3} {m : Mp} {f : Tb} {o : Op4} (hg : Gd n l m f) {k : Nat} (hmk : mget m o.id = some (.int .i64 ((k : Int)))) (hkn : k < n) (hid : (gl l k).1 = o.id) (hS : St w0 w (blk hb [.slice A n c, .map (some mb)] :: vec 144 3 (.slice A n c) n (l.flatMap cI3) :: mpR mb m [] :: T)) (hnb : n + 1 ≤ 4398046511104) :
    Calls Tryd.prog 62 #[.pointer (some ⟨hb, 0, none⟩), .agg #[(.int .i64 o.kind), (.int .i64 o.id), .int .u64 o.hi, .int .u64 o.lo]] w fun e w' => ∃ r : Hd, (Gd r.n r.l r.m (nxt f o) ∧ r.n ≤ n + 1) ∧ e = .returned (.tuple #[(.int .i64 (pop f o)), (.int .i64 (err f o))]) ∧ St w0 w' (blk hb [.slice r.A r.n r.c, .map (some mb)] :: vec 144 3 (.slice r.A r.n r.c) r.n (r.l.flatMap cI3) :: mpR mb r.m [] :: T) := by
  have hn := hg.len
  refine calls_tr Tryd.func62 Tryd.ntmps62 rfl rfl hS ?_
  refine tr_seq ?_
  refine tr_region ?_
  refine tl_step rfl (oj_box (fe_t rfl) (fun bo => ?_))
  refine tl_step rfl (oj_val (y_assign fe_c) ?_)
  refine tl_step rfl (oj_val (y_assign fe_c) ?_)
  refine tl_nil ?_
  refine tx_then ?_
  refine tr_seq ?_
  refine tb_draw 12 (sel _ [0, 1, 2, 3]) (fun w h => h.sel _ rfl (by decide)) rfl ?_
  refine tb_float (i := 0) rfl (by kernel_rfl) rfl (wants_none rfl) (yq_of (y_move (fe_t rfl))) ?_
  refine tb_float (i := 1) rfl (by kernel_rfl) rfl (wants_none rfl) (yq_of (y_nilCheck (fe_t rfl))) ?_
  refine tb_float (i := 2) rfl (by kernel_rfl) rfl (wants_none rfl) (yq_of (y_fieldAddr (td := 69) Tryd.underlying141 rfl rfl Tryd.sizeOf69 (o' := 1) rfl (fe_t rfl))) ?_
  refine tb_float (i := 3) rfl (by kernel_rfl) rfl (wants_none rfl) (yq_of (y_ldb 1 Tryd.isAgg69 (fe_t rfl) rfl rfl)) ?_
  refine tb_float (i := 4) rfl (by kernel_rfl) rfl (wants_none rfl) (yq_of (y_fieldAddr (td := 3) Tryd.underlying90 rfl rfl Tryd.sizeOf3 (o' := 1) rfl (fe_t rfl))) ?_
  refine tb_float (i := 5) rfl (by kernel_rfl) rfl (wants_none rfl) (yq_of (y_ldb 0 Tryd.isAgg3 (fe_t rfl) rfl rfl)) ?_
  refine tb_float (i := 6) rfl (by kernel_rfl) rfl (wants_none rfl) (yq_of (y_lookup2s 3 Tryd.underlying69 Tryd.underlying3 Tryd.zeroValue3 (fe_t rfl) (fe_t rfl) rfl hmk)) ?_
  refine tb_float (i := 7) rfl (by kernel_rfl) rfl (wants_none rfl) (yq_of (y_move (fe_t rfl))) ?_
  refine tb_float (i := 8) rfl (by kernel_rfl) rfl (wants_none rfl) (yq_of (y_extract (fe_t rfl) rfl)) ?_
  refine tb_float (i := 9) rfl (by kernel_rfl) rfl (wants_none rfl) (yq_of (y_extract (fe_t rfl) rfl)) ?_
  refine tb_float (i := 10) rfl (by kernel_rfl) rfl (wants_none rfl) (yq_of (y_assign (fe_t rfl))) ?_
  refine tb_float (i := 11) rfl (by kernel_rfl) rfl (wants_none rfl) (yq_of (y_assign (fe_t rfl))) ?_
  refine tb_done (by kernel_rfl) ?_
  refine tx_then ?_
  refine tr_seq ?_
  refine tr_seq ?_
  refine tr_region ?_
  refine tl_step rfl (oj_val (y_fieldAddr (td := 3) Tryd.underlying90 rfl rfl Tryd.sizeOf3 (o' := 0) rfl (fe_t rfl)) ?_)
  refine tl_step rfl (oj_val (y_ldb 0 Tryd.isAgg3 (fe_t rfl) rfl rfl) ?_)
  refine tl_nil ?_
  refine tx_then ?_
  refine tr_block ?_
  refine tr_seq ?_
  refine tr_region ?_
  refine tl_step rfl (oj_val (y_eq (fe_t rfl) fe_c) ?_)
  refine tl_step rfl (oj_val (y_assign (fe_t rfl)) ?_)
  refine tl_nil ?_
  refine tx_then ?_
  refine tr_condp (fe_t rfl) (fun hq1 => ?_) (fun hq2 => ?_)
  · try (exfalso; omega)
    all_goals
      have hkd : o.kind = 1 := hq1
      refine tr_seq ?_
      refine tr_seq ?_
      refine tr_region ?_
      refine tl_step rfl (oj_val (y_move (fe_t rfl)) ?_)
      refine tl_nil ?_
      refine tx_then ?_
      refine tr_condt (fe_t rfl) ?_
      refine tr_seq ?_
      refine tr_region ?_
      refine tl_step rfl (oj_val (y_assign fe_c) ?_)
      refine tl_step rfl (oj_val (y_assign fe_c) ?_)
      refine tl_nil ?_
      refine tx_then ?_
      refine tr_ret ?_
      refine tx_then_ret ?_
      refine tx_in_ret ?_
      refine tx_then_ret ?_
      refine tx_ret (res2 Tryd.results62 (rok_t rfl) (rok_t rfl)) (fun w' hS => ?_)
      have h1 := pickT (l := [_, _, _, _]) hS [1, 2, 3] rfl (by decide)
      obtain ⟨p1, p2, p3⟩ := bad (f := f) (o := o) (err_1d hkd (by rw [hg.yes hkn hid]; exact fun h9 => by cases h9)) (by decide)
      exact ⟨⟨A, n, c, l, m⟩, ⟨by rw [p3]; exact hg, Nat.le_succ _⟩, by rw [p1, ← p2], h1⟩
  · try (exfalso; omega)
    all_goals
      refine tr_seq ?_
      refine tr_region ?_
      refine tl_step rfl (oj_val (y_eq (fe_t rfl) fe_c) ?_)
      refine tl_step rfl (oj_val (y_assign (fe_t rfl)) ?_)
      refine tl_nil ?_
      refine tx_then ?_
      refine tr_condp (fe_t rfl) (fun hq3 => ?_) (fun hq4 => ?_)
      · try (exfalso; omega)
        all_goals
          have hkd : o.kind = 2 := hq3
          refine tr_seq ?_
          refine tr_seq ?_
          refine tr_region ?_
          refine tl_step rfl (oj_val (y_move (fe_t rfl)) ?_)
          refine tl_step rfl (oj_val (y_nilCheck (fe_t rfl)) ?_)
          refine tl_step rfl (oj_val (y_fieldAddr (td := 139) Tryd.underlying141 rfl rfl Tryd.sizeOf139 (o' := 0) rfl (fe_t rfl)) ?_)
          refine tl_step rfl (oj_val (y_ldb 1 Tryd.isAgg139 (fe_t rfl) rfl rfl) ?_)
          refine tl_step rfl (oj_val (y_len Tryd.underlying139 (fe_t rfl)) ?_)
          refine tl_step rfl (oj_val (y_eq (fe_t rfl) fe_c) ?_)
          refine tl_nil ?_
          refine tx_then ?_
          refine tr_condp (fe_t rfl) (fun hq5 => ?_) (fun hq6 => ?_)
          · try (exfalso; omega)
            all_goals
              refine tr_seq ?_
              refine tr_region ?_
              refine tl_step rfl (oj_val (y_assign fe_c) ?_)
              refine tl_step rfl (oj_val (y_assign fe_c) ?_)
              refine tl_nil ?_
              refine tx_then ?_
              refine tr_ret ?_
              refine tx_then_ret ?_
              refine tx_in_ret ?_
              refine tx_then_ret ?_
              refine tx_ret (res2 Tryd.results62 (rok_t rfl) (rok_t rfl)) (fun w' hS => ?_)
              have h1 := pickT (l := [_, _, _, _]) hS [1, 2, 3] rfl (by decide)
              obtain ⟨p1, p2, p3⟩ := bad (f := f) (o := o) (err_2e hkd (hg.emp.2 (by omega))) (by decide)
              exact ⟨⟨A, n, c, l, m⟩, ⟨by rw [p3]; exact hg, Nat.le_succ _⟩, by rw [p1, ← p2], h1⟩
          · try (exfalso; omega)
            all_goals
              obtain ⟨n', rfl⟩ : ∃ n', n = n' + 1 := ⟨n - 1, by omega⟩
              refine tr_skip ?_
              refine tx_then ?_
              refine tr_seq ?_
              refine tr_region ?_
              refine tl_step rfl (oj_val (y_move (fe_t rfl)) ?_)
              refine tl_step rfl (oj_call2 Tryd.call63 fe_f (fel_cons (fe_t rfl) (fel_cons (fe_c (v := (.int .i64 (((0 : Nat) : Int))))) fel_nil)) (fun w' hS => takeE hn hg.inj hg.map (pickT (l := [_, _, _, _]) hS [1, 2, 3, 0] rfl (by decide)) (k := 0) (by omega) hg.hp (by omega)) (fun q13 hq13 => ?_))
              refine tl_step rfl (oj_val (y_field1 (f := _) (td := 3) Tryd.underlying144 rfl rfl Tryd.isAgg3 (fe_t rfl) rfl) ?_)
              refine tl_step rfl (oj_val (y_assign (fe_t rfl)) ?_)
              refine tl_step rfl (oj_val (y_assign fe_c) ?_)
              refine tl_nil ?_
              refine tx_then ?_
              refine tr_ret ?_
              refine tx_in_ret ?_
              refine tx_then_ret ?_
              refine tx_ret (res2 Tryd.results62 (rok_t rfl) (rok_t rfl)) (fun w' hS => ?_)
              have h1 := pickT (l := [_, _, _, _]) hS [0, 1, 2] rfl (by decide)
              obtain ⟨p1, p2, p3⟩ := good_2 (f := f) (o := o) hkd (fun h9 => by have := hg.emp.1 h9; omega)
              exact ⟨⟨A, n', c, q13.1, q13.2⟩, ⟨by rw [p3, hg.top (by omega)]; exact hg.cut (by omega) hq13, by dsimp only; omega⟩, by (rw [p1, ← p2, hg.top (by omega)]) <;> rfl, h1⟩
      · try (exfalso; omega)
        all_goals
          refine tr_seq ?_
          refine tr_seq ?_
          refine tr_region ?_
          refine tl_step rfl (oj_val (y_eq (fe_t rfl) fe_c) ?_)
          refine tl_step rfl (oj_val (y_assign (fe_t rfl)) ?_)
          refine tl_nil ?_
          refine tx_then ?_
          refine tr_condp (fe_t rfl) (fun hq7 => ?_) (fun hq8 => ?_)
          · try (exfalso; omega)
            all_goals
              refine tr_skip ?_
              refine tx_then ?_
              refine tr_condp (fe_t rfl) (fun hq9 => ?_) (fun hq10 => ?_)
              · try (exfalso; omega)
                all_goals
                  refine tr_seq ?_
                  refine tr_seq ?_
                  refine tr_region ?_
                  refine tl_step rfl (oj_val (y_move (fe_t rfl)) ?_)
                  refine tl_step rfl (oj_val (y_not (fe_t rfl)) ?_)
                  refine tl_nil ?_
                  refine tx_then ?_
                  refine tr_condf (fe_t rfl) ?_
                  refine tr_skip ?_
                  refine tx_then ?_
                  refine tr_seq ?_
                  refine tr_region ?_
                  refine tl_step rfl (oj_val (y_fieldAddr (td := 3) Tryd.underlying90 rfl rfl Tryd.sizeOf3 (o' := 0) rfl (fe_t rfl)) ?_)
                  refine tl_step rfl (oj_val (y_ldb 0 Tryd.isAgg3 (fe_t rfl) rfl rfl) ?_)
                  refine tl_step rfl (oj_val (y_eq (fe_t rfl) fe_c) ?_)
                  refine tl_nil ?_
                  refine tx_then ?_
                  refine tr_condp (fe_t rfl) (fun hq11 => ?_) (fun hq12 => ?_)
                  · try (exfalso; omega)
                    all_goals
                      obtain ⟨n', rfl⟩ : ∃ n', n = n' + 1 := ⟨n - 1, by omega⟩
                      refine tr_region ?_
                      refine tl_step rfl (oj_val (y_move (fe_t rfl)) ?_)
                      refine tl_step rfl (oj_val (y_move (fe_t rfl)) ?_)
                      refine tl_step rfl (oj_call2 Tryd.call63 fe_f (fel_cons (fe_t rfl) (fel_cons (fe_t rfl) fel_nil)) (fun w' hS => takeE hn hg.inj hg.map (pickT (l := [_, _, _, _]) hS [1, 2, 3, 0] rfl (by decide)) (k := k) (by omega) hg.hp (by omega)) (fun q19 hq19 => ?_))
                      refine tl_nil ?_
                      refine tx_in ?_
                      refine tx_then ?_
                      refine tr_seq ?_
                      refine tr_region ?_
                      refine tl_step rfl (oj_val (y_assign fe_c) ?_)
                      refine tl_step rfl (oj_val (y_assign fe_c) ?_)
                      refine tl_nil ?_
                      refine tx_then ?_
                      refine tr_ret ?_
                      refine tx_ret (res2 Tryd.results62 (rok_t rfl) (rok_t rfl)) (fun w' hS => ?_)
                      have h1 := pickT (l := [_, _, _, _]) hS [0, 1, 2] rfl (by decide)
                      obtain ⟨p1, p2, p3⟩ := good_3 (f := f) (o := o) (by omega) (by rw [hg.yes hkn hid]; exact fun h9 => by cases h9)
                      exact ⟨⟨A, n', c, q19.1, q19.2⟩, ⟨by rw [p3, ← hid]; exact hg.cut (by omega) hq19, by dsimp only; omega⟩, by (rw [p1, ← p2]) <;> rfl, h1⟩
                  · try (exfalso; omega)
                    all_goals
                      refine tr_seq ?_
                      refine tb_draw1 9 [_, _, _, _] [_, _, _, _] (fun w h => h.pick [0, 1, 2, 3] _ rfl (by decide)) (fun w h => (h.weak (i := 2) rfl).pick [2, 0, 1, 3] _ rfl (by decide)) rfl ?_
                      refine tb_float (i := 0) rfl (by kernel_rfl) rfl (wants_none rfl) (yq_of (y_move (fe_t rfl))) ?_
                      refine tb_float (i := 1) rfl (by kernel_rfl) rfl (wants_none rfl) (yq_of (y_nilCheck (fe_t rfl))) ?_
                      refine tb_float (i := 2) rfl (by kernel_rfl) rfl (wants_none rfl) (yq_of (y_fieldAddr (td := 139) Tryd.underlying141 rfl rfl Tryd.sizeOf139 (o' := 0) rfl (fe_t rfl))) ?_
                      refine tb_float (i := 3) rfl (by kernel_rfl) rfl (wants_none rfl) (yq_of (y_ldb 2 Tryd.isAgg139 (fe_t rfl) rfl rfl)) ?_
                      refine tb_float (i := 4) rfl (by kernel_rfl) rfl (wants_none rfl) (yq_of (y_move (fe_t rfl))) ?_
                      refine tb_float (i := 5) rfl (by kernel_rfl) rfl (wants_none rfl) (yq_of (y_fieldAddr (td := 88) Tryd.underlying90 rfl rfl Tryd.sizeOf88 (o' := 2) rfl (fe_t rfl))) ?_
                      refine tb_float (i := 6) rfl (by kernel_rfl) rfl (wants_none rfl) (yq_of (y_ldbA 1 Tryd.isAgg88 Tryd.sizeOf88 (fe_t rfl) rfl rfl rfl)) ?_
                      refine tb_float (i := 7) rfl (by kernel_rfl) rfl (wants_none rfl) (yq_of (y_indexR Tryd.underlying139 Tryd.sizeOf144 (fe_t rfl) (fe_t rfl) (rch_w 0 rfl (by omega)) (by omega) rfl)) ?_
                      refine tb_float (i := 8) rfl (by kernel_rfl) rfl (wants_none rfl) (yq_of (y_fieldAddrR (td := 88) Tryd.underlying144 rfl rfl Tryd.sizeOf88 rfl (fe_t rfl) (rch_w 0 rfl (by omega)))) ?_
                      refine tb_one2 (i := 9) rfl (by kernel_rfl) (by kernel_rfl) (wants_none rfl) (oj_storeE (i := 2) (vs := [.int .u64 o.hi, .int .u64 o.lo]) Tryd.sizeOf88 (fe_t rfl) (fe_t rfl) rfl rfl rfl rfl (by show k * 3 + 1 + 2 ≤ n * 3; omega) (by decide) (key_set (by omega)) (⟨fun w h => (h.weak (i := 2) rfl).pick [2, 0, 1, 3] _ rfl (by decide), ?_⟩))
                      refine tb_done (by kernel_rfl) ?_
                      refine tx_then ?_
                      obtain ⟨hi2, hm2, _⟩ := put_facts (x := ((gl l k).1, o.hi, o.lo)) hn hkn hg.inj hg.map rfl
                      have hl1 : (l.set k ((gl l k).1, o.hi, o.lo)).length = n := by rw [List.length_set]; exact hn
                      refine tr_region ?_
                      refine tl_step rfl (oj_val (y_move (fe_t rfl)) ?_)
                      refine tl_step rfl (oj_val (y_move (fe_t rfl)) ?_)
                      refine tl_step rfl (oj_call2 Tryd.call87 fe_f (fel_cons (fe_t rfl) (fel_cons (fe_t rfl) fel_nil)) (fun w' hS => fixE hl1 hi2 hm2 (pickT (l := [_, _, _, _]) hS [1, 2, 3, 0] rfl (by decide)) (i0 := k) (AH.upd hg.hp (by omega) _) (by omega)) (fun q21 hq21 => ?_))
                      refine tl_nil ?_
                      refine tx_in ?_
                      refine tx_then ?_
                      refine tr_seq ?_
                      refine tr_region ?_
                      refine tl_step rfl (oj_val (y_assign fe_c) ?_)
                      refine tl_step rfl (oj_val (y_assign fe_c) ?_)
                      refine tl_nil ?_
                      refine tx_then ?_
                      refine tr_ret ?_
                      refine tx_ret (res2 Tryd.results62 (rok_t rfl) (rok_t rfl)) (fun w' hS => ?_)
                      have h1 := pickT (l := [_, _, _, _]) hS [0, 1, 2] rfl (by decide)
                      obtain ⟨p1, p2, p3⟩ := good_4 (f := f) (o := o) (by omega) (by rw [hg.yes hkn hid]; exact fun h9 => by cases h9)
                      exact ⟨⟨A, n, c, q21.1, q21.2⟩, ⟨by rw [p3, ← hid]; exact hg.put (x := ((gl l k).1, o.hi, o.lo)) hkn rfl hq21, by dsimp only; omega⟩, by (rw [p1, ← p2]) <;> rfl, h1⟩
              · try (exfalso; omega)
                all_goals
                  refine tr_seq ?_
                  refine tr_region ?_
                  refine tl_step rfl (oj_val (y_assign fe_c) ?_)
                  refine tl_step rfl (oj_val (y_assign fe_c) ?_)
                  refine tl_nil ?_
                  refine tx_then ?_
                  refine tr_ret ?_
                  refine tx_in_ret ?_
                  refine tx_then_ret ?_
                  refine tx_ret (res2 Tryd.results62 (rok_t rfl) (rok_t rfl)) (fun w' hS => ?_)
                  have h1 := pickT (l := [_, _, _, _]) hS [1, 2, 3] rfl (by decide)
                  obtain ⟨p1, p2, p3⟩ := bad (f := f) (o := o) (err_k (by omega)) (by decide)
                  exact ⟨⟨A, n, c, l, m⟩, ⟨by rw [p3]; exact hg, Nat.le_succ _⟩, by rw [p1, ← p2], h1⟩
          · try (exfalso; omega)
            all_goals
              refine tr_region ?_
              refine tl_step rfl (oj_val (y_eq (fe_t rfl) fe_c) ?_)
              refine tl_step rfl (oj_val (y_assign (fe_t rfl)) ?_)
              refine tl_nil ?_
              refine tx_then ?_
              refine tr_condp (fe_t rfl) (fun hq13 => ?_) (fun hq14 => ?_)
              · try (exfalso; omega)
                all_goals
                  refine tr_seq ?_
                  refine tr_seq ?_
                  refine tr_region ?_
                  refine tl_step rfl (oj_val (y_move (fe_t rfl)) ?_)
                  refine tl_step rfl (oj_val (y_not (fe_t rfl)) ?_)
                  refine tl_nil ?_
                  refine tx_then ?_
                  refine tr_condf (fe_t rfl) ?_
                  refine tr_skip ?_
                  refine tx_then ?_
                  refine tr_seq ?_
                  refine tr_region ?_
                  refine tl_step rfl (oj_val (y_fieldAddr (td := 3) Tryd.underlying90 rfl rfl Tryd.sizeOf3 (o' := 0) rfl (fe_t rfl)) ?_)
                  refine tl_step rfl (oj_val (y_ldb 0 Tryd.isAgg3 (fe_t rfl) rfl rfl) ?_)
                  refine tl_step rfl (oj_val (y_eq (fe_t rfl) fe_c) ?_)
                  refine tl_nil ?_
                  refine tx_then ?_
                  refine tr_condp (fe_t rfl) (fun hq15 => ?_) (fun hq16 => ?_)
                  · try (exfalso; omega)
                    all_goals
                      obtain ⟨n', rfl⟩ : ∃ n', n = n' + 1 := ⟨n - 1, by omega⟩
                      refine tr_region ?_
                      refine tl_step rfl (oj_val (y_move (fe_t rfl)) ?_)
                      refine tl_step rfl (oj_val (y_move (fe_t rfl)) ?_)
                      refine tl_step rfl (oj_call2 Tryd.call63 fe_f (fel_cons (fe_t rfl) (fel_cons (fe_t rfl) fel_nil)) (fun w' hS => takeE hn hg.inj hg.map (pickT (l := [_, _, _, _]) hS [1, 2, 3, 0] rfl (by decide)) (k := k) (by omega) hg.hp (by omega)) (fun q19 hq19 => ?_))
                      refine tl_nil ?_
                      refine tx_in ?_
                      refine tx_then ?_
                      refine tr_seq ?_
                      refine tr_region ?_
                      refine tl_step rfl (oj_val (y_assign fe_c) ?_)
                      refine tl_step rfl (oj_val (y_assign fe_c) ?_)
                      refine tl_nil ?_
                      refine tx_then ?_
                      refine tr_ret ?_
                      refine tx_ret (res2 Tryd.results62 (rok_t rfl) (rok_t rfl)) (fun w' hS => ?_)
                      have h1 := pickT (l := [_, _, _, _]) hS [0, 1, 2] rfl (by decide)
                      obtain ⟨p1, p2, p3⟩ := good_3 (f := f) (o := o) (by omega) (by rw [hg.yes hkn hid]; exact fun h9 => by cases h9)
                      exact ⟨⟨A, n', c, q19.1, q19.2⟩, ⟨by rw [p3, ← hid]; exact hg.cut (by omega) hq19, by dsimp only; omega⟩, by (rw [p1, ← p2]) <;> rfl, h1⟩
                  · try (exfalso; omega)
                    all_goals
                      refine tr_seq ?_
                      refine tb_draw1 9 [_, _, _, _] [_, _, _, _] (fun w h => h.pick [0, 1, 2, 3] _ rfl (by decide)) (fun w h => (h.weak (i := 2) rfl).pick [2, 0, 1, 3] _ rfl (by decide)) rfl ?_
                      refine tb_float (i := 0) rfl (by kernel_rfl) rfl (wants_none rfl) (yq_of (y_move (fe_t rfl))) ?_
                      refine tb_float (i := 1) rfl (by kernel_rfl) rfl (wants_none rfl) (yq_of (y_nilCheck (fe_t rfl))) ?_
                      refine tb_float (i := 2) rfl (by kernel_rfl) rfl (wants_none rfl) (yq_of (y_fieldAddr (td := 139) Tryd.underlying141 rfl rfl Tryd.sizeOf139 (o' := 0) rfl (fe_t rfl))) ?_
                      refine tb_float (i := 3) rfl (by kernel_rfl) rfl (wants_none rfl) (yq_of (y_ldb 2 Tryd.isAgg139 (fe_t rfl) rfl rfl)) ?_
                      refine tb_float (i := 4) rfl (by kernel_rfl) rfl (wants_none rfl) (yq_of (y_move (fe_t rfl))) ?_
                      refine tb_float (i := 5) rfl (by kernel_rfl) rfl (wants_none rfl) (yq_of (y_fieldAddr (td := 88) Tryd.underlying90 rfl rfl Tryd.sizeOf88 (o' := 2) rfl (fe_t rfl))) ?_
                      refine tb_float (i := 6) rfl (by kernel_rfl) rfl (wants_none rfl) (yq_of (y_ldbA 1 Tryd.isAgg88 Tryd.sizeOf88 (fe_t rfl) rfl rfl rfl)) ?_
                      refine tb_float (i := 7) rfl (by kernel_rfl) rfl (wants_none rfl) (yq_of (y_indexR Tryd.underlying139 Tryd.sizeOf144 (fe_t rfl) (fe_t rfl) (rch_w 0 rfl (by omega)) (by omega) rfl)) ?_
                      refine tb_float (i := 8) rfl (by kernel_rfl) rfl (wants_none rfl) (yq_of (y_fieldAddrR (td := 88) Tryd.underlying144 rfl rfl Tryd.sizeOf88 rfl (fe_t rfl) (rch_w 0 rfl (by omega)))) ?_
                      refine tb_one2 (i := 9) rfl (by kernel_rfl) (by kernel_rfl) (wants_none rfl) (oj_storeE (i := 2) (vs := [.int .u64 o.hi, .int .u64 o.lo]) Tryd.sizeOf88 (fe_t rfl) (fe_t rfl) rfl rfl rfl rfl (by show k * 3 + 1 + 2 ≤ n * 3; omega) (by decide) (key_set (by omega)) (⟨fun w h => (h.weak (i := 2) rfl).pick [2, 0, 1, 3] _ rfl (by decide), ?_⟩))
                      refine tb_done (by kernel_rfl) ?_
                      refine tx_then ?_
                      obtain ⟨hi2, hm2, _⟩ := put_facts (x := ((gl l k).1, o.hi, o.lo)) hn hkn hg.inj hg.map rfl
                      have hl1 : (l.set k ((gl l k).1, o.hi, o.lo)).length = n := by rw [List.length_set]; exact hn
                      refine tr_region ?_
                      refine tl_step rfl (oj_val (y_move (fe_t rfl)) ?_)
                      refine tl_step rfl (oj_val (y_move (fe_t rfl)) ?_)
                      refine tl_step rfl (oj_call2 Tryd.call87 fe_f (fel_cons (fe_t rfl) (fel_cons (fe_t rfl) fel_nil)) (fun w' hS => fixE hl1 hi2 hm2 (pickT (l := [_, _, _, _]) hS [1, 2, 3, 0] rfl (by decide)) (i0 := k) (AH.upd hg.hp (by omega) _) (by omega)) (fun q21 hq21 => ?_))
                      refine tl_nil ?_
                      refine tx_in ?_
                      refine tx_then ?_
                      refine tr_seq ?_
                      refine tr_region ?_
                      refine tl_step rfl (oj_val (y_assign fe_c) ?_)
                      refine tl_step rfl (oj_val (y_assign fe_c) ?_)
                      refine tl_nil ?_
                      refine tx_then ?_
                      refine tr_ret ?_
                      refine tx_ret (res2 Tryd.results62 (rok_t rfl) (rok_t rfl)) (fun w' hS => ?_)
                      have h1 := pickT (l := [_, _, _, _]) hS [0, 1, 2] rfl (by decide)
                      obtain ⟨p1, p2, p3⟩ := good_4 (f := f) (o := o) (by omega) (by rw [hg.yes hkn hid]; exact fun h9 => by cases h9)
                      exact ⟨⟨A, n, c, q21.1, q21.2⟩, ⟨by rw [p3, ← hid]; exact hg.put (x := ((gl l k).1, o.hi, o.lo)) hkn rfl hq21, by dsimp only; omega⟩, by (rw [p1, ← p2]) <;> rfl, h1⟩
              · try (exfalso; omega)
                all_goals
                  refine tr_seq ?_
                  refine tr_region ?_
                  refine tl_step rfl (oj_val (y_assign fe_c) ?_)
                  refine tl_step rfl (oj_val (y_assign fe_c) ?_)
                  refine tl_nil ?_
                  refine tx_then ?_
                  refine tr_ret ?_
                  refine tx_in_ret ?_
                  refine tx_then_ret ?_
                  refine tx_ret (res2 Tryd.results62 (rok_t rfl) (rok_t rfl)) (fun w' hS => ?_)
                  have h1 := pickT (l := [_, _, _, _]) hS [1, 2, 3] rfl (by decide)
                  obtain ⟨p1, p2, p3⟩ := bad (f := f) (o := o) (err_k (by omega)) (by decide)
                  exact ⟨⟨A, n, c, l, m⟩, ⟨by rw [p3]; exact hg, Nat.le_succ _⟩, by rw [p1, ← p2], h1⟩

theorem doE {w0 w : World} {T : List Res} {hb mb n c : Nat} {A : Option Addr} {l : List I3} {m : Mp} {f : Tb} (o : Op4) (hg : Gd n l m f) (hS : St w0 w (blk hb [.slice A n c, .map (some mb)] :: vec 144 3 (.slice A n c) n (l.flatMap cI3) :: mpR mb m [] :: T)) (hnb : n + 1 ≤ 4398046511104) :
    Calls Tryd.prog 62 #[.pointer (some ⟨hb, 0, none⟩), .agg #[(.int .i64 o.kind), (.int .i64 o.id), .int .u64 o.hi, .int .u64 o.lo]] w fun e w' => ∃ r : Hd, (Gd r.n r.l r.m (nxt f o) ∧ r.n ≤ n + 1) ∧ e = .returned (.tuple #[(.int .i64 (pop f o)), (.int .i64 (err f o))]) ∧ St w0 w' (blk hb [.slice r.A r.n r.c, .map (some mb)] :: vec 144 3 (.slice r.A r.n r.c) r.n (r.l.flatMap cI3) :: mpR mb r.m [] :: T) := by
  rcases hg.at o.id with h | ⟨k, h1, h2, h3⟩
  · exact doN hg h hS hnb
  · exact doH hg h2 h1 h3 hS hnb

end Go.Proofs.YtfcpmcdlgkfolaaDoor.Heap

namespace Go.Proofs.YtfcpmcdlgkfolaaDoor.E
open Go.RowKit
end Go.Proofs.YtfcpmcdlgkfolaaDoor.E
namespace Go.Proofs.YtfcpmcdlgkfolaaDoor.Heap
open Go.RowKit Go.Proofs.YtfcpmcdlgkfolaaDoor.E Go.Proofs.YtfcpmcdlgkfolaaDoor.Big

abbrev wv (k : Int × Int) : Value := .agg #[.int .u64 k.1, .int .u64 k.2]
def Mr (m : Mp) (f : Tb) : Prop := ∀ i, mget m i = (f i).map wv
variable {m : Mp} {f : Tb}
theorem Mr.nil : Mr [] (fun _ => none) := fun _ => rfl
theorem Mr.put (h : Mr m f) (i : Int) (k : Int × Int) : Mr (mput m i (wv k)) (upd f i (some k)) := fun j => by
  rw [mput_get]
  unfold upd
  split
  · rfl
  · exact h j
theorem Mr.del (h : Mr m f) (hn : (keys m).Nodup) (i : Int) : Mr (mdel m i) (upd f i none) := fun j => by
  rw [mdel_get hn]
  unfold upd
  split
  · rfl
  · exact h j
theorem Mr.emp (h : Mr m f) : Emp f ↔ m.length = 0 := by
  constructor
  · intro he
    cases m with
    | nil => rfl
    | cons p l =>
      obtain ⟨j, u⟩ := p
      have := h j
      rw [he j] at this
      simp [mget] at this
  · intro hl i
    have : m = [] := List.eq_nil_of_length_eq_zero hl
    subst this
    have := h i
    cases hf : f i with
    | none => rfl
    | some k => rw [hf] at this; cases this
theorem Mr.no (h : Mr m f) {i : Int} : mget m i = none ↔ f i = none := by
  rw [h i]
  cases f i <;> simp
theorem Mr.at (h : Mr m f) {i : Int} {v : Value} (hg : mget m i = some v) : ∃ k : Int × Int, f i = some k ∧ v = .agg #[.int .u64 k.1, .int .u64 k.2] := by
  have := h i
  rw [hg] at this
  cases hf : f i with
  | none => rw [hf] at this; cases this
  | some k => rw [hf] at this; exact ⟨k, rfl, Option.some.inj this⟩
theorem Mr.val (h : Mr m f) (b : Int) : ∃ c : Int × Int, (mget m b).getD (.agg #[.int .u64 0, .int .u64 0]) = .agg #[.int .u64 c.1, .int .u64 c.2] ∧ ∀ k, f b = some k → k = c := by
  rw [h b]
  cases hf : f b with
  | none => exact ⟨(0, 0), rfl, fun k hk => by cases hk⟩
  | some k => exact ⟨k, rfl, fun k' hk => by cases hk; rfl⟩
/-- Who is first among those that were seen. -/
def Bst (f : Tb) (V : Int → Prop) (b : Int) (fd : Bool) : Prop := (fd = false ∧ ∀ i, ¬ V i) ∨ (fd = true ∧ V b ∧ ∃ k, f b = some k ∧ ∀ i k', V i → f i = some k' → i ≠ b → lt3 (b, k) (i, k'))
variable {V V' : Int → Prop} {b j : Int} {fd : Bool} {kj : Int × Int}
theorem Bst.val (h : Bst f V b fd) (hfd : fd = true) {c : Int × Int} (hc : ∀ k, f b = some k → k = c) : f b = some c := by
  rcases h with ⟨h1, _⟩ | ⟨_, _, k, hk, _⟩
  · rw [hfd] at h1; cases h1
  · rw [hk, hc k hk]
theorem Bst.take (h : Bst f V b fd) (hV : ∀ i, V' i ↔ V i ∨ i = j) (hj : f j = some kj) (hc : fd = true → ∀ k, f b = some k → lt3 (j, kj) (b, k)) : Bst f V' j true := by
  refine .inr ⟨rfl, (hV j).2 (.inr rfl), kj, hj, fun i k' hi hk hne => ?_⟩
  rcases (hV i).1 hi with h1 | h1
  · rcases h with ⟨_, h2⟩ | ⟨h2, h3, k, h4, h5⟩
    · exact absurd h1 (h2 i)
    · have h6 := hc h2 k h4
      by_cases e : i = b
      · subst e
        rw [h4] at hk; cases hk
        exact h6
      · exact lt3_tr h6 (h5 i k' h1 hk e)
  · exact absurd h1 hne
theorem Bst.keep (h : Bst f V b fd) (hfd : fd = true) (hV : ∀ i, V' i ↔ V i ∨ i = j) (hnj : ¬ V j) (hj : f j = some kj) (hc : ∀ k, f b = some k → ¬ lt3 (j, kj) (b, k)) : Bst f V' b fd := by
  rcases h with ⟨h2, _⟩ | ⟨h2, h3, k, h4, h5⟩
  · rw [hfd] at h2; cases h2
  · refine .inr ⟨h2, (hV b).2 (.inl h3), k, h4, fun i k' hi hk hne => ?_⟩
    rcases (hV i).1 hi with h1 | h1
    · exact h5 i k' h1 hk hne
    · subst h1
      rw [hj] at hk; cases hk
      exact lt3_tot (hc k h4) hne
theorem Bst.fin (hm : Mr m f) (h : Bst f (fun i => i ∈ keys m ∧ i ∉ ([] : List Int)) b fd) (hne : ¬ Emp f) : amin f = b ∧ IsMin f (amin f) := by
  have hV : ∀ i k, f i = some k → i ∈ keys m ∧ i ∉ ([] : List Int) := fun i k hk => by
    refine ⟨Decidable.not_not.1 fun h1 => ?_, by simp⟩
    have := hm.no.1 (mget_none.2 h1)
    rw [hk] at this; cases this
  rcases h with ⟨_, h2⟩ | ⟨_, h3, k, h4, h5⟩
  · exfalso
    refine hne fun i => ?_
    cases hf : f i with
    | none => rfl
    | some k => exact absurd (hV i k hf) (h2 i)
  · have hm : IsMin f b := ⟨k, h4, fun i k' hk hne => h5 i k' (hV i k' hk) hk hne⟩
    have := amin_eq hm
    exact ⟨this, by rw [this]; exact hm⟩
end Go.Proofs.YtfcpmcdlgkfolaaDoor.Heap

namespace Go.Proofs.YtfcpmcdlgkfolaaDoor.Heap
open Go.RowKit Go.Proofs.YtfcpmcdlgkfolaaDoor.E Go.Proofs.YtfcpmcdlgkfolaaDoor.Big

end Go.Proofs.YtfcpmcdlgkfolaaDoor.Heap

namespace Go.Proofs.YtfcpmcdlgkfolaaDoor.E
open Go.RowKit
theorem y_cutM {P : Program} {N : Nat} {w0 : World} {F : Frm} {L : List Res} {d : Option Tmp} {x y z : Operand} {ty t : TypeId} {pos : String} {af : Array Edge} {gd : Option (Nat × Bool)} {e s n c l : Nat} {A : Option Addr} {k k' : IntKind} (hu : P.underlying t = some (.slice e)) (hs : ∀ w, (sizeOf e).run P w = .ok s w) (hx : FE N F x (.slice A n c)) (hy : FE N F y (.int k (l : Int))) (hz : FE N F z (.int k' (l : Int))) (h1 : l ≤ c) : Yld P N w0 F L ⟨d, .slice t x none (some y) (some z), ty, pos, af, gd⟩ (.slice A l l) := fun a w hF _ => by
  have hE : P.elem t = e := by simp [Program.elem, hu]
  have ht' : P.underlying t = some (.slice (P.elem t)) := by rw [hE]; exact hu
  have hr : (Instr.sliceAt t (.slice A n c) none (some (.int k l)) (some (.int k' l))).run P w = .ok (.slice A l l) w := by
    rw [run_sliceAt_slice w t _ _ _ _ ht']
    have : (Instr.slice t (.slice A n c) none (some (.int k l)) (some (.int k' l))).run P w = ((sizeOf (P.elem t)).run P w).andThen fun s w => .ok (sliced A 0 (l : Int).toNat l s) w := by
      simp [Instr.slice, run_underlying hu, hE, Instr.sliceBounds, run_sliceBound, sliced, (by omega : (0 : Int) ≤ l), (by omega : (l : Int) ≤ c)]
    rw [this, hE]
    simp [hs, Result.andThen, sliced]
    intro h
    cases A <;> simp [Addr.add]
  simp [execOp, hx a hF, hy a hF, hz a hF, hr]
end Go.Proofs.YtfcpmcdlgkfolaaDoor.E
namespace Go.Proofs.YtfcpmcdlgkfolaaDoor.Heap
open Go.RowKit Go.Proofs.YtfcpmcdlgkfolaaDoor.E Go.Proofs.YtfcpmcdlgkfolaaDoor.Big

def o0 : Op4 := ⟨0, 0, 0, 0⟩
def c4 (o : Op4) : List Value := [(.int .i64 o.kind), (.int .i64 o.id), .int .u64 o.hi, .int .u64 o.lo]
theorem hc4 : ∀ o, (c4 o).length = 4 := fun _ => rfl
theorem run_next {l : List Op4} {k : Nat} (h : k < l.length) : run (l.take (k + 1)) = go (run (l.take k)) (l.getD k o0) := by
  rw [run_take h]
  congr 1
  simp [List.getD_eq_getElem?_getD, h]
theorem go_errs (s : Rn) (o : Op4) : (go s o).errs = s.errs ++ [err s.f o] := rfl
theorem go_pops {s : Rn} {o : Op4} (h : err s.f o = 0) (h2 : o.kind = 2) : (go s o).pops = s.pops ++ [pop s.f o] := by
  unfold go pop
  simp only
  rw [if_pos ⟨h, h2⟩, if_pos ⟨h, h2⟩]
theorem go_stay {s : Rn} {o : Op4} (h : ¬ (err s.f o = 0 ∧ o.kind = 2)) : (go s o).pops = s.pops := by
  unfold go
  simp only
  rw [if_neg h]
theorem cI_app (l : List Int) (x : Int) : cI l ++ [(.int .i64 x)] = cI (l ++ [x]) := by simp [cI]
/-- What is handed back. -/
structure PR where
  e : Vs
  p : Vs
  d : Vs
  k : Nat
  L : List Int
structure PRok (n : Nat) (s : Rn) (r : PR) : Prop where
  en : r.e.n = n ∧ s.errs.length = n
  ex : r.e.xs = cI s.errs
  pn : r.p.n = s.pops.length ∧ r.p.n ≤ n
  px : r.p.xs = cI s.pops
  dn : r.d.n = r.L.length ∧ r.d.n ≤ n
  dx : r.d.xs = cI r.L
  dr : Dr s.f r.L
/-- Half the way out. -/
def Half (f0 f : Tb) (L : List Int) : Prop := ∀ M, Dr f M → Dr f0 (L ++ M)
theorem Half.nil (f : Tb) : Half f f [] := fun _ h => h
theorem Half.next {f0 f : Tb} {L : List Int} {i : Int} (h : Half f0 f L) (hi : IsMin f i) : Half f0 (upd f i none) (L ++ [i]) := fun M hM => by
  rw [List.append_assoc]
  exact h _ (.cons hi hM)
theorem Half.fin {f0 f : Tb} {L : List Int} (h : Half f0 f L) (he : Emp f) : Dr f0 L := by
  have := h [] (.nil he)
  rwa [List.append_nil] at this
theorem Gd.min {n : Nat} {l : List I3} {m : Mp} {f : Tb} (h : Gd n l m f) (h0 : 0 < n) : IsMin f (gl l 0).1 := h.rf.root h.hp (by rw [h.len]; exact h0)
theorem Mr.yes {m : Mp} {f : Tb} (h : Mr m f) {i : Int} (hi : (mget m i).isSome = true) : f i ≠ none := fun h9 => by
  rw [h i, h9] at hi
  cases hi
theorem Mr.less {m : Mp} {f : Tb} (h : Mr m f) {i : Int} (hi : IsMin f i) : (mdel m i).length + 1 = m.length := mdel_len (by
  refine Decidable.not_not.1 fun h1 => ?_
  obtain ⟨k, h2, _⟩ := hi
  rw [h.no.1 (mget_none.2 h1)] at h2
  cases h2)
end Go.Proofs.YtfcpmcdlgkfolaaDoor.Heap

namespace Go.Proofs.YtfcpmcdlgkfolaaDoor.Heap
open Go.RowKit Go.Proofs.YtfcpmcdlgkfolaaDoor.E Go.Proofs.YtfcpmcdlgkfolaaDoor.Big

set_option maxRecDepth 100000 in
set_option maxHeartbeats 400000 in
theorem clipE (A : Option Addr) (n c : Nat) (hc : n ≤ c) (w : World) :
    Calls Tryd.prog 64 #[.slice A n c] w fun e w' => e = .returned (.slice A n n) ∧ St w w' [] := by
  refine calls_tr Tryd.func64 Tryd.ntmps64 rfl rfl (St.refl _) ?_
  refine tr_seq ?_
  refine tr_region ?_
  refine tl_step rfl (oj_val (y_assign fe_c) ?_)
  refine tl_nil ?_
  refine tx_then ?_
  refine tr_seq ?_
  refine tr_region ?_
  refine tl_step rfl (oj_val (y_move (fe_t rfl)) ?_)
  refine tl_step rfl (oj_val (y_move (fe_t rfl)) ?_)
  refine tl_step rfl (oj_val (y_len Tryd.underlying39 (fe_t rfl)) ?_)
  refine tl_step rfl (oj_val (y_move (fe_t rfl)) ?_)
  refine tl_step rfl (oj_val (y_len Tryd.underlying39 (fe_t rfl)) ?_)
  refine tl_step rfl (oj_val (y_cutM Tryd.underlying39 Tryd.sizeOf3 (fe_t rfl) (fe_t rfl) (fe_t rfl) hc) ?_)
  refine tl_step rfl (oj_val (y_assign (fe_t rfl)) ?_)
  refine tl_nil ?_
  refine tx_then ?_
  refine tr_ret ?_
  refine tx_ret (res1 Tryd.results64 (rok_t rfl)) (fun w' hS => ?_)
  exact ⟨rfl, hS.pick [] _ rfl (by decide)⟩

set_option maxRecDepth 100000 in
set_option maxHeartbeats 8000000 in
theorem playE (A : Option Addr) (n c : Nat) (os : List Op4) (w : World) (hr : Rd w A (os.flatMap c4)) (hn : os.length = n) (hm : n ≤ 4398046511103) :
    Calls Tryd.prog 32 #[.slice A n c] w fun e w' => ∃ r : PR, PRok n (run os) r ∧ e = .returned (.tuple #[.slice r.e.A r.e.n r.e.c, .slice r.p.A r.p.n r.p.c, .slice r.d.A r.d.n r.k]) ∧ St w w' [vec 25 1 (.slice r.e.A r.e.n r.e.c) r.e.n r.e.xs, vec 3 1 (.slice r.p.A r.p.n r.p.c) r.p.n r.p.xs, vec 3 1 (.slice r.d.A r.d.n r.d.c) r.d.n r.d.xs] := by
  refine calls_tr Tryd.func32 Tryd.ntmps32 rfl rfl (St.refl _) ?_
  refine tr_seq ?_
  refine tr_region ?_
  refine tl_step rfl (oj_val (y_assign fe_c) ?_)
  refine tl_step rfl (oj_val (y_assign fe_c) ?_)
  refine tl_step rfl (oj_val (y_assign fe_c) ?_)
  refine tl_nil ?_
  refine tx_then ?_
  refine tr_seq ?_
  refine tr_region ?_
  refine tl_step rfl (oj_makeMap (fun b_mp => ?_))
  refine tl_step rfl (oj_val ((fun {u0} hx hb => y_build (is := [1]) (vs := [u0]) (cs := [.slice none 0 0, u0]) rfl hx hb) (fel_cons (fe_t rfl) fel_nil) (by kernel_rfl)) ?_)
  refine tl_step rfl (oj_box (fe_t rfl) (fun hb => ?_))
  refine tl_step rfl (oj_val (y_assign (fe_t rfl)) ?_)
  refine tl_nil ?_
  refine tx_then ?_
  refine tr_seq ?_
  refine tr_region ?_
  refine tl_step rfl (oj_val (y_assign fe_c) ?_)
  refine tl_nil ?_
  refine tx_then ?_
  refine tr_seq ?_
  refine tr_region ?_
  refine tl_step rfl (oj_val (y_assign fe_c) ?_)
  refine tl_step rfl (oj_val (y_assign fe_c) ?_)
  refine tl_nil ?_
  refine tx_then ?_
  refine tr_seq ?_
  refine tr_seq ?_
  refine tr_region ?_
  refine tl_step rfl (oj_val (y_move (fe_t rfl)) ?_)
  refine tl_step rfl (oj_val (y_len Tryd.underlying86 (fe_t rfl)) ?_)
  refine tl_step rfl (oj_val (y_move fe_c) ?_)
  refine tl_nil ?_
  refine tx_then ?_
  refine tr_block ?_
  refine tr_add (r := vec 144 3 (.slice none 0 0) 0 []) vec_nil rfl ?_
  refine tr_add (r := vec 25 1 (.slice none 0 0) 0 []) vec_nil rfl ?_
  refine tr_add (r := vec 3 1 (.slice none 0 0) 0 []) vec_nil rfl ?_
  refine tr_loop5 [6, 7, 10, 11, 12, 18, 19, 20, 21, 22, 23, 24, 25, 26, 27, 28, 29, 30, 31, 32, 33, 34, 35, 36, 37, 38, 39, 40, 41, 42, 43] (fun (i : Nat) (s : Rn) (z : Hd) (e1 : Vs) (p1 : Vs) => [(18, .int .i64 (i : Int)), (6, .slice e1.A e1.n e1.c), (7, .slice p1.A p1.n p1.c)]) 0 (fun (i : Nat) (s : Rn) (z : Hd) (e1 : Vs) (p1 : Vs) => [(3, blk hb [.slice z.A z.n z.c, .map (some b_mp)]), (2, vec 144 3 (.slice z.A z.n z.c) z.n (z.l.flatMap cI3)), (4, mpR b_mp z.m []), (1, vec 25 1 (.slice e1.A e1.n e1.c) e1.n e1.xs), (0, vec 3 1 (.slice p1.A p1.n p1.c) p1.n p1.xs)]) (fun (i : Nat) (s : Rn) (z : Hd) (e1 : Vs) (p1 : Vs) => i ≤ n ∧ s = run (os.take i) ∧ Gd z.n z.l z.m s.f ∧ z.n ≤ i ∧ (e1.n = i ∧ s.errs.length = i) ∧ e1.xs = cI s.errs ∧ p1.n = s.pops.length ∧ p1.xs = cI s.pops ∧ p1.n ≤ i) (fun (i : Nat) (s : Rn) (z : Hd) (e1 : Vs) (p1 : Vs) => n - i) (0) ((⟨fun _ => none, [], []⟩ : Rn)) ((⟨none, 0, 0, [], []⟩ : Hd)) (⟨none, 0, 0, []⟩ : Vs) (⟨none, 0, 0, []⟩ : Vs) (cov_cons (by first | rfl | exact v_int (by omega) | exact v_bool (by simp [*])) (cov_cons (by first | rfl | exact v_int (by omega) | exact v_bool (by simp [*])) (cov_cons (by first | rfl | exact v_int (by omega) | exact v_bool (by simp [*])) (cov_nil)))) (fun w h => h) ?_ ?_
  · try dsimp only
    exact ⟨by omega, rfl, Gd.nil, Nat.le_refl _, ⟨rfl, rfl⟩, rfl, rfl, rfl, Nat.le_refl _⟩
  intro i s z e1 p1 hp
  obtain ⟨hi, hs, hg, hzi, ⟨hen, hel⟩, hex, hpn, hpx, hpi⟩ := hp
  refine tr_seq ?_
  refine tr_region ?_
  refine tl_step rfl (oj_val (y_lss (fe_t rfl) (fe_t rfl)) ?_)
  refine tl_nil ?_
  refine tx_then ?_
  refine tr_seq ?_
  refine tr_condp (fe_t rfl) (fun hq1 => ?_) (fun hq2 => ?_)
  · try (exfalso; omega)
    all_goals
      refine tr_skip ?_
      refine tx_then ?_
      refine tr_seq ?_
      refine tr_block ?_
      refine tr_seq ?_
      refine tr_region ?_
      refine tl_step rfl (oj_val (y_index Tryd.underlying86 Tryd.sizeOf90 (fe_t rfl) (fe_t rfl) (rdl_out hr) (by rw [flat_len hc4]; omega) (by decide) (by omega) rfl) ?_)
      refine tl_step rfl (oj_val (y_ldA (cs := c4 (os.getD i o0)) Tryd.isAgg90 Tryd.sizeOf90 (fe_t rfl) (rdl_out hr) rfl (by decide) (flatGA (d := o0) hc4 (by omega))) ?_)
      refine tl_step rfl (oj_alloc Tryd.zeroValue90 (fun bo => ?_))
      refine tl_step rfl (oj_storeW 0 Tryd.sizeOf90 (fe_t rfl) (fe_t rfl) rfl rfl rfl rfl rfl (?_))
      refine tl_nil ?_
      refine tx_then ?_
      refine tr_seq ?_
      refine tr_region ?_
      refine tl_step rfl (oj_val (y_move (fe_t rfl)) ?_)
      refine tl_step rfl (oj_val (y_ldbA 0 Tryd.isAgg90 Tryd.sizeOf90 (fe_t rfl) rfl rfl rfl) ?_)
      refine tl_step rfl (oj_call2 Tryd.call62 fe_f (fel_cons (fe_t rfl) (fel_cons (fe_t rfl) fel_nil)) (fun w' hS => doE (os.getD i o0) hg (hS.pick [4, 3, 5, 0, 1, 2] [_, _, _, _, _, _] rfl (by decide)) (by omega)) (fun r1 hr1 => ?_))
      refine tl_step rfl (oj_val (y_move (fe_t rfl)) ?_)
      refine tl_step rfl (oj_val (y_extract (fe_t rfl) rfl) ?_)
      refine tl_step rfl (oj_val (y_extract (fe_t rfl) rfl) ?_)
      refine tl_step rfl (oj_val (y_assign (fe_t rfl)) ?_)
      refine tl_step rfl (oj_val (y_assign (fe_t rfl)) ?_)
      refine tl_nil ?_
      refine tx_then ?_
      refine tr_seq ?_
      refine tr_region ?_
      refine tl_step rfl (oj_val (y_move (fe_t rfl)) ?_)
      refine tl_step rfl (oj_val (y_move (fe_t rfl)) ?_)
      refine tl_step rfl (oj_slice1 Tryd.underlying76 Tryd.sizeOf25 Tryd.zeroValue25 (fe_t rfl) (by decide) rfl (fun b1 => ?_))
      refine tl_step rfl (oj_appendB (i := 6) (s := 1) (z := (.int .i64 0)) (bytes := 8) Tryd.underlying76 (by kernel_rfl) (fe_t rfl) (fe_t rfl) rfl (rdl_blk 0 rfl) rfl (by decide) (by first | exact oneI | exact oneF (fun _ => rfl) | exact fun u hu => List.all_eq_true.1 (show List.all _ (fun x => x.oneCell') = true from rfl) u hu | (intro u hu; revert u hu; simp [Value.oneCell'])) (by decide) ⟨by omega, by decide⟩ (fun Aa1 ca1 hca1 => ?_))
      refine tl_step rfl (oj_val (y_assign (fe_t rfl)) ?_)
      refine tl_nil ?_
      refine tx_then ?_
      refine tr_seq ?_
      refine tr_region ?_
      refine tl_step rfl (oj_val (y_move (fe_t rfl)) ?_)
      refine tl_step rfl (oj_val (y_eq (fe_t rfl) fe_c) ?_)
      refine tl_step rfl (oj_val (y_move (fe_t rfl)) ?_)
      refine tl_splitp (d := 34) rfl (fun hq3 => ?_) (fun hq4 => ?_)
      · try (exfalso; omega)
        all_goals
          refine tl_want rfl rfl rfl (oj_val (y_fieldAddr (td := 3) Tryd.underlying90 rfl rfl Tryd.sizeOf3 (o' := 0) rfl (fe_t rfl)) ?_)
          refine tl_want rfl rfl rfl (oj_val (y_ldb 4 Tryd.isAgg3 (fe_t rfl) rfl rfl) ?_)
          refine tl_want rfl rfl rfl (oj_val (y_eq (fe_t rfl) fe_c) ?_)
          refine tl_step rfl (oj_val (y_pickt (fe_t rfl) (fe_t rfl)) ?_)
          refine tl_nil ?_
          refine tx_then ?_
          refine tr_condp (fe_t rfl) (fun hq5 => ?_) (fun hq6 => ?_)
          · try (exfalso; omega)
            all_goals
              refine tr_region ?_
              refine tl_step rfl (oj_val (y_move (fe_t rfl)) ?_)
              refine tl_step rfl (oj_val (y_move (fe_t rfl)) ?_)
              refine tl_step rfl (oj_slice1 Tryd.underlying39 Tryd.sizeOf3 Tryd.zeroValue3 (fe_t rfl) (by decide) rfl (fun b2 => ?_))
              refine tl_step rfl (oj_appendB (i := 6) (s := 1) (z := (.int .i64 0)) (bytes := 8) Tryd.underlying39 (by kernel_rfl) (fe_t rfl) (fe_t rfl) rfl (rdl_blk 0 rfl) rfl (by decide) (by first | exact oneI | exact oneF (fun _ => rfl) | exact fun u hu => List.all_eq_true.1 (show List.all _ (fun x => x.oneCell') = true from rfl) u hu | (intro u hu; revert u hu; simp [Value.oneCell'])) (by decide) ⟨by omega, by decide⟩ (fun Aa2 ca2 hca2 => ?_))
              refine tl_step rfl (oj_val (y_assign (fe_t rfl)) ?_)
              refine tl_nil ?_
              refine tx_in ?_
              refine tx_then ?_
              refine tr_region ?_
              refine tl_step rfl (oj_val (y_inc (fe_t rfl) fe_c (by omega)) ?_)
              refine tl_step rfl (oj_val (y_move (fe_t rfl)) ?_)
              refine tl_nil ?_
              apply tx_back5 (i + 1) (go s (os.getD i o0)) (r1) ((⟨_, _, _, _⟩ : Vs)) ((⟨_, _, _, _⟩ : Vs))
              · exact (cov_cons (by first | rfl | exact v_int (by omega) | exact v_bool (by simp [*])) (cov_cons (by first | rfl | exact v_int (by omega) | exact v_bool (by simp [*])) (cov_cons (by first | rfl | exact v_int (by omega) | exact v_bool (by simp [*])) (cov_nil))))
              · repeat (first | exact over_nil | refine over_put rfl ?_ | refine over_drop rfl ?_)
              · exact fun w h => h.pick [6, 7, 3, 2, 4] _ rfl (by decide)
              · exact ⟨⟨by omega, by rw [hs]; exact (run_next (by omega)).symm, hr1.1, by have := hr1.2; omega, ⟨by dsimp only; omega, by rw [go_errs]; simp; omega⟩, by rw [go_errs, ← cI_app, ← hex]; rfl, by rw [go_pops (by assumption) (by assumption)]; simp; omega, by rw [go_pops (by assumption) (by assumption), ← cI_app, ← hpx]; rfl, by dsimp only; omega⟩, by omega⟩
          · try (exfalso; omega)
            all_goals
              refine tr_skip ?_
              refine tx_in ?_
              refine tx_then ?_
              refine tr_region ?_
              refine tl_step rfl (oj_val (y_inc (fe_t rfl) fe_c (by omega)) ?_)
              refine tl_step rfl (oj_val (y_move (fe_t rfl)) ?_)
              refine tl_nil ?_
              apply tx_back5 (i + 1) (go s (os.getD i o0)) (r1) ((⟨_, _, _, _⟩ : Vs)) ((⟨_, _, _, _⟩ : Vs))
              · exact (cov_cons (by first | rfl | exact v_int (by omega) | exact v_bool (by simp [*])) (cov_cons (by first | rfl | exact v_int (by omega) | exact v_bool (by simp [*])) (cov_cons (by first | rfl | exact v_int (by omega) | exact v_bool (by simp [*])) (cov_nil))))
              · repeat (first | exact over_nil | refine over_put rfl ?_ | refine over_drop rfl ?_)
              · exact fun w h => h.pick [5, 6, 2, 1, 3] _ rfl (by decide)
              · exact ⟨⟨by omega, by rw [hs]; exact (run_next (by omega)).symm, hr1.1, by have := hr1.2; omega, ⟨by dsimp only; omega, by rw [go_errs]; simp; omega⟩, by rw [go_errs, ← cI_app, ← hex]; rfl, by rw [go_stay (fun h9 => by first | exact absurd h9.1 (by assumption) | exact absurd h9.2 (by assumption))]; exact hpn, by rw [go_stay (fun h9 => by first | exact absurd h9.1 (by assumption) | exact absurd h9.2 (by assumption))]; exact hpx, by dsimp only; omega⟩, by omega⟩
      · try (exfalso; omega)
        all_goals
          refine tl_skip rfl rfl rfl rfl ?_
          refine tl_skip rfl rfl rfl rfl ?_
          refine tl_skip rfl rfl rfl rfl ?_
          refine tl_step rfl (oj_val (y_pickf (fe_t rfl) fe_c) ?_)
          refine tl_nil ?_
          refine tx_then ?_
          refine tr_condf (fe_t rfl) ?_
          refine tr_skip ?_
          refine tx_in ?_
          refine tx_then ?_
          refine tr_region ?_
          refine tl_step rfl (oj_val (y_inc (fe_t rfl) fe_c (by omega)) ?_)
          refine tl_step rfl (oj_val (y_move (fe_t rfl)) ?_)
          refine tl_nil ?_
          apply tx_back5 (i + 1) (go s (os.getD i o0)) (r1) ((⟨_, _, _, _⟩ : Vs)) ((⟨_, _, _, _⟩ : Vs))
          · exact (cov_cons (by first | rfl | exact v_int (by omega) | exact v_bool (by simp [*])) (cov_cons (by first | rfl | exact v_int (by omega) | exact v_bool (by simp [*])) (cov_cons (by first | rfl | exact v_int (by omega) | exact v_bool (by simp [*])) (cov_nil))))
          · repeat (first | exact over_nil | refine over_put rfl ?_ | refine over_drop rfl ?_)
          · exact fun w h => h.pick [5, 6, 2, 1, 3] _ rfl (by decide)
          · exact ⟨⟨by omega, by rw [hs]; exact (run_next (by omega)).symm, hr1.1, by have := hr1.2; omega, ⟨by dsimp only; omega, by rw [go_errs]; simp; omega⟩, by rw [go_errs, ← cI_app, ← hex]; rfl, by rw [go_stay (fun h9 => by first | exact absurd h9.1 (by assumption) | exact absurd h9.2 (by assumption))]; exact hpn, by rw [go_stay (fun h9 => by first | exact absurd h9.1 (by assumption) | exact absurd h9.2 (by assumption))]; exact hpx, by dsimp only; omega⟩, by omega⟩
  · try (exfalso; omega)
    all_goals
      refine tr_exit ?_
      refine tx_then_exit ?_
      refine tx_then_exit ?_
      refine tx_in_exit ?_
      refine tx_then ?_
      refine tr_seq ?_
      refine tr_block ?_
      refine tr_add (r := vec 3 1 (.slice none 0 0) 0 []) vec_nil rfl ?_
      refine tr_loop8 [8, 44, 45, 46, 47, 48, 49, 50, 51, 52, 53, 54, 55] (fun (f1 : Tb) (A2 : Option Addr) (n2 : Nat) (c2 : Nat) (l2 : List I3) (m2 : Mp) (L : List Int) (d1 : Vs) => [(8, .slice d1.A d1.n d1.c)]) 0 (fun (f1 : Tb) (A2 : Option Addr) (n2 : Nat) (c2 : Nat) (l2 : List I3) (m2 : Mp) (L : List Int) (d1 : Vs) => [(4, blk hb [.slice A2 n2 c2, .map (some b_mp)]), (3, vec 144 3 (.slice A2 n2 c2) n2 (l2.flatMap cI3)), (5, mpR b_mp m2 []), (0, vec 3 1 (.slice d1.A d1.n d1.c) d1.n d1.xs)]) (fun (f1 : Tb) (A2 : Option Addr) (n2 : Nat) (c2 : Nat) (l2 : List I3) (m2 : Mp) (L : List Int) (d1 : Vs) => Gd n2 l2 m2 f1 ∧ Half s.f f1 L ∧ L.length + n2 ≤ n ∧ d1.n = L.length ∧ d1.xs = cI L) (fun (f1 : Tb) (A2 : Option Addr) (n2 : Nat) (c2 : Nat) (l2 : List I3) (m2 : Mp) (L : List Int) (d1 : Vs) => n2) (s.f) (z.A) (z.n) (z.c) (z.l) (z.m) ([]) (⟨none, 0, 0, []⟩ : Vs) (cov_cons (by first | rfl | exact v_int (by omega) | exact v_bool (by simp [*])) (cov_nil)) (fun w h => h) ?_ ?_
      · try dsimp only
        exact ⟨hg, Half.nil _, by simp; omega, rfl, rfl⟩
      intro f1 A2 n2 c2 l2 m2 L d1 hp
      obtain ⟨hg2, hhf, hdl, hdn, hdx⟩ := hp
      refine tr_seq ?_
      refine tr_seq ?_
      refine tr_region ?_
      refine tl_step rfl (oj_val (y_move (fe_t rfl)) ?_)
      refine tl_step rfl (oj_val (y_nilCheck (fe_t rfl)) ?_)
      refine tl_step rfl (oj_val (y_fieldAddr (td := 139) Tryd.underlying141 rfl rfl Tryd.sizeOf139 (o' := 0) rfl (fe_t rfl)) ?_)
      refine tl_step rfl (oj_val (y_ldb 4 Tryd.isAgg139 (fe_t rfl) rfl rfl) ?_)
      refine tl_step rfl (oj_val (y_len Tryd.underlying139 (fe_t rfl)) ?_)
      refine tl_step rfl (oj_val (y_gtr (fe_t rfl) fe_c) ?_)
      refine tl_nil ?_
      refine tx_then ?_
      refine tr_condp (fe_t rfl) (fun hq7 => ?_) (fun hq8 => ?_)
      · try (exfalso; omega)
        all_goals
          obtain ⟨n', rfl⟩ : ∃ n', n2 = n' + 1 := ⟨n2 - 1, by omega⟩
          refine tr_skip ?_
          refine tx_then ?_
          refine tr_block ?_
          refine tr_region ?_
          refine tl_step rfl (oj_val (y_move (fe_t rfl)) ?_)
          refine tl_step rfl (oj_val (y_move (fe_t rfl)) ?_)
          refine tl_step rfl (oj_call2 Tryd.call63 fe_f (fel_cons (fe_t rfl) (fel_cons (fe_c (v := (.int .i64 (((0 : Nat) : Int))))) fel_nil)) (fun w' hS => takeE hg2.len hg2.inj hg2.map (hS.pick [4, 3, 5, 0, 1, 2] [_, _, _, _, _, _] rfl (by decide)) (k := 0) (by omega) hg2.hp (by omega)) (fun q13 hq13 => ?_))
          refine tl_step rfl (oj_val (y_field1 (f := _) (td := 3) Tryd.underlying144 rfl rfl Tryd.isAgg3 (fe_t rfl) rfl) ?_)
          refine tl_step rfl (oj_slice1 Tryd.underlying39 Tryd.sizeOf3 Tryd.zeroValue3 (fe_t rfl) (by decide) rfl (fun b3 => ?_))
          refine tl_step rfl (oj_appendB (i := 4) (s := 1) (z := (.int .i64 0)) (bytes := 8) Tryd.underlying39 (by kernel_rfl) (fe_t rfl) (fe_t rfl) rfl (rdl_blk 0 rfl) rfl (by decide) (by first | exact oneI | exact oneF (fun _ => rfl) | exact fun u hu => List.all_eq_true.1 (show List.all _ (fun x => x.oneCell') = true from rfl) u hu | (intro u hu; revert u hu; simp [Value.oneCell'])) (by decide) ⟨by omega, by decide⟩ (fun Aa3 ca3 hca3 => ?_))
          refine tl_step rfl (oj_val (y_assign (fe_t rfl)) ?_)
          refine tl_nil ?_
          refine tx_in ?_
          apply tx_back8 (upd f1 (gl l2 0).1 none) (A2) (n') (c2) (q13.1) (q13.2) (L ++ [(gl l2 0).1]) ((⟨_, _, _, _⟩ : Vs))
          · exact (cov_cons (by first | rfl | exact v_int (by omega) | exact v_bool (by simp [*])) (cov_nil))
          · repeat (first | exact over_nil | refine over_put rfl ?_ | refine over_drop rfl ?_)
          · exact fun w h => h.pick [4, 5, 6, 2, 1, 3] _ rfl (by decide)
          · exact ⟨⟨hg2.cut (by omega) hq13, hhf.next (hg2.min (by omega)), by simp; omega, by simp; omega, by rw [← cI_app, ← hdx]; rfl⟩, by omega⟩
      · try (exfalso; omega)
        all_goals
          refine tr_exit ?_
          refine tx_then_exit ?_
          refine tx_then_exit ?_
          refine tx_in_exit ?_
          refine tx_then ?_
          refine tr_seq ?_
          obtain rfl : i = n := by omega
          refine tr_pure (vec_cap 0 rfl) (fun hdc => ?_)
          refine tr_region ?_
          refine tl_step rfl (oj_val (y_move (fe_t rfl)) ?_)
          refine tl_step rfl (oj_val (y_move (fe_t rfl)) ?_)
          refine tl_step rfl (oj_val (y_move (fe_t rfl)) ?_)
          refine tl_step rfl (oj_callv Tryd.call64 fe_f (fel_cons (fe_t rfl) fel_nil) (fun w' hS => clipE _ _ _ hdc w') ?_)
          refine tl_step rfl (oj_val (y_assign (fe_t rfl)) ?_)
          refine tl_step rfl (oj_val (y_assign (fe_t rfl)) ?_)
          refine tl_step rfl (oj_val (y_assign (fe_t rfl)) ?_)
          refine tl_nil ?_
          refine tx_then ?_
          refine tr_ret ?_
          refine tx_ret (res3 Tryd.results32 (rok_t rfl) (rok_t rfl) (rok_t rfl)) (fun w' hS => ?_)
          have hst : s = run os := by rw [hs, List.take_of_length_le (by omega)]
          exact ⟨⟨e1, p1, d1, d1.n, L⟩, ⟨⟨hen, hst ▸ hel⟩, hst ▸ hex, ⟨hst ▸ hpn, hpi⟩, hst ▸ hpx, ⟨hdn, by dsimp only; omega⟩, hdx, hst ▸ hhf.fin (hg2.emp.2 (by omega))⟩, rfl, hS.pick [2, 1, 0] _ rfl (by decide)⟩

end Go.Proofs.YtfcpmcdlgkfolaaDoor.Heap
