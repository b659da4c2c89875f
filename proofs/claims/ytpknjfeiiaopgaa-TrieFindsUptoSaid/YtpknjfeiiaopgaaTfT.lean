/- A tree of nodes in a call's own memory: each node stands for the first k bits x of an address. -/
import Derived.Test.YtpknjfeiiaopgaaTfM
import Derived.Test.YtpknjfeiiaopgaaFlO
import Derived.Test.YtpknjfeiiaopgaaEU
namespace Go.Proofs.Ytpknjfeiiaopgaa.Trie
open Go.RowKit Go.Proofs.Ytpknjfeiiaopgaa.E

structure Nd where
  k : Nat
  x : Int
  b : Nat
  to : Option (Nat × Int)
def node (M : List Nd) (k : Nat) (x : Int) : Option Nd := M.find? fun e => decide (e.k = k ∧ e.x = x)
def kid (M : List Nd) (k : Nat) (x : Int) : Option Nat := (node M k x).map Nd.b
def ptr (o : Option Nat) : Value := .pointer (o.map fun b => ⟨b, 0, none⟩)
/-- The cells of a node. -/
def ndC (M : List Nd) (e : Nd) : List Value := [ptr (kid M (e.k + 1) (2 * e.x)), ptr (kid M (e.k + 1) (2 * e.x + 1)), ptr (e.to.map Prod.fst)]
structure Dis (M : List Nd) : Prop where
  blk : ∀ e ∈ M, ∀ e' ∈ M, e.b = e'.b → e = e'
  key : ∀ e ∈ M, ∀ e' ∈ M, e.k = e'.k → e.x = e'.x → e = e'
  apart : ∀ e ∈ M, ∀ e' ∈ M, ∀ t v, e'.to = some (t, v) → t ≠ e.b
  up : ∀ e ∈ M, e.k ≠ 0 → ∃ e' ∈ M, e'.k + 1 = e.k ∧ (e.x = 2 * e'.x ∨ e.x = 2 * e'.x + 1)

theorem node_some {M : List Nd} {k : Nat} {x : Int} {e : Nd} (h : node M k x = some e) : e ∈ M ∧ e.k = k ∧ e.x = x :=
  ⟨List.mem_of_find?_eq_some h, by simpa using List.find?_some h⟩
theorem node_none {M : List Nd} {k : Nat} {x : Int} (h : node M k x = none) : ∀ e ∈ M, ¬ (e.k = k ∧ e.x = x) := fun e he => by
  simpa using List.find?_eq_none.1 h e he
theorem node_mem {M : List Nd} (hd : Dis M) {e : Nd} (he : e ∈ M) : node M e.k e.x = some e := by
  cases h : node M e.k e.x with
  | none => exact absurd ⟨rfl, rfl⟩ (node_none h e he)
  | some e' =>
    obtain ⟨h1, h2, h3⟩ := node_some h
    rw [hd.key e' h1 e he h2 h3]
theorem kid_none {M : List Nd} {k : Nat} {x : Int} (h : kid M k x = none) : node M k x = none := by
  unfold kid at h
  cases hn : node M k x with
  | none => rfl
  | some e => rw [hn] at h; cases h
theorem kid_some {M : List Nd} {k : Nat} {x : Int} {b : Nat} (h : kid M k x = some b) : ∃ e ∈ M, e.k = k ∧ e.x = x ∧ e.b = b := by
  unfold kid at h
  cases hn : node M k x with
  | none => rw [hn] at h; cases h
  | some e =>
    rw [hn] at h
    obtain ⟨h1, h2, h3⟩ := node_some hn
    exact ⟨e, h1, h2, h3, Option.some.inj h⟩
theorem kid_mem {M : List Nd} (hd : Dis M) {e : Nd} (he : e ∈ M) : kid M e.k e.x = some e.b := by unfold kid; rw [node_mem hd he]; rfl
theorem node_cons {M : List Nd} {n : Nd} {k : Nat} {x : Int} (h : ¬ (n.k = k ∧ n.x = x)) : node (n :: M) k x = node M k x := by
  unfold node
  rw [List.find?_cons_of_neg (by simpa using h)]

/-- The tree; the block hb stands aside. -/
def ndsH (M : List Nd) (hb : Option Nat) : Res where
  foot := M.flatMap fun e => (if hb = some e.b then [] else [e.b]) ++ (e.to.map Prod.fst).toList
  holds w := Dis M ∧ (∀ e ∈ M, hb ≠ some e.b → ∃ T, w.heap[e.b]? = some (.cells (ndC M e).toArray T (0, 0))) ∧ ∀ e ∈ M, ∀ t v, e.to = some (t, v) → ∃ T, w.heap[t]? = some (.cells [(.int .i64 v)].toArray T (0, 0))
  stable w w' hf h := by
    refine ⟨h.1, fun e he hne => ?_, fun e he t v ht => ?_⟩
    · obtain ⟨T, h1⟩ := h.2.1 e he hne
      exact ⟨T, (hf e.b (List.mem_flatMap.2 ⟨e, he, by simp [hne]⟩)).trans h1⟩
    · obtain ⟨T, h1⟩ := h.2.2 e he t v ht
      exact ⟨T, (hf t (List.mem_flatMap.2 ⟨e, he, by simp [ht]⟩)).trans h1⟩
abbrev nds (M : List Nd) : Res := ndsH M none
theorem mem_nds {M : List Nd} {hb : Option Nat} {b : Nat} : b ∈ (ndsH M hb).foot ↔ ∃ e ∈ M, (b = e.b ∧ hb ≠ some e.b) ∨ ∃ v, e.to = some (b, v) := by
  simp only [ndsH, List.mem_flatMap, List.mem_append]
  constructor
  · rintro ⟨e, he, h | h⟩
    · refine ⟨e, he, .inl ?_⟩
      split at h
      · cases h
      · rename_i hne
        exact ⟨by simpa using h, hne⟩
    · refine ⟨e, he, .inr ?_⟩
      cases ht : e.to with
      | none => rw [ht] at h; simp at h
      | some p =>
        rw [ht] at h
        have : b = p.1 := by simpa using h
        subst this
        exact ⟨p.2, rfl⟩
  · rintro ⟨e, he, ⟨h1, h2⟩ | ⟨v, hv⟩⟩
    · exact ⟨e, he, .inl (by rw [if_neg h2]; simp [h1])⟩
    · exact ⟨e, he, .inr (by rw [hv]; simp)⟩

section
variable {P : Program} {N : Nat} {w0 : World} {ops : Array Oper} {Q : Exit → Act → World → Prop} {F : Frm} {L : List Res} {c : Code} {l : List Oper} {M : List Nd} {e : Nd}
theorem nds_dis {i : Nat} {hb : Option Nat} (hi : lget L i = some (ndsH M hb)) : ∀ w, St w0 w L → Dis M := fun _ h => (h.holds i _ hi).1
/-- One node by itself. -/
theorem St.ndOut {w : World} {i : Nat} (h : St w0 w L) (hi : lget L i = some (nds M)) (he : e ∈ M) : St w0 w (E.blk e.b (ndC M e) :: lset L i (ndsH M (some e.b))) := by
  refine h.split hi (fun hh => ?_)
  obtain ⟨hd, h1, h2⟩ := hh
  refine ⟨h1 e he (by simp), ⟨hd, fun e' he' _ => h1 e' he' (by simp), h2⟩, fun b hb => ?_, fun b hb => ?_, fun b hb hb' => ?_⟩
  · have : b = e.b := by simpa [E.blk] using hb
    exact mem_nds.2 ⟨e, he, .inl ⟨this, by simp⟩⟩
  · obtain ⟨e', he', h3 | h3⟩ := mem_nds.1 hb
    · exact mem_nds.2 ⟨e', he', .inl ⟨h3.1, by simp⟩⟩
    · exact mem_nds.2 ⟨e', he', .inr h3⟩
  · have hbe : b = e.b := by simpa [E.blk] using hb
    subst hbe
    obtain ⟨e', he', h3 | ⟨v, hv⟩⟩ := mem_nds.1 hb'
    · exact h3.2 (by rw [h3.1])
    · exact hd.apart e he e' he' _ v hv rfl
/-- And back, with its cells as they should be. -/
theorem St.ndBack {w : World} {i k : Nat} {cs : List Value} (h : St w0 w L) (hi : lget L i = some (ndsH M (some e.b))) (hk : lget L k = some (E.blk e.b cs)) (hne : i ≠ k) (he : e ∈ M) (hcs : cs = ndC M e) : St w0 w (lset (lset L k emp) i (nds M)) := by
  subst hcs
  refine h.merge hi hk hne (fun hr hs _ => ?_) (fun b hb => ?_)
  · refine ⟨hr.1, fun e' he' _ => ?_, hr.2.2⟩
    by_cases hbb : e.b = e'.b
    · rw [← hr.1.blk e he e' he' hbb]
      exact hs
    · exact hr.2.1 e' he' (by simpa using hbb)
  · obtain ⟨e', he', h3 | h3⟩ := mem_nds.1 hb
    · by_cases hbb : e.b = e'.b
      · exact .inr (by simp [E.blk, h3.1, hbb])
      · exact .inl (mem_nds.2 ⟨e', he', .inl ⟨h3.1, by simpa using hbb⟩⟩)
    · exact .inl (mem_nds.2 ⟨e', he', .inr h3⟩)
theorem dis_new {x' : Int} {b' : Nat} (hd : Dis M) (he : e ∈ M) (hno : node M (e.k + 1) x' = none) (hx : x' = 2 * e.x ∨ x' = 2 * e.x + 1) (hf : ∀ e2 ∈ M, e2.b ≠ b') (ht : ∀ e2 ∈ M, ∀ t v, e2.to = some (t, v) → t ≠ b') : Dis (⟨e.k + 1, x', b', none⟩ :: M) := by
  refine ⟨fun a ha c hc hac => ?_, fun a ha c hc h1 h2 => ?_, fun a ha c hc t v hv => ?_, fun a ha h0 => ?_⟩
  · rcases List.mem_cons.1 ha with rfl | ha <;> rcases List.mem_cons.1 hc with rfl | hc
    · rfl
    · exact absurd hac.symm (hf c hc)
    · exact absurd hac (hf a ha)
    · exact hd.blk a ha c hc hac
  · rcases List.mem_cons.1 ha with rfl | ha <;> rcases List.mem_cons.1 hc with rfl | hc
    · rfl
    · exact absurd ⟨h1.symm, h2.symm⟩ (node_none hno c hc)
    · exact absurd ⟨h1, h2⟩ (node_none hno a ha)
    · exact hd.key a ha c hc h1 h2
  · rcases List.mem_cons.1 hc with rfl | hc
    · cases hv
    · rcases List.mem_cons.1 ha with rfl | ha
      · exact ht c hc t v hv
      · exact hd.apart a ha c hc t v hv
  · rcases List.mem_cons.1 ha with rfl | ha
    · exact ⟨e, List.mem_cons_of_mem _ he, rfl, hx⟩
    · obtain ⟨e', h1, h2, h3⟩ := hd.up a ha h0
      exact ⟨e', List.mem_cons_of_mem _ h1, h2, h3⟩
theorem kid_new {x' : Int} {b' k : Nat} {x : Int} (h : ¬ (e.k + 1 = k ∧ x' = x)) : kid (⟨e.k + 1, x', b', none⟩ :: M) k x = kid M k x := by
  unfold kid; rw [node_cons h]
theorem ndC_other {x' : Int} {b' : Nat} (hd : Dis M) (he : e ∈ M) (hx : x' = 2 * e.x ∨ x' = 2 * e.x + 1) {e2 : Nd} (h2 : e2 ∈ M) (hne : e2.b ≠ e.b) : ndC (⟨e.k + 1, x', b', none⟩ :: M) e2 = ndC M e2 := by
  have key : ∀ y, y = 2 * e2.x ∨ y = 2 * e2.x + 1 → ¬ (e.k + 1 = e2.k + 1 ∧ x' = y) := fun y hy h => by
    have : e2 = e := hd.key e2 h2 e he (by omega) (by omega)
    exact hne (by rw [this])
  unfold ndC
  rw [kid_new (key _ (.inl rfl)), kid_new (key _ (.inr rfl))]
theorem ndC_new {x' : Int} {b' : Nat} (hd : Dis M) (hno : node M (e.k + 1) x' = none) : ndC (⟨e.k + 1, x', b', none⟩ :: M) ⟨e.k + 1, x', b', none⟩ = [.pointer none, .pointer none, .pointer none] := by
  have key : ∀ y, y = 2 * x' ∨ y = 2 * x' + 1 → kid (⟨e.k + 1, x', b', none⟩ :: M) (e.k + 1 + 1) y = none := fun y hy => by
    rw [kid_new (fun h => by omega)]
    cases hk : kid M (e.k + 1 + 1) y with
    | none => rfl
    | some b =>
      obtain ⟨a, ha, h1, h2, _⟩ := kid_some hk
      obtain ⟨e', h3, h4, h5⟩ := hd.up a ha (by omega)
      exact absurd ⟨by omega, by omega⟩ (node_none hno e' h3)
  unfold ndC
  rw [key _ (.inl rfl), key _ (.inr rfl)]
  rfl
/-- A new node among the others. -/
theorem St.ndNew {w : World} {i j k : Nat} {x' : Int} {b' : Nat} {cs : List Value} (h : St w0 w L) (hi : lget L i = some (ndsH M (some e.b))) (hj : lget L j = some (E.blk b' [.pointer none, .pointer none, .pointer none])) (hk : lget L k = some (E.blk e.b cs)) (hij : i ≠ j) (hjk : j ≠ k)
    (he : e ∈ M) (hno : node M (e.k + 1) x' = none) (hx : x' = 2 * e.x ∨ x' = 2 * e.x + 1) : St w0 w (lset (lset L j emp) i (ndsH (⟨e.k + 1, x', b', none⟩ :: M) (some e.b))) := by
  have hbb : b' ≠ e.b := fun hbe => h.sep j k _ _ hj hk hjk b' (by simp [E.blk]) (by simp [E.blk, hbe])
  refine h.merge hi hj hij (fun hr hs hsep => ?_) (fun b hb => ?_)
  · obtain ⟨hd, h1, h2⟩ := hr
    have hf : ∀ e2 ∈ M, e2.b ≠ b' := fun e2 he2 hbe => by
      by_cases h3 : e2.b = e.b
      · exact hbb (by rw [← hbe, h3])
      · exact hsep e2.b (mem_nds.2 ⟨e2, he2, .inl ⟨rfl, by simpa using fun h => h3 h.symm⟩⟩) (by simp [E.blk, hbe])
    have ht : ∀ e2 ∈ M, ∀ t v, e2.to = some (t, v) → t ≠ b' := fun e2 he2 t v hv hbe => hsep t (mem_nds.2 ⟨e2, he2, .inr ⟨v, hv⟩⟩) (by simp [E.blk, hbe])
    refine ⟨dis_new hd he hno hx hf ht, fun e2 he2 hne => ?_, fun e2 he2 t v hv => ?_⟩
    · rcases List.mem_cons.1 he2 with rfl | he2
      · rw [ndC_new hd hno]
        exact hs
      · have hne2 : e2.b ≠ e.b := fun h => hne (by rw [h])
        rw [ndC_other hd he hx he2 hne2]
        exact h1 e2 he2 hne
    · rcases List.mem_cons.1 he2 with rfl | he2
      · cases hv
      · exact h2 e2 he2 t v hv
  · obtain ⟨e2, he2, h3⟩ := mem_nds.1 hb
    rcases List.mem_cons.1 he2 with rfl | he2
    · rcases h3 with h3 | ⟨v, hv⟩
      · exact .inr (by simp [E.blk, h3.1])
      · cases hv
    · exact .inl (mem_nds.2 ⟨e2, he2, h3⟩)

/-- What stands for a prefix, put at a node. -/
def setTo (M : List Nd) (b t : Nat) (v : Int) : List Nd := M.map fun e => if e.b = b then ⟨e.k, e.x, e.b, some (t, v)⟩ else e
theorem node_set {b t : Nat} {v : Int} {k : Nat} {x : Int} : kid (setTo M b t v) k x = kid M k x := by
  unfold kid node setTo
  rw [List.find?_map]
  have h1 : ((fun e : Nd => decide (e.k = k ∧ e.x = x)) ∘ fun e => if e.b = b then (⟨e.k, e.x, e.b, some (t, v)⟩ : Nd) else e) = fun e => decide (e.k = k ∧ e.x = x) := by
    funext e
    simp only [Function.comp]
    split <;> rfl
  rw [h1]
  cases List.find? (fun e : Nd => decide (e.k = k ∧ e.x = x)) M with
  | none => rfl
  | some e =>
    simp only [Option.map_some]
    split <;> rfl
theorem mem_set {b t : Nat} {v : Int} {e : Nd} : e ∈ setTo M b t v ↔ ∃ e' ∈ M, (if e'.b = b then ⟨e'.k, e'.x, e'.b, some (t, v)⟩ else e') = e := by simp [setTo]
theorem set_parts {b t : Nat} {v : Int} (e : Nd) : (if e.b = b then (⟨e.k, e.x, e.b, some (t, v)⟩ : Nd) else e).k = e.k ∧ (if e.b = b then (⟨e.k, e.x, e.b, some (t, v)⟩ : Nd) else e).x = e.x ∧ (if e.b = b then (⟨e.k, e.x, e.b, some (t, v)⟩ : Nd) else e).b = e.b ∧ (if e.b = b then (⟨e.k, e.x, e.b, some (t, v)⟩ : Nd) else e).to = if e.b = b then some (t, v) else e.to := by
  split <;> exact ⟨rfl, rfl, rfl, rfl⟩
theorem dis_set {b t : Nat} {v : Int} (hd : Dis M) (ht : ∀ e ∈ M, t ≠ e.b) : Dis (setTo M b t v) := by
  refine ⟨fun a ha c hc hac => ?_, fun a ha c hc h1 h2 => ?_, fun a ha c hc t' v' hv => ?_, fun a ha h0 => ?_⟩
  · obtain ⟨a', ha', rfl⟩ := mem_set.1 ha
    obtain ⟨c', hc', rfl⟩ := mem_set.1 hc
    rw [(set_parts a').2.2.1, (set_parts c').2.2.1] at hac
    rw [hd.blk a' ha' c' hc' hac]
  · obtain ⟨a', ha', rfl⟩ := mem_set.1 ha
    obtain ⟨c', hc', rfl⟩ := mem_set.1 hc
    rw [(set_parts a').1, (set_parts c').1] at h1
    rw [(set_parts a').2.1, (set_parts c').2.1] at h2
    rw [hd.key a' ha' c' hc' h1 h2]
  · obtain ⟨a', ha', rfl⟩ := mem_set.1 ha
    obtain ⟨c', hc', rfl⟩ := mem_set.1 hc
    rw [(set_parts c').2.2.2] at hv
    rw [(set_parts a').2.2.1]
    split at hv
    · simp only [Option.some.injEq, Prod.mk.injEq] at hv
      rw [← hv.1]
      exact ht a' ha'
    · exact hd.apart a' ha' c' hc' t' v' hv
  · obtain ⟨a', ha', rfl⟩ := mem_set.1 ha
    rw [(set_parts a').1] at h0
    obtain ⟨c, hc, h1, h2⟩ := hd.up a' ha' h0
    refine ⟨_, mem_set.2 ⟨c, hc, rfl⟩, ?_, ?_⟩
    · rw [(set_parts c).1, (set_parts a').1]; exact h1
    · rw [(set_parts c).2.1, (set_parts a').2.1]; exact h2
theorem St.ndTo {w : World} {i j k t : Nat} {v : Int} {cs : List Value} (h : St w0 w L) (hi : lget L i = some (ndsH M (some e.b))) (hj : lget L j = some (E.blk t [(.int .i64 v)])) (hk : lget L k = some (E.blk e.b cs)) (hij : i ≠ j) (hjk : j ≠ k)
    (he : e ∈ M) : St w0 w (lset (lset L j emp) i (ndsH (setTo M e.b t v) (some e.b))) := by
  have hbb : t ≠ e.b := fun hbe => h.sep j k _ _ hj hk hjk t (by simp [E.blk]) (by simp [E.blk, hbe])
  refine h.merge hi hj hij (fun hr hs hsep => ?_) (fun b hb => ?_)
  · obtain ⟨hd, h1, h2⟩ := hr
    have hf : ∀ e2 ∈ M, t ≠ e2.b := fun e2 he2 hbe => by
      by_cases h3 : e2.b = e.b
      · exact hbb (by rw [hbe, h3])
      · exact hsep e2.b (mem_nds.2 ⟨e2, he2, .inl ⟨rfl, by simpa using fun h => h3 h.symm⟩⟩) (by simp [E.blk, hbe])
    refine ⟨dis_set hd hf, fun e2 he2 hne => ?_, fun e2 he2 t' v' hv => ?_⟩
    · obtain ⟨a, ha, rfl⟩ := mem_set.1 he2
      have hab : ¬ a.b = e.b := fun hh => hne (by rw [(set_parts a).2.2.1, hh])
      rw [if_neg hab] at hne ⊢
      obtain ⟨T, h3⟩ := h1 a ha hne
      refine ⟨T, ?_⟩
      rw [h3]
      unfold ndC
      rw [node_set, node_set]
    · obtain ⟨a, ha, rfl⟩ := mem_set.1 he2
      rw [(set_parts a).2.2.2] at hv
      split at hv
      · simp only [Option.some.injEq, Prod.mk.injEq] at hv
        rw [← hv.1, ← hv.2]
        exact hs
      · exact h2 a ha t' v' hv
  · obtain ⟨e2, he2, h3⟩ := mem_nds.1 hb
    obtain ⟨a, ha, rfl⟩ := mem_set.1 he2
    rw [(set_parts a).2.2.1, (set_parts a).2.2.2] at h3
    rcases h3 with h3 | ⟨v', hv⟩
    · exact .inl (mem_nds.2 ⟨a, ha, .inl h3⟩)
    · split at hv
      · simp only [Option.some.injEq, Prod.mk.injEq] at hv
        exact .inr (by simp [E.blk, hv.1])
      · exact .inl (mem_nds.2 ⟨a, ha, .inr ⟨v', hv⟩⟩)
end
end Go.Proofs.Ytpknjfeiiaopgaa.Trie
