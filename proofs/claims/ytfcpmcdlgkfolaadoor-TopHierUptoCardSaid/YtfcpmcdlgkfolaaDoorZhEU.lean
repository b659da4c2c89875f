/- Many slices of the call's own, held together; records of several cells in a slice of the call's own. -/
import Derived.Test.YtfcpmcdlgkfolaaDoorZhEA
import Derived.Test.YtfcpmcdlgkfolaaDoorZhEJ
namespace Go.Proofs.YtfcpmcdlgkfolaaDoor.E
open Go.RowKit

def sv (v : Vs) : Value := .slice v.A v.n v.c
def Vs.nil : Vs := ⟨none, 0, 0, []⟩
/-- Slices of the call's own, no two of them in one block. -/
def subs (e s : Nat) (vs : List Vs) : Res where
  foot := vs.flatMap fun v => (sv v).ownBlock.toList
  holds w := (∀ (q : Nat) (v : Vs), vs[q]? = some v → OwnV w e s (sv v) v.n v.xs) ∧ ∀ (p q : Nat) (v u : Vs) (b : Nat), vs[p]? = some v → vs[q]? = some u → p ≠ q → (sv v).ownBlock = some b → (sv u).ownBlock ≠ some b
  stable w w' hf hh := ⟨fun q v hq => (vec e s (sv v) v.n v.xs).stable w w' (fun b hb => hf b (List.mem_flatMap.2 ⟨v, List.mem_of_getElem? hq, hb⟩)) (hh.1 q v hq), hh.2⟩
theorem mem_subs {e s : Nat} {vs : List Vs} {b : Nat} : b ∈ (subs e s vs).foot ↔ ∃ (q : Nat) (v : Vs), vs[q]? = some v ∧ (sv v).ownBlock = some b := by
  simp only [subs, List.mem_flatMap, Option.mem_toList, Option.mem_def]
  constructor
  · rintro ⟨v, hv, hb⟩
    obtain ⟨q, hq⟩ := List.mem_iff_getElem?.1 hv
    exact ⟨q, v, hq, hb⟩
  · rintro ⟨q, v, hq, hb⟩
    exact ⟨v, List.mem_of_getElem? hq, hb⟩
theorem subs_nils {e s n : Nat} : ∀ w, (subs e s (List.replicate n Vs.nil)).holds w := fun w => by
  have key : ∀ q v, (List.replicate n Vs.nil)[q]? = some v → v = Vs.nil := fun q v h => by
    rw [List.getElem?_replicate] at h
    split at h
    · exact (Option.some.inj h).symm
    · cases h
  refine ⟨fun q v h => ?_, fun p q v u b h _ _ hb => ?_⟩
  · obtain rfl := key q v h
    exact OwnV.nil w e s
  · obtain rfl := key p v h
    simp [sv, Vs.nil, Value.ownBlock] at hb
theorem subs_nils_foot {e s n : Nat} : (subs e s (List.replicate n Vs.nil)).foot = [] := by
  simp [subs, sv, Vs.nil, Value.ownBlock]

section
variable {P : Program} {N : Nat} {w0 : World} {ops : Array Oper} {Q : Exit → Act → World → Prop} {F : Frm} {L S : List Res} {c : Code} {l : List Oper} {e s i q : Nat} {vs : List Vs} {v : Vs}

/-- One of them by itself. -/
theorem St.subOut {w : World} (h : St w0 w L) (hi : lget L i = some (subs e s vs)) (hq : vs[q]? = some v) : St w0 w (vec e s (sv v) v.n v.xs :: lset L i (subs e s (vs.set q Vs.nil))) := by
  have hr := h.holds i _ hi
  have hset : ∀ p u, (vs.set q Vs.nil)[p]? = some u → (p = q ∧ u = Vs.nil) ∨ (p ≠ q ∧ vs[p]? = some u) := fun p u hp => by
    rw [List.getElem?_set] at hp
    split at hp
    · rename_i e1
      split at hp
      · exact .inl ⟨e1.symm, (Option.some.inj hp).symm⟩
      · cases hp
    · rename_i e1
      exact .inr ⟨fun e2 => e1 e2.symm, hp⟩
  have hf1 : ∀ b ∈ (vec e s (sv v) v.n v.xs).foot, b ∈ (subs e s vs).foot := fun b hb => mem_subs.2 ⟨q, v, hq, by simpa [vec] using hb⟩
  have hf2 : ∀ b ∈ (subs e s (vs.set q Vs.nil)).foot, b ∈ (subs e s vs).foot ∧ b ∉ (vec e s (sv v) v.n v.xs).foot := fun b hb => by
    obtain ⟨p, u, hp, hu⟩ := mem_subs.1 hb
    rcases hset p u hp with ⟨_, rfl⟩ | ⟨hpq, hp'⟩
    · simp [sv, Vs.nil, Value.ownBlock] at hu
    · refine ⟨mem_subs.2 ⟨p, u, hp', hu⟩, fun hv => ?_⟩
      exact hr.2 p q u v b hp' hq hpq hu (by simpa [vec] using hv)
  have key : ∀ k r, lget (lset L i (subs e s (vs.set q Vs.nil))) k = some r → (k = i ∧ r = subs e s (vs.set q Vs.nil)) ∨ (k ≠ i ∧ lget L k = some r) := fun k r hk => by
    rw [lget_lset] at hk
    split at hk
    · rename_i e1
      rw [hi] at hk
      exact .inl ⟨e1, by simpa using hk.symm⟩
    · rename_i e1
      exact .inr ⟨e1, hk⟩
  refine ⟨h.below, fun k r hk => ?_, fun k r hk b hb => ?_, fun k j r t hk hj hkj b hb hb' => ?_⟩
  · match k with
    | 0 => simp only [lget, Option.some.injEq] at hk; subst hk; exact hr.1 q v hq
    | k + 1 =>
      rcases key k r hk with ⟨_, rfl⟩ | ⟨_, h1⟩
      · refine ⟨fun p u hp => ?_, fun p p' u u' b hp hp' hne hb => ?_⟩
        · rcases hset p u hp with ⟨_, rfl⟩ | ⟨_, hp⟩
          · exact OwnV.nil w e s
          · exact hr.1 p u hp
        · rcases hset p u hp with ⟨_, rfl⟩ | ⟨_, hp⟩
          · simp [sv, Vs.nil, Value.ownBlock] at hb
          · rcases hset p' u' hp' with ⟨_, rfl⟩ | ⟨_, hp'⟩
            · simp [sv, Vs.nil, Value.ownBlock]
            · exact hr.2 p p' u u' b hp hp' hne hb
      · exact h.holds k r h1
  · match k with
    | 0 => simp only [lget, Option.some.injEq] at hk; subst hk; exact h.lt i _ hi b (hf1 b hb)
    | k + 1 =>
      rcases key k r hk with ⟨_, rfl⟩ | ⟨_, h1⟩
      · exact h.lt i _ hi b (hf2 b hb).1
      · exact h.lt k r h1 b hb
  · match k, j with
    | 0, 0 => exact hkj rfl
    | 0, j + 1 =>
      simp only [lget, Option.some.injEq] at hk
      subst hk
      rcases key j t hj with ⟨_, rfl⟩ | ⟨h2, h1⟩
      · exact (hf2 b hb').2 hb
      · exact h.sep i j _ _ hi h1 (Ne.symm h2) b (hf1 b hb) hb'
    | k + 1, 0 =>
      simp only [lget, Option.some.injEq] at hj
      subst hj
      rcases key k r hk with ⟨_, rfl⟩ | ⟨h2, h1⟩
      · exact (hf2 b hb).2 hb'
      · exact h.sep k i _ _ h1 hi h2 b hb (hf1 b hb')
    | k + 1, j + 1 =>
      have hkj' : k ≠ j := fun e => hkj (by rw [e])
      rcases key k r hk with ⟨rfl, rfl⟩ | ⟨h2, h1⟩
      · rcases key j t hj with ⟨rfl, rfl⟩ | ⟨h4, h3⟩
        · exact hkj' rfl
        · exact h.sep k j _ _ hi h3 hkj' b (hf2 b hb).1 hb'
      · rcases key j t hj with ⟨rfl, rfl⟩ | ⟨h4, h3⟩
        · exact h.sep k j _ _ h1 hi hkj' b hb (hf2 b hb').1
        · exact h.sep k j _ _ h1 h3 hkj' b hb hb'

/-- And back to the others. -/
theorem St.subIn {w : World} {vs' : List Vs} {A : Option Addr} {n cp : Nat} {xs : List Value} (h : St w0 w (vec e s (.slice A n cp) n xs :: L)) (hi : lget L i = some (subs e s vs)) (hq : vs[q]? = some Vs.nil) (hv : vs.set q ⟨A, n, cp, xs⟩ = vs') : St w0 w (lset L i (subs e s vs')) := by
  subst hv
  have hv := h.holds 0 _ rfl
  have hi' : lget (vec e s (.slice A n cp) n xs :: L) (i + 1) = some (subs e s vs) := hi
  have hr := h.holds (i + 1) _ hi'
  have hset : ∀ p u, (vs.set q ⟨A, n, cp, xs⟩)[p]? = some u → (p = q ∧ u = ⟨A, n, cp, xs⟩) ∨ (p ≠ q ∧ vs[p]? = some u) := fun p u hp => by
    rw [List.getElem?_set] at hp
    split at hp
    · rename_i e1
      split at hp
      · exact .inl ⟨e1.symm, (Option.some.inj hp).symm⟩
      · cases hp
    · rename_i e1
      exact .inr ⟨fun e2 => e1 e2.symm, hp⟩
  have hf : ∀ b ∈ (subs e s (vs.set q ⟨A, n, cp, xs⟩)).foot, b ∈ (vec e s (.slice A n cp) n xs).foot ∨ b ∈ (subs e s vs).foot := fun b hb => by
    obtain ⟨p, u, hp, hu⟩ := mem_subs.1 hb
    rcases hset p u hp with ⟨_, rfl⟩ | ⟨_, hp⟩
    · exact .inl (by simpa [vec, sv] using hu)
    · exact .inr (mem_subs.2 ⟨p, u, hp, hu⟩)
  have hx : ∀ p u b, vs[p]? = some u → (sv u).ownBlock = some b → (Value.slice A n cp).ownBlock ≠ some b := fun p u b hp hu hb =>
    h.sep 0 (i + 1) _ _ rfl hi' (by omega) b (by simpa [vec] using hb) (mem_subs.2 ⟨p, u, hp, hu⟩)
  have key : ∀ k r, lget (lset L i (subs e s (vs.set q ⟨A, n, cp, xs⟩))) k = some r → (k = i ∧ r = subs e s (vs.set q ⟨A, n, cp, xs⟩)) ∨ (k ≠ i ∧ lget L k = some r) := fun k r hk => by
    rw [lget_lset] at hk
    split at hk
    · rename_i e1
      rw [hi] at hk
      exact .inl ⟨e1, by simpa using hk.symm⟩
    · rename_i e1
      exact .inr ⟨e1, hk⟩
  have h' := h.tail
  refine ⟨h.below, fun k r hk => ?_, fun k r hk b hb => ?_, fun k j r t hk hj hkj b hb hb' => ?_⟩
  · rcases key k r hk with ⟨_, rfl⟩ | ⟨_, h1⟩
    · refine ⟨fun p u hp => ?_, fun p p' u u' b hp hp' hne hb => ?_⟩
      · rcases hset p u hp with ⟨_, rfl⟩ | ⟨_, hp⟩
        · exact hv
        · exact hr.1 p u hp
      · rcases hset p u hp with ⟨rfl, rfl⟩ | ⟨_, hp1⟩
        · rcases hset p' u' hp' with ⟨rfl, rfl⟩ | ⟨_, hp2⟩
          · exact absurd rfl hne
          · exact fun hu => hx p' u' b hp2 hu hb
        · rcases hset p' u' hp' with ⟨rfl, rfl⟩ | ⟨_, hp2⟩
          · exact hx p u b hp1 hb
          · exact hr.2 p p' u u' b hp1 hp2 hne hb
    · exact h'.holds k r h1
  · rcases key k r hk with ⟨_, rfl⟩ | ⟨_, h1⟩
    · rcases hf b hb with h2 | h2
      · exact h.lt 0 _ rfl b h2
      · exact h'.lt i _ hi b h2
    · exact h'.lt k r h1 b hb
  · rcases key k r hk with ⟨rfl, rfl⟩ | ⟨h2, h1⟩
    · rcases key j t hj with ⟨rfl, rfl⟩ | ⟨h4, h3⟩
      · exact hkj rfl
      · rcases hf b hb with h5 | h5
        · exact h.sep 0 (j + 1) _ _ rfl h3 (by omega) b h5 hb'
        · exact h'.sep k j _ _ hi h3 hkj b h5 hb'
    · rcases key j t hj with ⟨rfl, rfl⟩ | ⟨h4, h3⟩
      · rcases hf b hb' with h5 | h5
        · exact h.sep (k + 1) 0 _ _ h1 rfl (by omega) b hb h5
        · exact h'.sep k j _ _ h1 hi hkj b hb h5
      · exact h'.sep k j _ _ h1 h3 hkj b hb hb'

theorem tr_subOut (i q : Nat) (hi : lget L i = some (subs e s vs)) (hq : vs[q]? = some v) (h : TR P N w0 Q c F (vec e s (sv v) v.n v.xs :: lset L i (subs e s (vs.set q Vs.nil)))) : TR P N w0 Q c F L := fun a w hF hS => h a w hF (hS.subOut hi hq)
theorem rdl_subs (i q : Nat) (hi : lget L i = some (subs e s vs)) (hq : vs[q]? = some v) : RdL w0 L v.A v.xs := fun w hS => (OwnV.rd ((hS.holds i _ hi).1 q v hq)).2.2
/-- A slice without its first element. -/
def Vs.tl (s : Nat) (v : Vs) : Vs := ⟨cutA v.A 1 v.c s, v.n - 1, v.c - 1, v.xs.drop s⟩
theorem OwnV.cut {w : World} {A : Option Addr} {n cp : Nat} {xs : List Value} (h : OwnV w e s (.slice A n cp) n xs) (h1 : 1 ≤ n) : OwnV w e s (.slice (cutA A 1 cp s) (n - 1) (cp - 1)) (n - 1) (xs.drop s) := by
  obtain ⟨hl, ⟨_, hn⟩ | ⟨g, off, cap, cur, hv, hg, hnc, hcm, hcs, htk⟩⟩ := h
  · omega
  injection hv with e1 e2 e3
  subst e1 e3
  clear e2
  have hns : (n - 1) * s = n * s - s := by rw [Nat.sub_mul, Nat.one_mul]
  have hs1 : s ≤ n * s := Nat.le_mul_of_pos_left s h1
  have hs2 : s ≤ cp * s := Nat.le_mul_of_pos_left s (by omega)
  have hcs1 : (cp - 1) * s = cp * s - s := by rw [Nat.sub_mul, Nat.one_mul]
  refine ⟨by rw [List.length_drop, hl, hns], .inr ?_⟩
  unfold cutA
  by_cases hc : cp = 1
  · subst hc
    have hn1 : n = 1 := by omega
    subst hn1
    refine ⟨g, off, 0, cur, by simp, hg, by omega, by omega, by omega, ?_⟩
    rw [← htk]
    simp
  · refine ⟨g, off + s, cp - 1, cur, by simp [hc, Addr.add_lit], hg, by omega, by omega, by omega, ?_⟩
    rw [← htk, List.drop_take, List.drop_drop, hns]
theorem cut_block {A : Option Addr} {n cp n' cp' : Nat} {b : Nat} (h : (Value.slice (cutA A 1 cp s) n' cp').ownBlock = some b) : (Value.slice A n cp).ownBlock = some b := by
  cases A with
  | none =>
    unfold cutA at h
    split at h <;> simp [Value.ownBlock] at h
  | some a =>
    unfold cutA at h
    split at h
    · simpa [Value.ownBlock] using h
    · simp only [Value.ownBlock, Option.map_some, Option.some.injEq] at h ⊢
      rw [← h]
      unfold Addr.add
      split <;> rfl
theorem St.vcut {w : World} {A : Option Addr} {n cp : Nat} {xs : List Value} (h : St w0 w L) (hi : lget L i = some (vec e s (.slice A n cp) n xs)) (h1 : 1 ≤ n) : St w0 w (lset L i (vec e s (.slice (cutA A 1 cp s) (n - 1) (cp - 1)) (n - 1) (xs.drop s))) :=
  h.turn hi rfl rfl rfl (Nat.le_refl _) (fun _ _ _ => rfl) (OwnV.cut (h.holds i _ hi) h1) (fun b hb => by
    simp only [vec, Option.mem_toList, Option.mem_def] at hb
    have hb' : b ∈ (vec e s (.slice A n cp) n xs).foot := by simpa [vec] using cut_block (n := n) hb
    exact ⟨(h.lt i _ hi b hb').2, .inl hb'⟩)
end

section
variable {α : Type} {c : α → List Value} {s : Nat}
theorem flat_len (hc : ∀ a, (c a).length = s) (l : List α) : (l.flatMap c).length = l.length * s := by
  induction l with
  | nil => simp
  | cons x l ih => rw [List.flatMap_cons, List.length_append, hc, ih, List.length_cons, Nat.succ_mul, Nat.add_comm]
theorem flat_set (hc : ∀ a, (c a).length = s) : ∀ (l : List α) (k : Nat) (hk : k < l.length) (x : α) (o : Nat) (v : Value), c x = (c l[k]).set o v → o < s → (l.flatMap c).set (k * s + o) v = (l.set k x).flatMap c
  | a :: l, 0, _, x, o, v, h, ho => by
    simp only [List.flatMap_cons, Nat.zero_mul, Nat.zero_add, List.set_cons_zero, List.getElem_cons_zero] at h ⊢
    rw [List.set_append_left _ _ (by rw [hc]; exact ho), h]
  | a :: l, k + 1, hk, x, o, v, h, ho => by
    simp only [List.flatMap_cons, List.set_cons_succ, List.getElem_cons_succ] at h ⊢
    rw [List.set_append_right _ _ (by rw [hc, Nat.succ_mul]; omega), hc, show (k + 1) * s + o - s = k * s + o by rw [Nat.succ_mul]; omega, flat_set hc l k (by simpa using hk) x o v h ho]
end

section
variable {P : Program} {N : Nat} {w0 : World} {F : Frm} {L : List Res} {d : Option Tmp} {x y z : Operand} {v u : Value} {ty t t' : TypeId} {pos : String} {af : Array Edge} {gd : Option (Nat × Bool)} {K : Frm → List Res → Prop}
variable {α : Type} {c : α → List Value} {s : Nat}
/-- A store into one field of a record. -/
theorem oj_storeF {e n m cp k o i : Nat} {al : List α} {A : Option Addr} (x1 : α) (hc : ∀ a, (c a).length = s) (hs : ∀ w, (sizeOf t).run P w = .ok 1 w) (hx : FE N F x (elt A (k * s + o))) (hy : FE N F y v) (hv : v.cells = #[v]) (h1 : v.oneCell' = true) (hk : lget L i = some (vec e s (.slice A m cp) n (al.flatMap c)))
    (hkl : k < al.length) (ho : Nat.blt o s = true) (hnew : c x1 = (c al[k]).set o v) (h : K (fput F d undef) (lset L i (vec e s (.slice A m cp) n ((al.set k x1).flatMap c)))) : OpJ P N w0 F L ⟨d, .store t x y, ty, pos, af, gd⟩ K := fun a w hF hS => by
  have ho' : o < s := of_eq_true (by simp only [Nat.blt_eq] at ho; simp [ho])
  have hlen : (al.flatMap c).length = n * s := (hS.holds i _ hk).1
  have hl2 := flat_len hc al
  have hlt : k * s + o < n * s := by
    have : (k + 1) * s ≤ al.length * s := Nat.mul_le_mul_right _ hkl
    rw [Nat.succ_mul] at this
    omega
  exact oj_storeE (vs := [v]) hs hx hy hv rfl (by simp [h1]) hk (by omega) (by omega) (by rw [← flat_set hc al k hkl x1 o v hnew ho', List.set_eq_take_append_cons_drop, if_pos (by omega)]; simp) h a w hF hS
end
end Go.Proofs.YtfcpmcdlgkfolaaDoor.E

namespace Go.Proofs.YtfcpmcdlgkfolaaDoor.E
open Go.RowKit

section
variable {P : Program} {N : Nat} {w0 : World} {ops : Array Oper} {Q : Exit → Act → World → Prop} {F : Frm} {L S1 S2 : List Res} {listed : Array Bool} {n k0 : Nat}
theorem tb_draw1 {id : Nat} {l : List Oper} (k0 : Nat) (S1 S2 : List Res) (h01 : ∀ w, St w0 w L → St w0 w S1) (h12 : ∀ w, St w0 w S1 → St w0 w S2) (hm : P.follows .mixedOrders = true) (h : TB P N w0 l.toArray Q k0 S1 S2 l.length (Array.replicate l.length false) F L) : TR P N w0 Q (.region id l.toArray true) F L := fun a w hF hS => by
  have h1 : St w0 { w with drawn := w.drawn + 1 } L := hS.grow ⟨rfl, rfl, rfl, Nat.le_refl _, fun _ _ => rfl⟩
  have hc : CC w0 k0 S1 S2 (Array.replicate l.length false) { w with drawn := w.drawn + 1 } := by
    unfold CC
    cases (Array.replicate l.length false).getD k0 true
    · exact h01 _ h1
    · exact h12 _ (h01 _ h1)
  have := h h12 a _ hF h1 hc
  exact wp_region_any hm (by simpa using wpAny_of_D (fun _ _ h => h) _ _ _ _ this)
end

section
variable {P : Program} {N : Nat} {w0 : World} {Q : Exit → Act → World → Prop} {F : Frm} {L : List Res} {c : Code}
theorem St.front2 {w : World} {j : Nat} {r : Res} (h : St w0 w L) (hj : lget L j = some r) : St w0 w (r :: lset L j emp) := by
  have key : ∀ k t, lget (lset L j emp) k = some t → (k = j ∧ t = emp) ∨ (k ≠ j ∧ lget L k = some t) := fun k t hk => by
    rw [lget_lset] at hk
    split at hk
    · rename_i e1
      rw [hj] at hk
      exact .inl ⟨e1, by simpa using hk.symm⟩
    · rename_i e1
      exact .inr ⟨e1, hk⟩
  refine ⟨h.below, fun k t hk => ?_, fun k t hk b hb => ?_, fun k m t u hk hm hkm b hb hb' => ?_⟩
  · match k with
    | 0 => simp only [lget, Option.some.injEq] at hk; subst hk; exact h.holds j _ hj
    | k + 1 => rcases key k t hk with ⟨_, rfl⟩ | ⟨_, h1⟩
               · trivial
               · exact h.holds k t h1
  · match k with
    | 0 => simp only [lget, Option.some.injEq] at hk; subst hk; exact h.lt j _ hj b hb
    | k + 1 => rcases key k t hk with ⟨_, rfl⟩ | ⟨_, h1⟩
               · simp [emp] at hb
               · exact h.lt k t h1 b hb
  · match k, m with
    | 0, 0 => exact hkm rfl
    | 0, m + 1 =>
      simp only [lget, Option.some.injEq] at hk
      subst hk
      rcases key m u hm with ⟨_, rfl⟩ | ⟨h2, h1⟩
      · simp [emp] at hb'
      · exact h.sep j m _ _ hj h1 (Ne.symm h2) b hb hb'
    | k + 1, 0 =>
      simp only [lget, Option.some.injEq] at hm
      subst hm
      rcases key k t hk with ⟨_, rfl⟩ | ⟨h2, h1⟩
      · simp [emp] at hb
      · exact h.sep k j _ _ h1 hj h2 b hb hb'
    | k + 1, m + 1 =>
      rcases key k t hk with ⟨_, rfl⟩ | ⟨h2, h1⟩
      · simp [emp] at hb
      · rcases key m u hm with ⟨_, rfl⟩ | ⟨h4, h3⟩
        · simp [emp] at hb'
        · exact h.sep k m _ _ h1 h3 (fun e => hkm (by rw [e])) b hb hb'
theorem tr_norm {L' : List Res} (h01 : ∀ w, St w0 w L → St w0 w L') (h : TR P N w0 Q c F L') : TR P N w0 Q c F L := fun a w hF hS => h a w hF (h01 w hS)
theorem tr_subInJ {e s n cp : Nat} {vs vs' : List Vs} {A : Option Addr} {xs : List Value} (j i q : Nat) (hj : lget L j = some (vec e s (.slice A n cp) n xs)) (hi : lget L i = some (subs e s vs)) (hne : Nat.beq i j = false) (hq : vs[q]? = some Vs.nil) (hv : vs.set q ⟨A, n, cp, xs⟩ = vs')
    (h : TR P N w0 Q c F (lset (lset L j emp) i (subs e s vs'))) : TR P N w0 Q c F L := fun a w hF hS => by
  have h1 := hS.front2 hj
  have hi2 : lget (lset L j emp) i = some (subs e s vs) := by rw [lget_lset, if_neg (Nat.ne_of_beq_eq_false hne)]; exact hi
  exact h a w hF (h1.subIn hi2 hq hv)
end
section
variable {P : Program} {N : Nat} {w0 : World} {F : Frm} {L : List Res} {d : Option Tmp} {x y z : Operand} {v u : Value} {ty t t' : TypeId} {pos : String} {af : Array Edge} {gd : Option (Nat × Bool)} {K : Frm → List Res → Prop}
variable {α : Type} {c : α → List Value} {s : Nat}
theorem y_nilCheckR {A : Option Addr} {j : Nat} (hx : FE N F x (elt A j)) (hr : Rch w0 L A) : Yld P N w0 F L ⟨d, .nilCheck x, ty, pos, af, gd⟩ (elt A j) := fun c w hF hS => by
  obtain ⟨b, o, rfl⟩ := hr w hS
  simp [execOp, hx c hF, elt]
theorem y_fieldAddrR {fs : Array Field} {f : Field} {i j m j' td : Nat} {A : Option Addr} (hu : P.underlying t = some (.struct fs)) (hf : fs[i]? = some f) (ht : f.type = td) (hz : ∀ w, (sizeOf td).run P w = .ok (m + 1) w) (ho : j + f.offset = j') (hx : FE N F x (elt A j)) (hr : Rch w0 L A) :
    Yld P N w0 F L ⟨d, .fieldAddr t x i, ty, pos, af, gd⟩ (elt A j') := fun a w hF hS => by
  subst ho ht
  obtain ⟨b, o, rfl⟩ := hr w hS
  simp [execOp, hx a hF, elt, Instr.fieldAt, run_underlying hu, hf, Instr.sureAddr, fieldPlace, hz]
  unfold Addr.add
  split
  · rename_i h; simp [h]
  · simp [Nat.add_assoc]
theorem oj_storeG {e n m cp k o i : Nat} {al : List α} {A : Option Addr} (d0 x1 : α) (hc : ∀ a, (c a).length = s) (hs : ∀ w, (sizeOf t).run P w = .ok 1 w) (hx : FE N F x (elt A (k * s + o))) (hy : FE N F y v) (hv : v.cells = #[v]) (h1 : v.oneCell' = true) (hk : lget L i = some (vec e s (.slice A m cp) n (al.flatMap c)))
    (hkl : k < al.length) (ho : Nat.blt o s = true) (hnew : c x1 = (c (al.getD k d0)).set o v) (h : K (fput F d undef) (lset L i (vec e s (.slice A m cp) n ((al.set k x1).flatMap c)))) : OpJ P N w0 F L ⟨d, .store t x y, ty, pos, af, gd⟩ K :=
  oj_storeF x1 hc hs hx hy hv h1 hk hkl ho (by rw [hnew, show al.getD k d0 = al[k] by simp [List.getD_eq_getElem?_getD, hkl]]) h
end
end Go.Proofs.YtfcpmcdlgkfolaaDoor.E
