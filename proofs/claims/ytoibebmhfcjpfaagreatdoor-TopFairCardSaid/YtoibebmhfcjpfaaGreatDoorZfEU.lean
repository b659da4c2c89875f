/- Many slices of the call's own, held together; records of several cells in a slice of the call's own. -/
import Derived.Test.YtoibebmhfcjpfaaGreatDoorZfEA
import Derived.Test.YtoibebmhfcjpfaaGreatDoorZfEJ
namespace Go.Proofs.YtoibebmhfcjpfaaGreatDoor.E
open Go.RowKit

def sv (v : Vs) : Value := .slice v.A v.n v.c
def Vs.nil : Vs := ⟨none, 0, 0, []⟩
/-- Slices of the call's own, no two of them in one block. -/
def subs (e s : Nat) (vs : List Vs) : Res where
  foot := vs.flatMap fun v => (sv v).ownBlock.toList
  holds w := (∀ (q : Nat) (v : Vs), vs[q]? = some v → OwnV w e s (sv v) v.n v.xs) ∧ ∀ (p q : Nat) (v u : Vs) (b : Nat), vs[p]? = some v → vs[q]? = some u → p ≠ q → (sv v).ownBlock = some b → (sv u).ownBlock ≠ some b
  stable w w' hf hh := ⟨fun q v hq => (vec e s (sv v) v.n v.xs).stable w w' (fun b hb => hf b (List.mem_flatMap.2 ⟨v, List.mem_of_getElem? hq, hb⟩)) (hh.1 q v hq), hh.2⟩
theorem mem_subs {e s : Nat} {vs : List Vs} {b : Nat} : b ∈ (subs e s vs).foot ↔ ∃ (q : Nat) (v : Vs), vs[q]? = some v ∧ (sv v).ownBlock = some b := by
  simp only [subs, List.mem_flatMap, Option.mem_toList, Option.mem_def]
  constructor
  · rintro ⟨v, hv, hb⟩
    obtain ⟨q, hq⟩ := List.mem_iff_getElem?.1 hv
    exact ⟨q, v, hq, hb⟩
  · rintro ⟨q, v, hq, hb⟩
    exact ⟨v, List.mem_of_getElem? hq, hb⟩
theorem subs_nils {e s n : Nat} : ∀ w, (subs e s (List.replicate n Vs.nil)).holds w := fun w => by
  have key : ∀ q v, (List.replicate n Vs.nil)[q]? = some v → v = Vs.nil := fun q v h => by
    rw [List.getElem?_replicate] at h
    split at h
    · exact (Option.some.inj h).symm
    · cases h
  refine ⟨fun q v h => ?_, fun p q v u b h _ _ hb => ?_⟩
  · obtain rfl := key q v h
    exact OwnV.nil w e s
  · obtain rfl := key p v h
    simp [sv, Vs.nil, Value.ownBlock] at hb
section
variable {P : Program} {N : Nat} {w0 : World} {ops : Array Oper} {Q : Exit → Act → World → Prop} {F : Frm} {L S : List Res} {c : Code} {l : List Oper} {e s i q : Nat} {vs : List Vs} {v : Vs}

/-- And back to the others. -/
theorem St.subIn {w : World} {vs' : List Vs} {A : Option Addr} {n cp : Nat} {xs : List Value} (h : St w0 w (vec e s (.slice A n cp) n xs :: L)) (hi : lget L i = some (subs e s vs)) (hq : vs[q]? = some Vs.nil) (hv : vs.set q ⟨A, n, cp, xs⟩ = vs') : St w0 w (lset L i (subs e s vs')) := by
  subst hv
  have hv := h.holds 0 _ rfl
  have hi' : lget (vec e s (.slice A n cp) n xs :: L) (i + 1) = some (subs e s vs) := hi
  have hr := h.holds (i + 1) _ hi'
  have hset : ∀ p u, (vs.set q ⟨A, n, cp, xs⟩)[p]? = some u → (p = q ∧ u = ⟨A, n, cp, xs⟩) ∨ (p ≠ q ∧ vs[p]? = some u) := fun p u hp => by
    rw [List.getElem?_set] at hp
    split at hp
    · rename_i e1
      split at hp
      · exact .inl ⟨e1.symm, (Option.some.inj hp).symm⟩
      · cases hp
    · rename_i e1
      exact .inr ⟨fun e2 => e1 e2.symm, hp⟩
  have hf : ∀ b ∈ (subs e s (vs.set q ⟨A, n, cp, xs⟩)).foot, b ∈ (vec e s (.slice A n cp) n xs).foot ∨ b ∈ (subs e s vs).foot := fun b hb => by
    obtain ⟨p, u, hp, hu⟩ := mem_subs.1 hb
    rcases hset p u hp with ⟨_, rfl⟩ | ⟨_, hp⟩
    · exact .inl (by simpa [vec, sv] using hu)
    · exact .inr (mem_subs.2 ⟨p, u, hp, hu⟩)
  have hx : ∀ p u b, vs[p]? = some u → (sv u).ownBlock = some b → (Value.slice A n cp).ownBlock ≠ some b := fun p u b hp hu hb =>
    h.sep 0 (i + 1) _ _ rfl hi' (by omega) b (by simpa [vec] using hb) (mem_subs.2 ⟨p, u, hp, hu⟩)
  have key : ∀ k r, lget (lset L i (subs e s (vs.set q ⟨A, n, cp, xs⟩))) k = some r → (k = i ∧ r = subs e s (vs.set q ⟨A, n, cp, xs⟩)) ∨ (k ≠ i ∧ lget L k = some r) := fun k r hk => by
    rw [lget_lset] at hk
    split at hk
    · rename_i e1
      rw [hi] at hk
      exact .inl ⟨e1, by simpa using hk.symm⟩
    · rename_i e1
      exact .inr ⟨e1, hk⟩
  have h' := h.tail
  refine ⟨h.below, fun k r hk => ?_, fun k r hk b hb => ?_, fun k j r t hk hj hkj b hb hb' => ?_⟩
  · rcases key k r hk with ⟨_, rfl⟩ | ⟨_, h1⟩
    · refine ⟨fun p u hp => ?_, fun p p' u u' b hp hp' hne hb => ?_⟩
      · rcases hset p u hp with ⟨_, rfl⟩ | ⟨_, hp⟩
        · exact hv
        · exact hr.1 p u hp
      · rcases hset p u hp with ⟨rfl, rfl⟩ | ⟨_, hp1⟩
        · rcases hset p' u' hp' with ⟨rfl, rfl⟩ | ⟨_, hp2⟩
          · exact absurd rfl hne
          · exact fun hu => hx p' u' b hp2 hu hb
        · rcases hset p' u' hp' with ⟨rfl, rfl⟩ | ⟨_, hp2⟩
          · exact hx p u b hp1 hb
          · exact hr.2 p p' u u' b hp1 hp2 hne hb
    · exact h'.holds k r h1
  · rcases key k r hk with ⟨_, rfl⟩ | ⟨_, h1⟩
    · rcases hf b hb with h2 | h2
      · exact h.lt 0 _ rfl b h2
      · exact h'.lt i _ hi b h2
    · exact h'.lt k r h1 b hb
  · rcases key k r hk with ⟨rfl, rfl⟩ | ⟨h2, h1⟩
    · rcases key j t hj with ⟨rfl, rfl⟩ | ⟨h4, h3⟩
      · exact hkj rfl
      · rcases hf b hb with h5 | h5
        · exact h.sep 0 (j + 1) _ _ rfl h3 (by omega) b h5 hb'
        · exact h'.sep k j _ _ hi h3 hkj b h5 hb'
    · rcases key j t hj with ⟨rfl, rfl⟩ | ⟨h4, h3⟩
      · rcases hf b hb' with h5 | h5
        · exact h.sep (k + 1) 0 _ _ h1 rfl (by omega) b hb h5
        · exact h'.sep k j _ _ h1 hi hkj b hb h5
      · exact h'.sep k j _ _ h1 h3 hkj b hb hb'

theorem rdl_subs (i q : Nat) (hi : lget L i = some (subs e s vs)) (hq : vs[q]? = some v) : RdL w0 L v.A v.xs := fun w hS => (OwnV.rd ((hS.holds i _ hi).1 q v hq)).2.2
theorem OwnV.cut {w : World} {A : Option Addr} {n cp : Nat} {xs : List Value} (h : OwnV w e s (.slice A n cp) n xs) (h1 : 1 ≤ n) : OwnV w e s (.slice (cutA A 1 cp s) (n - 1) (cp - 1)) (n - 1) (xs.drop s) := by
  obtain ⟨hl, ⟨_, hn⟩ | ⟨g, off, cap, cur, hv, hg, hnc, hcm, hcs, htk⟩⟩ := h
  · omega
  injection hv with e1 e2 e3
  subst e1 e3
  clear e2
  have hns : (n - 1) * s = n * s - s := by rw [Nat.sub_mul, Nat.one_mul]
  have hs1 : s ≤ n * s := Nat.le_mul_of_pos_left s h1
  have hs2 : s ≤ cp * s := Nat.le_mul_of_pos_left s (by omega)
  have hcs1 : (cp - 1) * s = cp * s - s := by rw [Nat.sub_mul, Nat.one_mul]
  refine ⟨by rw [List.length_drop, hl, hns], .inr ?_⟩
  unfold cutA
  by_cases hc : cp = 1
  · subst hc
    have hn1 : n = 1 := by omega
    subst hn1
    refine ⟨g, off, 0, cur, by simp, hg, by omega, by omega, by omega, ?_⟩
    rw [← htk]
    simp
  · refine ⟨g, off + s, cp - 1, cur, by simp [hc, Addr.add_lit], hg, by omega, by omega, by omega, ?_⟩
    rw [← htk, List.drop_take, List.drop_drop, hns]
end

section
variable {α : Type} {c : α → List Value} {s : Nat}
end

section
variable {P : Program} {N : Nat} {w0 : World} {F : Frm} {L : List Res} {d : Option Tmp} {x y z : Operand} {v u : Value} {ty t t' : TypeId} {pos : String} {af : Array Edge} {gd : Option (Nat × Bool)} {K : Frm → List Res → Prop}
variable {α : Type} {c : α → List Value} {s : Nat}
end
end Go.Proofs.YtoibebmhfcjpfaaGreatDoor.E

namespace Go.Proofs.YtoibebmhfcjpfaaGreatDoor.E
open Go.RowKit

section
variable {P : Program} {N : Nat} {w0 : World} {ops : Array Oper} {Q : Exit → Act → World → Prop} {F : Frm} {L S1 S2 : List Res} {listed : Array Bool} {n k0 : Nat}
end

section
variable {P : Program} {N : Nat} {w0 : World} {Q : Exit → Act → World → Prop} {F : Frm} {L : List Res} {c : Code}
theorem St.front2 {w : World} {j : Nat} {r : Res} (h : St w0 w L) (hj : lget L j = some r) : St w0 w (r :: lset L j emp) := by
  have key : ∀ k t, lget (lset L j emp) k = some t → (k = j ∧ t = emp) ∨ (k ≠ j ∧ lget L k = some t) := fun k t hk => by
    rw [lget_lset] at hk
    split at hk
    · rename_i e1
      rw [hj] at hk
      exact .inl ⟨e1, by simpa using hk.symm⟩
    · rename_i e1
      exact .inr ⟨e1, hk⟩
  refine ⟨h.below, fun k t hk => ?_, fun k t hk b hb => ?_, fun k m t u hk hm hkm b hb hb' => ?_⟩
  · match k with
    | 0 => simp only [lget, Option.some.injEq] at hk; subst hk; exact h.holds j _ hj
    | k + 1 => rcases key k t hk with ⟨_, rfl⟩ | ⟨_, h1⟩
               · trivial
               · exact h.holds k t h1
  · match k with
    | 0 => simp only [lget, Option.some.injEq] at hk; subst hk; exact h.lt j _ hj b hb
    | k + 1 => rcases key k t hk with ⟨_, rfl⟩ | ⟨_, h1⟩
               · simp [emp] at hb
               · exact h.lt k t h1 b hb
  · match k, m with
    | 0, 0 => exact hkm rfl
    | 0, m + 1 =>
      simp only [lget, Option.some.injEq] at hk
      subst hk
      rcases key m u hm with ⟨_, rfl⟩ | ⟨h2, h1⟩
      · simp [emp] at hb'
      · exact h.sep j m _ _ hj h1 (Ne.symm h2) b hb hb'
    | k + 1, 0 =>
      simp only [lget, Option.some.injEq] at hm
      subst hm
      rcases key k t hk with ⟨_, rfl⟩ | ⟨h2, h1⟩
      · simp [emp] at hb
      · exact h.sep k j _ _ h1 hj h2 b hb hb'
    | k + 1, m + 1 =>
      rcases key k t hk with ⟨_, rfl⟩ | ⟨h2, h1⟩
      · simp [emp] at hb
      · rcases key m u hm with ⟨_, rfl⟩ | ⟨h4, h3⟩
        · simp [emp] at hb'
        · exact h.sep k m _ _ h1 h3 (fun e => hkm (by rw [e])) b hb hb'
end
section
variable {P : Program} {N : Nat} {w0 : World} {F : Frm} {L : List Res} {d : Option Tmp} {x y z : Operand} {v u : Value} {ty t t' : TypeId} {pos : String} {af : Array Edge} {gd : Option (Nat × Bool)} {K : Frm → List Res → Prop}
variable {α : Type} {c : α → List Value} {s : Nat}
end
end Go.Proofs.YtoibebmhfcjpfaaGreatDoor.E
