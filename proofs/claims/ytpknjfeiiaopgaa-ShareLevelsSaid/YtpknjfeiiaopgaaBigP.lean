/- append of a whole slice of integers to an empty one: a copy. As an operation of a list, and of a region that draws. -/
import Derived.Test.YtpknjfeiiaopgaaBigW
import Derived.Deep.RegionLawGrows
namespace Go.Proofs.Ytpknjfeiiaopgaa.Big
open Go.RowKit

theorem run_copy {P : Program} (w : World) (t ty e : TypeId) (k : IntKind) (bytes : Nat) (ht : P.underlying t = some (.slice e)) (hi : (P.info? e).map (fun i => (i.zero, i.size, i.bytes)) = some (some (.int k 0), 1, bytes)) (hby : bytes ≤ 8)
    (g : Nat) (A : Option Addr) (m c : Nat) (zs : List Int) (hr : RdI k w A zs) (hm : m = zs.length) (hlen : m ≤ 1000000000) :
    ∃ A' c' w', (Builtin.append_ #[t, t] ty #[.slice (some ⟨g, 0, none⟩) 0 0, .slice A m c]).run P w = .ok (.slice A' m c') w' ∧ RdI k w' A' zs ∧ m ≤ c' ∧ Below w.heap.size w w' := by
  obtain ⟨i, i1, i2, i3, i4⟩ := info_parts' hi
  subst hm
  by_cases h0 : zs = []
  · subst h0
    refine ⟨some ⟨g, 0, none⟩, 0, w, ?_, .inl rfl, Nat.le_refl _, Below.refl _ _⟩
    cases A with
    | none => simp [Builtin.append_, run_underlying ht, sizeOf, typeInfo, i1, Builtin.lenOf, Builtin.firstCells, storeCells]
    | some a => simp [Builtin.append_, run_underlying ht, sizeOf, typeInfo, i1, Builtin.lenOf, Builtin.firstCells, storeCells, loadCells, loadCellsFrom]
  · rcases hr with h1 | ⟨b, off, rfl, hc⟩
    · simp at h1; exact absurd h1 h0
    · have hpos : 0 < zs.length := List.length_pos_iff.2 h0
      obtain ⟨v', w', hrun, r1, r2⟩ := run_append_arg_grows (P := P) w t ty e i (.int k 0) 1 bytes ht i1 i2 i3 i4 rfl (by decide) ⟨g, 0, none⟩ 0 0 [] rfl (fun j u hj => by simp at hj) ⟨b, off, none⟩ zs.length c (zs.map (Value.int k)) (by simp) (fun j u hj => by
        have := hc j u hj
        simp only [Addr.add]
        split
        · rename_i h0; rw [h0] at this; exact this
        · simpa using this) (by simpa using hpos) (by unfold maxLen; omega) (by have := Nat.mul_le_mul hlen hby; rw [Nat.zero_add]; omega)
      have ho : OwnI w' w.heap.size e k v' zs := by
        unfold OwnI
        simpa using r1
      obtain ⟨A', c', rfl, h2, h3, _⟩ := ho.form
      exact ⟨A', c', w', hrun, h3, h2, (Below.refl _ _).grown r2 (Nat.le_refl _) (fun _ h => by cases h)⟩

theorem step_copyI {P : Program} {ops : Array Oper} {o : Oper} {a : Act} {w : World} {K : Act → World → Prop} {Q : Exit → Act → World → Prop} {E : Prop}
    (hg : o.guard = none) (s x : Operand) (t : TypeId) (hop : o.op = Op.call { callee := Callee.builtin Builtin.append, args := #[s, x], argTypes := #[t, t] })
    (e : TypeId) (k : IntKind) (bytes : Nat) (ht : P.underlying t = some (.slice e)) (hi : (P.info? e).map (fun i => (i.zero, i.size, i.bytes)) = some (some (.int k 0), 1, bytes)) (hby : bytes ≤ 8)
    (g : Nat) (hs : a.eval s = .slice (some ⟨g, 0, none⟩) 0 0) (A : Option Addr) (m c : Nat) (hx : a.eval x = .slice A m c) (zs : List Int) (hr : RdI k w A zs) (hm : m = zs.length) (hlen : m ≤ 1000000000)
    (hK : ∀ A' c' w', RdI k w' A' zs → m ≤ c' → Below w.heap.size w w' → K (a.put o.dst (.slice A' m c')) w') :
    if Region.wanted o (yielded ops a.tmps) = true then Oper.wp P o a w K Q else E := by
  have hw : Region.wanted o (yielded ops a.tmps) = true := by simp [Region.wanted, hg]
  rw [if_pos hw]
  obtain ⟨A', c', w', hrun, r1, r2, r3⟩ := run_copy (P := P) w t o.type e k bytes ht hi hby g A m c zs hr hm hlen
  unfold Oper.wp
  simp [execOp, hop, resolve, invoke, builtin, hs, hx, hrun, Result.andThen]
  exact hK A' c' w' r1 r2 r3

theorem wpList_copyI {P : Program} (w : World) {ops : Array Oper} {rest : List Oper} {o : Oper} {a : Act} {Q : Exit → Act → World → Prop}
    (hg : o.guard = none) (s x : Operand) (t : TypeId) (hop : o.op = Op.call { callee := Callee.builtin Builtin.append, args := #[s, x], argTypes := #[t, t] })
    (e : TypeId) (k : IntKind) (bytes : Nat) (ht : P.underlying t = some (.slice e)) (hi : (P.info? e).map (fun i => (i.zero, i.size, i.bytes)) = some (some (.int k 0), 1, bytes)) (hby : bytes ≤ 8)
    (g : Nat) (hs : a.eval s = .slice (some ⟨g, 0, none⟩) 0 0) (A : Option Addr) (m c : Nat) (hx : a.eval x = .slice A m c) (zs : List Int) (hr : RdI k w A zs) (hm : m = zs.length) (hlen : m ≤ 1000000000)
    (hK : ∀ A' c' w', RdI k w' A' zs → m ≤ c' → Below w.heap.size w w' → wpList P ops Q rest (a.put o.dst (.slice A' m c')) w') :
    wpList P ops Q (o :: rest) a w := by
  refine wpList_plain hg fun K hK' => ?_
  obtain ⟨A', c', w', hrun, r1, r2, r3⟩ := run_copy (P := P) w t o.type e k bytes ht hi hby g A m c zs hr hm hlen
  unfold Oper.wp
  simp [execOp, hop, resolve, invoke, builtin, hs, hx, hrun, Result.andThen]
  exact hK' _ _ (hK A' c' w' r1 r2 r3)
end Go.Proofs.Ytpknjfeiiaopgaa.Big
