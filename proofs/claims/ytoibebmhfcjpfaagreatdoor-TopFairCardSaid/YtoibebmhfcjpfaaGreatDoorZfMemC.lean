/- slices.Clone: of integers, the copy being the call's own. -/
import Derived.Test.YtoibebmhfcjpfaaGreatDoorZfBigW
import Derived.Deep.RegionLawGrows
import Derived.Outline
import Derived.BigQuiet
import Derived.Deep.QuietTactic
import Derived.Laws.BitsAllLaws
import Derived.Laws.Bits64
import Derived.Test.YtoibebmhfcjpfaaGreatDoorZfMemT
namespace Go.Proofs.YtoibebmhfcjpfaaGreatDoor
open Go.RowKit Go.Proofs.YtoibebmhfcjpfaaGreatDoor.Big

theorem run_copyO {P : Program} (w : World) (t ty e : TypeId) (k : IntKind) (bytes : Nat) (ht : P.underlying t = some (.slice e)) (hi : (P.info? e).map (fun i => (i.zero, i.size, i.bytes)) = some (some (.int k 0), 1, bytes)) (hby : bytes ≤ 8)
    (base g : Nat) (hb1 : base ≤ w.heap.size) (hb2 : base ≤ g) (hg : w.heap[g]? = some (.cells #[] e (0, 0))) (A : Option Addr) (m c : Nat) (zs : List Int) (hr : RdI k w A zs) (hm : m = zs.length) (hlen : m * 8 ≤ 140737488355328) :
    ∃ v w', (Builtin.append_ #[t, t] ty #[.slice (some ⟨g, 0, none⟩) 0 0, .slice A m c]).run P w = .ok v w' ∧ OwnI w' base e k v zs ∧ Below w.heap.size w w' := by
  obtain ⟨i, i1, i2, i3, i4⟩ := info_parts' hi
  subst hm
  by_cases h0 : zs = []
  · subst h0
    refine ⟨.slice (some ⟨g, 0, none⟩) 0 0, w, ?_, ⟨rfl, .inr ⟨g, 0, #[], rfl, hb2, hg, Nat.le_refl _, by simp [maxLen], rfl, rfl⟩⟩, Below.refl _ _⟩
    cases A with
    | none => simp [Builtin.append_, run_underlying ht, sizeOf, typeInfo, i1, Builtin.lenOf, Builtin.firstCells, storeCells]
    | some a => simp [Builtin.append_, run_underlying ht, sizeOf, typeInfo, i1, Builtin.lenOf, Builtin.firstCells, storeCells, loadCells, loadCellsFrom]
  · rcases hr with h1 | ⟨b, off, rfl, hc⟩
    · simp at h1; exact absurd h1 h0
    · have hpos : 0 < zs.length := List.length_pos_iff.2 h0
      obtain ⟨v', w', hrun, r1, r2⟩ := run_append_arg_grows (P := P) w t ty e i (.int k 0) 1 bytes ht i1 i2 i3 i4 rfl (by decide) ⟨g, 0, none⟩ 0 0 [] rfl (fun j u hj => by simp at hj) ⟨b, off, none⟩ zs.length c (zs.map (Value.int k)) (by simp) (fun j u hj => by
        have := hc j u hj
        simp only [Addr.add]
        split
        · rename_i h0; rw [h0] at this; exact this
        · simpa using this) (by simpa using hpos) (by unfold maxLen; omega) (by have := Nat.mul_le_mul_left zs.length hby; rw [Nat.zero_add]; omega)
      have ho : OwnI w' w.heap.size e k v' zs := by
        unfold OwnI
        simpa using r1
      refine ⟨v', w', hrun, ⟨ho.1, ?_⟩, (Below.refl _ _).grown r2 (Nat.le_refl _) (fun _ h => by cases h)⟩
      rcases ho.2 with h2 | ⟨g', cap, cur, h3, h4, h5⟩
      · exact .inl h2
      · exact .inr ⟨g', cap, cur, h3, Nat.le_trans hb1 h4, h5⟩

theorem wpList_copyO {P : Program} {w : World} {ops : Array Oper} {rest : List Oper} {a : Act} {Q : Exit → Act → World → Prop} {d : Option Tmp} {tt t : TypeId} {s x : Operand} {pos : String} {af : Array Edge}
    (h : ∃ (e : TypeId) (k : IntKind) (bytes base g : Nat) (A : Option Addr) (m c : Nat) (zs : List Int), P.underlying t = some (.slice e) ∧ (P.info? e).map (fun i => (i.zero, i.size, i.bytes)) = some (some (.int k 0), 1, bytes) ∧ bytes ≤ 8 ∧
      base ≤ w.heap.size ∧ base ≤ g ∧ w.heap[g]? = some (.cells #[] e (0, 0)) ∧ a.eval s = .slice (some ⟨g, 0, none⟩) 0 0 ∧ a.eval x = .slice A m c ∧ RdI k w A zs ∧ m = zs.length ∧ m * 8 ≤ 140737488355328 ∧
      ∀ v w', OwnI w' base e k v zs → Below w.heap.size w w' → wpList P ops Q rest (a.put d v) w') :
    wpList P ops Q (⟨d, .call { callee := .builtin .append, args := #[s, x], argTypes := #[t, t] }, tt, pos, af, none⟩ :: rest) a w := by
  obtain ⟨e, k, bytes, base, g, A, m, c, zs, ht, hi, hby, hb1, hb2, hg, hs, hx, hr, hm, hlen, hK⟩ := h
  refine wpList_plain rfl fun K hK' => ?_
  obtain ⟨v, w', hrun, r1, r2⟩ := run_copyO (P := P) w t tt e k bytes ht hi hby base g hb1 hb2 hg A m c zs hr hm hlen
  unfold Oper.wp
  simp [execOp, resolve, invoke, builtin, hs, hx, hrun, Result.andThen]
  exact hK' _ _ (hK v w' r1 r2)

theorem infoI8 : (Tryz.prog.info? 3).map (fun i => (i.zero, i.size, i.bytes)) = some (some (.int .i64 0), 1, 8) := by kernel_rfl

set_option maxRecDepth 100000 in
set_option maxHeartbeats 1000000 in
theorem clone_own (A : Option Addr) (n c : Nat) (zs : List Int) (w : World) (hr : RdI .i64 w A zs) (hn : zs.length = n) (hm : n ≤ 1000000000) :
    Calls Tryz.prog 31 #[.slice A n c] w fun e w' => ∃ v, e = .returned v ∧ OwnI w' w.heap.size 3 .i64 v zs ∧ Below w.heap.size w w' := by
  have q22 : ∀ (w : World) (a : Option Addr) (n c n' c' : Nat), (binOp .eql 22 (.slice a n c) (.slice none n' c')).run Tryz.prog w = .ok (.bool a.isNone) w := fun w a n c n' c' => Lib.run_eql_slice_nil w _ _ a n c n' c' Tryz.underlying22
  have Hr := Lib.hid hr
  have Hn := Lib.hid hn
  clear hr hn
  cases A with
  | none =>
    have H0 : Hid (zs = []) := Lib.hid (by
      rcases Hr.out with h | ⟨b, off, hA, _⟩
      · simpa using h
      · cases hA)
    have h0 : Hid (OwnI w w.heap.size 3 .i64 (.slice none 0 0) zs) := Lib.hid (by rw [H0.out]; exact OwnI.nil _ _ _ _)
    go_enter Tryz.func31, Tryz.ntmps31
    go_wp2_with fail
    go_ret
    exact ⟨_, rfl, h0.out, (by repeat (first | (with_reducible exact Below.refl _ _) | (with_reducible assumption) | (with_reducible refine Below.drew ?_) | (with_reducible refine below_drewN ?_ _) | ((with_reducible refine Below.setCell ?_ ?_ _); rotate_left; (next => first | omega | exact Nat.le_refl _ | (refine Below.size (B := ?_) ?_; rotate_left; assumption) | (simp; done) | (simp; omega))) | ((with_reducible refine Below.alloc ?_ ?_ _); rotate_left; (next => first | omega | exact Nat.le_refl _ | (refine Below.size (B := ?_) ?_; rotate_left; assumption) | (simp; done) | (simp; omega))) | ((with_reducible refine Below.trans (b := ?_) ?_ (Below.mono (B := ?_) ?_ ?_)); rotate_left 3; (next => (with_reducible assumption)); (next => first | omega | exact Nat.le_refl _ | (refine Below.size (B := ?_) ?_; rotate_left; assumption) | (simp; done) | (simp; omega))) | exact Below.refl _ _ | assumption | refine Below.drew ?_ | refine below_drewN ?_ _ | refine Below.alloc ?_ (by first | omega | exact Below.size (by assumption) | (simp; done) | (simp; omega)) _ | refine Below.setCell ?_ (by first | omega | exact Below.size (by assumption) | (simp; done) | (simp; omega)) _ | refine Below.trans ?_ (Below.mono (by assumption) (by first | omega | exact Below.size (by assumption) | (simp; done) | (simp; omega)))))⟩
  | some a =>
    go_enter Tryz.func31, Tryz.ntmps31
    go_wp2_with ((with_reducible refine wpList_copyO ?_); refine ⟨3, .i64, 8, w.heap.size, w.heap.size, _, _, _, zs, Tryz.underlying22, infoI8, by decide, by simp, Nat.le_refl _, ?_, rfl, rfl, RdI.below Hr.out (by repeat (first | (with_reducible exact Below.refl _ _) | (with_reducible assumption) | (with_reducible refine Below.drew ?_) | (with_reducible refine below_drewN ?_ _) | ((with_reducible refine Below.setCell ?_ ?_ _); rotate_left; (next => first | omega | exact Nat.le_refl _ | (refine Below.size (B := ?_) ?_; rotate_left; assumption) | (simp; done) | (simp; omega))) | ((with_reducible refine Below.alloc ?_ ?_ _); rotate_left; (next => first | omega | exact Nat.le_refl _ | (refine Below.size (B := ?_) ?_; rotate_left; assumption) | (simp; done) | (simp; omega))) | ((with_reducible refine Below.trans (b := ?_) ?_ (Below.mono (B := ?_) ?_ ?_)); rotate_left 3; (next => (with_reducible assumption)); (next => first | omega | exact Nat.le_refl _ | (refine Below.size (B := ?_) ?_; rotate_left; assumption) | (simp; done) | (simp; omega))) | exact Below.refl _ _ | assumption | refine Below.drew ?_ | refine below_drewN ?_ _ | refine Below.alloc ?_ (by first | omega | exact Below.size (by assumption) | (simp; done) | (simp; omega)) _ | refine Below.setCell ?_ (by first | omega | exact Below.size (by assumption) | (simp; done) | (simp; omega)) _ | refine Below.trans ?_ (Below.mono (by assumption) (by first | omega | exact Below.size (by assumption) | (simp; done) | (simp; omega))))), Hn.out.symm, by omega, ?_⟩; rotate_left; intro v w1 ho hb)
    · go_ret
      exact ⟨_, rfl, ho, (by repeat (first | (with_reducible exact Below.refl _ _) | (with_reducible assumption) | (with_reducible refine Below.drew ?_) | (with_reducible refine below_drewN ?_ _) | ((with_reducible refine Below.setCell ?_ ?_ _); rotate_left; (next => first | omega | exact Nat.le_refl _ | (refine Below.size (B := ?_) ?_; rotate_left; assumption) | (simp; done) | (simp; omega))) | ((with_reducible refine Below.alloc ?_ ?_ _); rotate_left; (next => first | omega | exact Nat.le_refl _ | (refine Below.size (B := ?_) ?_; rotate_left; assumption) | (simp; done) | (simp; omega))) | ((with_reducible refine Below.trans (b := ?_) ?_ (Below.mono (B := ?_) ?_ ?_)); rotate_left 3; (next => (with_reducible assumption)); (next => first | omega | exact Nat.le_refl _ | (refine Below.size (B := ?_) ?_; rotate_left; assumption) | (simp; done) | (simp; omega))) | exact Below.refl _ _ | assumption | refine Below.drew ?_ | refine below_drewN ?_ _ | refine Below.alloc ?_ (by first | omega | exact Below.size (by assumption) | (simp; done) | (simp; omega)) _ | refine Below.setCell ?_ (by first | omega | exact Below.size (by assumption) | (simp; done) | (simp; omega)) _ | refine Below.trans ?_ (Below.mono (by assumption) (by first | omega | exact Below.size (by assumption) | (simp; done) | (simp; omega)))))⟩
    · exact top0 _ _
/-- An own slice that is not empty. -/
theorem OwnI.formNE {w : World} {base : Nat} {e : TypeId} {k : IntKind} {v : Value} {xs : List Int} (h : OwnI w base e k v xs) (hne : 0 < xs.length) :
    ∃ g c, v = .slice (some ⟨g, 0, none⟩) xs.length c ∧ xs.length ≤ c ∧ base ≤ g ∧ g < w.heap.size := by
  rcases h.2 with ⟨hv, hn⟩ | ⟨g, cap, cur, hv, hb, hh, hl, hm, hs, ht⟩
  · omega
  · exact ⟨g, cap, hv, hl, hb, by
      rcases Nat.lt_or_ge g w.heap.size with h1 | h1
      · exact h1
      · rw [Array.getElem?_eq_none h1] at hh; cases hh⟩
end Go.Proofs.YtoibebmhfcjpfaaGreatDoor
