/- Rules for the Int library: a thing held is replaced by a lesser one; a slice literal of two numbers; numbers as the old contracts read them. -/
import Derived.Test.YtpknjfeiiaopgaaEA
import Derived.Test.YtpknjfeiiaopgaaBigW
namespace Go.Proofs.Ytpknjfeiiaopgaa.E
open Go.RowKit
section
variable {w0 w : World} {L : List Res} {r r' : Res} {k : Nat}
theorem St.less (h : St w0 w L) (hk : lget L k = some r) (hr : r.holds w → r'.holds w) (hf : ∀ b ∈ r'.foot, b ∈ r.foot) : St w0 w (lset L k r') :=
  h.turn hk rfl rfl rfl (Nat.le_refl _) (fun _ _ _ => rfl) (hr (h.holds k r hk)) (fun b hb => ⟨(h.lt _ _ hk b (hf b hb)).2, .inl (hf b hb)⟩)
theorem St.via {M : List Res} (h : St w0 w L) (f : Nat → Nat) (hf : ∀ i r, lget M i = some r → lget L (f i) = some r) (hi : ∀ i j r s, lget M i = some r → lget M j = some s → f i = f j → i = j) : St w0 w M :=
  ⟨h.below, fun i r hr => h.holds _ _ (hf i r hr), fun i r hr => h.lt _ _ (hf i r hr), fun i j r s hr hs hne => h.sep _ _ r s (hf i r hr) (hf j s hs) (fun e => hne (hi i j r s hr hs e))⟩
theorem lget_len : ∀ {l : List Res} {i : Nat} {r : Res}, lget l i = some r → i < l.length
  | [], i, r, h => by simp [lget] at h
  | x :: l, 0, r, _ => by simp
  | x :: l, i + 1, r, h => by have := lget_len (l := l) (i := i) h; simp; omega
theorem lget_at : ∀ (l : List Res) (i : Nat), lget l i = l[i]?
  | [], i => by simp [lget]
  | x :: l, 0 => by simp [lget]
  | x :: l, i + 1 => by simp [lget, lget_at l i]
/-- Some of the first things held, in another order; what comes behind them stays. -/
theorem pickT {l T : List Res} (h : St w0 w (l ++ T)) (ks : List Nat) (hs : ks.map (lget l) = (sel l ks).map some) (hn : ks.Nodup) : St w0 w (sel l ks ++ T) := by
  have hlen : (sel l ks).length = ks.length := by simpa using (congrArg List.length hs).symm
  have key : ∀ (i : Nat) (r : Res), lget (sel l ks) i = some r → ∃ k : Nat, ks[i]? = some k ∧ lget l k = some r := by
    intro i r hi
    rw [lget_at] at hi
    have h1 := congrArg (·[i]?) hs
    simp only [List.getElem?_map, hi, Option.map_some] at h1
    cases hk : ks[i]? with
    | none => rw [hk] at h1; simp at h1
    | some k => rw [hk] at h1; exact ⟨k, rfl, by simpa using h1⟩
  have hb : ∀ (i k : Nat), ks[i]? = some k → k < l.length := by
    intro i k hk
    have h1 := congrArg (·[i]?) hs
    simp only [List.getElem?_map, hk, Option.map_some] at h1
    cases h2 : (sel l ks)[i]? with
    | none => rw [h2] at h1; simp at h1
    | some r => rw [h2] at h1; exact lget_len (by simpa using h1)
  refine St.via h (fun i => match ks[i]? with | some k => k | none => i - ks.length + l.length) (fun i r hi => ?_) (fun i j r s hi hj he => ?_)
  · rw [lget_append] at hi
    split at hi
    · obtain ⟨k, hk, hr⟩ := key i r hi
      rw [hk]
      dsimp only
      rw [lget_append, if_pos (lget_len hr)]
      exact hr
    · rename_i hge
      rw [List.getElem?_eq_none (by omega)]
      dsimp only
      rw [lget_append, if_neg (by omega), ← hi, hlen]
      congr 1
      omega
  · cases h1 : ks[i]? with
    | none =>
      have hi1 := List.getElem?_eq_none_iff.1 h1
      cases h2 : ks[j]? with
      | none =>
        have hj1 := List.getElem?_eq_none_iff.1 h2
        rw [h1, h2] at he
        dsimp only at he
        omega
      | some k2 => rw [h1, h2] at he; have := hb j k2 h2; dsimp only at he; omega
    | some k1 =>
      have := hb i k1 h1
      cases h2 : ks[j]? with
      | none => rw [h1, h2] at he; dsimp only at he; omega
      | some k2 =>
        rw [h1, h2] at he
        dsimp only at he
        subst he
        obtain ⟨hi2, hi3⟩ := List.getElem?_eq_some_iff.1 h1
        obtain ⟨hj2, hj3⟩ := List.getElem?_eq_some_iff.1 h2
        rcases Nat.lt_trichotomy i j with h3 | h3 | h3
        · exact absurd (hi3.trans hj3.symm) (List.pairwise_iff_getElem.1 hn i j hi2 hj2 h3)
        · exact h3
        · exact absurd (hj3.trans hi3.symm) (List.pairwise_iff_getElem.1 hn j i hj2 hi2 h3)
theorem OwnV.take {e s n c m : Nat} {A : Option Addr} {xs : List Value} (h : OwnV w e s (.slice A n c) n xs) (hm : m ≤ n) : OwnV w e s (.slice A m c) m (xs.take (m * s)) := by
  obtain ⟨h1, h2 | ⟨g, off, cap, cur, hv, hh, hl, hx, hs, ht⟩⟩ := h
  · obtain ⟨hv, hn⟩ := h2
    injection hv with e1 e2 e3
    subst e1 e3 hn
    obtain rfl : m = 0 := by omega
    exact ⟨by simp, .inl ⟨rfl, rfl⟩⟩
  · injection hv with e1 e2 e3
    subst e1 e3
    have hle : m * s ≤ n * s := Nat.mul_le_mul_right _ hm
    refine ⟨by rw [List.length_take, h1]; omega, .inr ⟨g, off, c, cur, rfl, hh, by omega, hx, hs, ?_⟩⟩
    rw [← ht, List.take_take]
    congr 1
    omega
end
section
variable {P : Program} {N : Nat} {w0 : World} {F : Frm} {L : List Res} {d : Option Tmp} {x y : Operand} {v u : Value} {ty t : TypeId} {pos : String} {af : Array Edge} {gd : Option (Nat × Bool)} {K : Frm → List Res → Prop} {Q : Exit → Act → World → Prop} {c : Code} {ops : Array Oper} {l : List Oper}
theorem tr_lesser {r r' : Res} (k : Nat) (hk : lget L k = some r) (hr : ∀ w, r.holds w → r'.holds w) (hf : ∀ b ∈ r'.foot, b ∈ r.foot) (h : TR P N w0 Q c F (lset L k r')) : TR P N w0 Q c F L := fun a w hF hS => h a w hF (hS.less hk (hr w) hf)
theorem tl_lesser {r r' : Res} (k : Nat) (hk : lget L k = some r) (hr : ∀ w, r.holds w → r'.holds w) (hf : ∀ b ∈ r'.foot, b ∈ r.foot) (h : TL P N w0 ops Q l F (lset L k r')) : TL P N w0 ops Q l F L := fun a w hF hS => h a w hF (hS.less hk (hr w) hf)
theorem tr_shrink {e s n m cp : Nat} {A : Option Addr} {xs : List Value} (k : Nat) (hk : lget L k = some (vec e s (.slice A n cp) n xs)) (hm : m ≤ n) (h : TR P N w0 Q c F (lset L k (vec e s (.slice A m cp) m (xs.take (m * s))))) : TR P N w0 Q c F L :=
  tr_lesser k hk (fun _ h => OwnV.take h hm) (by cases A <;> exact fun _ h => h) h
theorem y_negk {k : IntKind} {a : Int} (hx : FE N F x (.int k a)) : Yld P N w0 F L ⟨d, .unOp .neg t x, ty, pos, af, gd⟩ (.int k (k.wrap (-a))) := fun c w hF _ => by
  simp [execOp, hx c hF, Op.unary, Op.intArith]
/-- A number that is said otherwise. -/
theorem y_as {k : IntKind} {a b : Int} {o : Oper} (h : Yld P N w0 F L o (.int k a)) (e : a = b) : Yld P N w0 F L o (.int k b) := e ▸ h
theorem y_neqb {a b : Bool} {t' : TypeId} (hu : P.underlying t = some .bool) (hx : FE N F x (.bool a)) (hy : FE N F y (.bool b)) : Yld P N w0 F L ⟨d, .binOp .neq t x y t', ty, pos, af, gd⟩ (.bool (!(a == b))) := y_binop hx hy fun w => by simp [eqGuard, run_neq_bool w t a b hu]
theorem oj_lit2 {e : Nat} {k : IntKind} {a b : Int} (hu : P.underlying t = some (.slice e)) (hs : ∀ w, (sizeOf e).run P w = .ok 1 w) (hz : ∀ w, (zeroValue e).run P w = .ok (.int k 0) w) (hx : FE N F x (.int k a)) (hy : FE N F y (.int k b))
    (h : ∀ g, K (fput F d (.slice (some ⟨g, 0, none⟩) 2 2)) (vec e 1 (.slice (some ⟨g, 0, none⟩) 2 2) 2 [.int k a, .int k b] :: L)) : OpJ P N w0 F L ⟨d, .buildSlice t 2 #[(0, x), (1, y)], ty, pos, af, gd⟩ K := fun ac w hF hS => by
  have hfill : Instr.fill (fun i => some (i, 1)) ((Array.range 2).map ((Value.int k 0).cells[· % (Value.int k 0).cells.size]!)) [(0, .int k a), (1, .int k b)] = some #[.int k a, .int k b] := by
    have h1 : (Array.range 2).map ((Value.int k 0).cells[· % (Value.int k 0).cells.size]!) = #[.int k 0, .int k 0] := by
      simp [show Array.range 2 = #[0, 1] from rfl, Value.cells]
    rw [h1]
    simp [Instr.fill, Value.cells]
    try rfl
  have hr : (execOp ac.eval ⟨d, .buildSlice t 2 #[(0, x), (1, y)], ty, pos, af, gd⟩).run P w = .ok (.value (.slice (some ⟨w.heap.size, 0, none⟩) 2 2)) (w.alloc (.cells #[.int k a, .int k b] e)) := by
    simp [execOp, Instr.buildSlice, hx ac hF, hy ac hF, run_underlying hu, hs, hz, hfill, newRow, newObj, run_new]
  unfold Oper.wp
  rw [hr]
  refine ⟨_, _, h w.heap.size, hF.put _ _, hS.add (alloc_new w _) ⟨rfl, .inr ⟨w.heap.size, 0, 2, #[.int k a, .int k b], rfl, heap_alloc_new w _, Nat.le_refl _, by decide, by simp, by simp⟩⟩ (fun b hb => ?_)⟩
  simp only [vec, Value.ownBlock, Option.toList_some, List.mem_singleton] at hb
  subst hb
  exact ⟨Nat.le_refl _, by simp⟩
end
end Go.Proofs.Ytpknjfeiiaopgaa.E
