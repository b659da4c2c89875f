/- append of noughts to nothing; a literal of two slices. -/
import Derived.Test.YtpknjfeiiaopgaaEX
import Derived.Test.YtpknjfeiiaopgaaEB
namespace Go.Proofs.Ytpknjfeiiaopgaa.E
open Go.RowKit
section
variable {P : Program} {N : Nat} {w0 : World} {Q : Exit → Act → World → Prop} {F : Frm} {L : List Res} {c : Code} {d : Option Tmp} {x y : Operand} {ty t t' : TypeId} {pos : String} {af : Array Edge} {gd : Option (Nat × Bool)} {K : Frm → List Res → Prop}
theorem oj_appzN {e bytes m s : Nat} {z : Value} {kn kq : IntKind} (hu : P.underlying t = some (.slice e)) (hut : P.underlying t' = some (.int kn)) (hi : (P.info? e).map (fun i => (i.zero, i.size, i.bytes)) = some (some z, s, bytes)) (hx : FE N F x (.slice none 0 0)) (hy : FE N F y (.int kq (m : Int)))
    (hz : z.cells.size = s ∧ 0 < s) (hm : 0 < m ∧ m ≤ 1000000) (hb : bytes ≤ 140)
    (h : ∀ b c', m ≤ c' → K (fput F d (.slice (some ⟨b, 0, none⟩) m c')) (vec e s (.slice (some ⟨b, 0, none⟩) m c') m ((Builtin.zeroCells z.cells m).toList) :: L)) : OpJ P N w0 F L ⟨d, .call ⟨.builtin .append, #[x, y], #[t, t']⟩, ty, pos, af, gd⟩ K := fun a w hF hS => by
  obtain ⟨inf, h2, h3, h4, h5⟩ := info_parts' hi
  have hby : m * inf.bytes ≤ 140737488355328 := by
    rw [h5]
    exact Nat.le_trans (Nat.mul_le_mul hm.2 hb) (by decide)
  have hold : (Builtin.firstCells inf.size 0 (.slice none 0 0)).run P w.drew = .ok (#[] : Array Value) w.drew := run_firstCells_none ..
  have hr := Lib.run_append_grow_zeros (P := P) w t t' ty e inf z kq kn hu hut h2 h3 none 0 0 [] hold m (by omega) (by omega) (by omega) (by omega) (by omega) (growslice_fits (by omega) (by simpa using hby))
  simp only [Nat.zero_add] at hr
  have hge := grownCap_ge w m 0 e
  have hgm := grownCap_le_maxLen w m 0 e (by unfold maxLen; omega)
  have hrun : (execOp a.eval ⟨d, .call ⟨.builtin .append, #[x, y], #[t, t']⟩, ty, pos, af, gd⟩).run P w = .ok (.value (.slice (some ⟨w.heap.size, 0, none⟩) m (grownCap w m 0 e))) (w.drew.alloc (.cells (([] : List Value).toArray ++ Builtin.zeroCells z.cells m ++ Builtin.zeroCells z.cells (grownCap w m 0 e - m)) e)) := by
    simp only [execOp, resolve, invoke, builtin, Sem.run_bind, Sem.run_pure, Result.andThen_ok, List.map_toArray, List.map_cons, List.map_nil, hx a hF, hy a hF, hr]
  unfold Oper.wp
  rw [hrun]
  have hzl : ∀ q, (Builtin.zeroCells z.cells q).toList.length = q * s := fun q => by rw [Array.length_toList, size_zeroCells, hz.1]
  refine ⟨_, _, h w.heap.size _ hge, hF.put _ _, hS.add ⟨rfl, rfl, rfl, by simp, fun b hb => Go.heap_alloc_old _ _ hb⟩ ⟨hzl m, .inr ⟨w.heap.size, 0, _, _, rfl, heap_alloc_new w.drew _, hge, hgm, ?_, ?_⟩⟩ (fun b hb => ?_)⟩
  · rw [← Array.length_toList, Array.toList_append, Array.toList_append, List.length_append, List.length_append, hzl, hzl]
    simp only [List.length_nil, Nat.zero_add]
    rw [← Nat.add_mul]
    exact Nat.mul_le_mul_right _ (by omega)
  · rw [Array.toList_append, Array.toList_append, List.drop_zero]
    exact List.take_left' (by simp only [List.nil_append]; exact hzl m)
  · simp only [vec, Value.ownBlock, Option.toList_some, List.mem_singleton] at hb
    subst hb
    exact ⟨Nat.le_refl _, by simp⟩

theorem oj_lit2s {e : Nat} {A B : Option Addr} {n c m c2 : Nat} (hu : P.underlying t = some (.slice e)) (hs : ∀ w, (sizeOf e).run P w = .ok 1 w) (hz : ∀ w, (zeroValue e).run P w = .ok (.slice none 0 0) w) (hx : FE N F x (.slice A n c)) (hy : FE N F y (.slice B m c2))
    (h : ∀ g, K (fput F d (.slice (some ⟨g, 0, none⟩) 2 2)) (vec e 1 (.slice (some ⟨g, 0, none⟩) 2 2) 2 [.slice A n c, .slice B m c2] :: L)) : OpJ P N w0 F L ⟨d, .buildSlice t 2 #[(0, x), (1, y)], ty, pos, af, gd⟩ K := fun ac w hF hS => by
  have hfill : Instr.fill (fun i => some (i, 1)) ((Array.range 2).map ((Value.slice none 0 0).cells[· % (Value.slice none 0 0).cells.size]!)) [(0, .slice A n c), (1, .slice B m c2)] = some #[.slice A n c, .slice B m c2] := by
    have h1 : (Array.range 2).map ((Value.slice none 0 0).cells[· % (Value.slice none 0 0).cells.size]!) = #[.slice none 0 0, .slice none 0 0] := by
      simp [show Array.range 2 = #[0, 1] from rfl, Value.cells]
    rw [h1]
    simp [Instr.fill, Value.cells]
    try rfl
  have hr : (execOp ac.eval ⟨d, .buildSlice t 2 #[(0, x), (1, y)], ty, pos, af, gd⟩).run P w = .ok (.value (.slice (some ⟨w.heap.size, 0, none⟩) 2 2)) (w.alloc (.cells #[.slice A n c, .slice B m c2] e)) := by
    simp [execOp, Instr.buildSlice, hx ac hF, hy ac hF, run_underlying hu, hs, hz, hfill, newRow, newObj, run_new]
  unfold Oper.wp
  rw [hr]
  refine ⟨_, _, h w.heap.size, hF.put _ _, hS.add (alloc_new w _) ⟨rfl, .inr ⟨w.heap.size, 0, 2, #[.slice A n c, .slice B m c2], rfl, heap_alloc_new w _, Nat.le_refl _, by decide, by simp, by simp⟩⟩ (fun b hb => ?_)⟩
  simp only [vec, Value.ownBlock, Option.toList_some, List.mem_singleton] at hb
  subst hb
  exact ⟨Nat.le_refl _, by simp⟩
end
end Go.Proofs.Ytpknjfeiiaopgaa.E
