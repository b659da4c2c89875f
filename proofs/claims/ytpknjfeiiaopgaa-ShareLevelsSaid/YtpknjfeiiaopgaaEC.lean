/- Rules: a slice literal of two structs (a pointer and a number each), loads of whole elements, numbers as the old contracts read them. -/
import Derived.Test.YtpknjfeiiaopgaaBgD
import Derived.Test.YtpknjfeiiaopgaaBigC
import Derived.Test.YtpknjfeiiaopgaaBigU
namespace Go.Proofs.Ytpknjfeiiaopgaa.E
open Go.RowKit
section
variable {P : Program} {N : Nat} {w0 : World} {F : Frm} {L : List Res} {d : Option Tmp} {x y : Operand} {v u : Value} {ty t : TypeId} {pos : String} {af : Array Edge} {gd : Option (Nat × Bool)} {K : Frm → List Res → Prop}
theorem y_ldL {A : Option Addr} {j s : Nat} {xs : List Value} (ha : ∀ w, (isAgg t).run P w = .ok true w) (hs : ∀ w, (sizeOf t).run P w = .ok s w) (hx : FE N F x (elt A j)) (hr : RdL w0 L A xs) (hl : Nat.ble (j + s) xs.length = true) (hs0 : 0 < s) : Yld P N w0 F L ⟨d, .load t x, ty, pos, af, gd⟩ (.agg ((xs.drop j).take s).toArray) := by
  have hl' := Nat.le_of_ble_eq_true hl
  refine y_ldA ha hs hx hr (by rw [List.length_take, List.length_drop]; omega) hs0 (fun i u hu => ?_)
  rw [List.getElem?_take] at hu
  split at hu
  · rw [List.getElem?_drop] at hu
    exact hu
  · cases hu
theorem oj_litA2 {e : Nat} {p q : Option Addr} {a b : Int} (hu : P.underlying t = some (.slice e)) (hs : ∀ w, (sizeOf e).run P w = .ok 2 w) (hz : ∀ w, (zeroValue e).run P w = .ok (.agg #[.pointer none, .int .i64 0]) w) (hx : FE N F x (.agg #[.pointer p, .int .i64 a])) (hy : FE N F y (.agg #[.pointer q, .int .i64 b]))
    (h : ∀ g, K (fput F d (.slice (some ⟨g, 0, none⟩) 2 2)) (vec e 2 (.slice (some ⟨g, 0, none⟩) 2 2) 2 [.pointer p, .int .i64 a, .pointer q, .int .i64 b] :: L)) : OpJ P N w0 F L ⟨d, .buildSlice t 2 #[(0, x), (1, y)], ty, pos, af, gd⟩ K := fun ac w hF hS => by
  have hfill : Instr.fill (fun i => some (i * 2, 2)) ((Array.range 4).map ((Value.agg #[.pointer none, .int .i64 0]).cells[· % (Value.agg #[.pointer none, .int .i64 0]).cells.size]!)) [(0, .agg #[.pointer p, .int .i64 a]), (1, .agg #[.pointer q, .int .i64 b])] = some #[.pointer p, .int .i64 a, .pointer q, .int .i64 b] := by
    have h1 : (Array.range 4).map ((Value.agg #[.pointer none, .int .i64 0]).cells[· % (Value.agg #[.pointer none, .int .i64 0]).cells.size]!) = #[.pointer none, .int .i64 0, .pointer none, .int .i64 0] := by
      simp [show Array.range 4 = #[0, 1, 2, 3] from rfl, Value.cells]
    rw [h1]
    simp [Instr.fill, Value.cells]
    try rfl
  have hr : (execOp ac.eval ⟨d, .buildSlice t 2 #[(0, x), (1, y)], ty, pos, af, gd⟩).run P w = .ok (.value (.slice (some ⟨w.heap.size, 0, none⟩) 2 2)) (w.alloc (.cells #[.pointer p, .int .i64 a, .pointer q, .int .i64 b] e)) := by
    simp [execOp, Instr.buildSlice, hx ac hF, hy ac hF, run_underlying hu, hs, hz, hfill, newRow, newObj, run_new]
  unfold Oper.wp
  rw [hr]
  refine ⟨_, _, h w.heap.size, hF.put _ _, hS.add (alloc_new w _) ⟨rfl, .inr ⟨w.heap.size, 0, 2, #[.pointer p, .int .i64 a, .pointer q, .int .i64 b], rfl, heap_alloc_new w _, Nat.le_refl _, by decide, by simp, by simp⟩⟩ (fun b hb => ?_)⟩
  simp only [vec, Value.ownBlock, Option.toList_some, List.mem_singleton] at hb
  subst hb
  exact ⟨Nat.le_refl _, by simp⟩
end
end Go.Proofs.Ytpknjfeiiaopgaa.E
namespace Go.Proofs.Ytpknjfeiiaopgaa.Big
open Go.RowKit Go.Proofs.Ytpknjfeiiaopgaa.E
theorem int_at {w0 w : World} {L : List Res} {b : Nat} {q : Nm} {z : Int} (hS : St w0 w L) (i j : Nat) (hi : lget L i = some (q.h b)) (hj : lget L j = some q.d) (hq : q.is z) : IntAt w b 0 z := by
  obtain ⟨T, hb⟩ := hS.holds i _ hi
  obtain ⟨_, _, hr⟩ := E.OwnV.rd (hS.holds j _ hj)
  have hf : ∀ o, w.frozen? ⟨b, o, none⟩ = false := fun o => by simp [World.frozen?, hb]
  exact ⟨q.neg, q.ds, ⟨⟨q.A, q.c, by rw [cell_of_row w b 0 _ T (0, 0) hb]; rfl, by rw [cell_of_row w b (0 + 1) _ T (0, 0) hb, hq.len]; rfl, by rw [hq.len]; exact hq.cap, hr⟩, hq.dig, hf _, hf _⟩, hq.trim, hq.nz, hq.val⟩
theorem cmp_lt {a b : Int} (h : cmp a b < 0) : a < b := by unfold cmp at h; split at h <;> (try split at h) <;> omega
theorem cmp_ge {a b : Int} (h : ¬ cmp a b < 0) : b ≤ a := by unfold cmp at h; split at h <;> (try split at h) <;> omega
end Go.Proofs.Ytpknjfeiiaopgaa.Big
