/- A store of a whole struct into a block of the call's own: the world behind it by its cells. -/
import Derived.Test.YtoibebmhfcjpfaaGreatDoorZfBigW
import Derived.Laws.Tables
import Derived.Laws.Rows
namespace Go.Proofs.YtoibebmhfcjpfaaGreatDoor
open Go.RowKit Go.Proofs.YtoibebmhfcjpfaaGreatDoor.Big

theorem top0 (w : World) (A : Obj) : (w.alloc A).heap[w.heap.size]? = some A := heap_alloc_new w A
theorem top1 (w : World) (A B : Obj) : ((w.alloc A).alloc B).heap[w.heap.size]? = some A := (Go.heap_alloc_old _ _ (by simp)).trans (top0 w A)
theorem top2 (w : World) (A B C : Obj) : (((w.alloc A).alloc B).alloc C).heap[w.heap.size]? = some A := (Go.heap_alloc_old _ _ (by simp; omega)).trans (top1 w A B)
theorem setRow_upd (w : World) (g : Nat) (cs old : Array Value) (t : TypeId) (hg : w.heap[g]? = some (.cells old t (0, 0))) (ho : old.size = cs.size) :
    (∀ i, (w.setRow g cs).cell? ⟨g, i, none⟩ = cs[i]?) ∧ (∀ i, (w.setRow g cs).frozen? ⟨g, i, none⟩ = false) ∧ (w.setRow g cs).heap[g]? = some (.cells cs t (0, 0)) ∧ (w.setRow g cs).heap.size = w.heap.size ∧ Upd w (w.setRow g cs) g 0 cs.size := by
  have h1 : (w.setRow g cs).heap[g]? = some (.cells cs t (0, 0)) := setRow_heap w g old cs t (0, 0) hg
  have h2 : (w.setRow g cs).heap.size = w.heap.size := by simp [World.setRow]
  have hc : ∀ i, (w.setRow g cs).cell? ⟨g, i, none⟩ = cs[i]? := fun i => by simp [World.cell?, h1]
  have hf : ∀ i, (w.setRow g cs).frozen? ⟨g, i, none⟩ = false := fun i => by simp [World.frozen?, h1]
  refine ⟨hc, hf, h1, h2, ⟨rfl, rfl, rfl, by rw [h2]; exact Nat.le_refl _, fun k _ hk => ?_, fun q _ hq => ?_, fun q _ => ?_⟩⟩
  · simp only [World.setRow, Array.getElem?_modify]
    rw [if_neg (fun e => hk e.symm)]
  · rw [hc]
    have : w.cell? ⟨g, q, none⟩ = old[q]? := by simp [World.cell?, hg]
    rw [this, Array.getElem?_eq_none (by omega), Array.getElem?_eq_none (by omega)]
  · rw [hf]
    simp [World.frozen?, hg]

theorem Rd.other {w w' : World} {g off b o n : Nat} {s : Option Nat} {xs : List Value} (h : Rd w (some ⟨g, off, s⟩) xs) (hu : Upd w w' b o n) (hne : g ≠ b) : Rd w' (some ⟨g, off, s⟩) xs := by
  rcases h with h | ⟨b', off', hA, hc⟩
  · exact .inl h
  · simp only [Option.some.injEq, Addr.mk.injEq] at hA
    obtain ⟨rfl, rfl, rfl⟩ := hA
    exact .inr ⟨g, off, rfl, fun j u hj => (hu.other hne (lt_of_cell (hc j u hj)) _).trans (hc j u hj)⟩
theorem RdI.other {k : IntKind} {w w' : World} {g off b o n : Nat} {s : Option Nat} {xs : List Int} (h : RdI k w (some ⟨g, off, s⟩) xs) (hu : Upd w w' b o n) (hne : g ≠ b) : RdI k w' (some ⟨g, off, s⟩) xs := Rd.other h hu hne

theorem OwnI.upd {w w' : World} {base : Nat} {e : TypeId} {k : IntKind} {v : Value} {xs : List Int} {b o n : Nat} (h : OwnI w base e k v xs) (hu : Upd w w' b o n) (hne : ∀ g, v.ownBlock = some g → g ≠ b) : OwnI w' base e k v xs :=
  World.ownsRow.kept (row := some b) h ⟨hu.os, hu.tape, hu.output, hu.size, fun k hk hr => hu.block k hk (fun e => hr (by rw [e]))⟩ (by
    cases hv : v.ownBlock with
    | none => simp
    | some g => exact .inr (fun e => hne g hv (by simpa using e)))

theorem wpList_storeA {P : Program} {ops : Array Oper} {rest : List Oper} {a : Act} {w : World} {Q : Exit → Act → World → Prop} {ty tt : TypeId} {x y : Operand} {pos : String} {af : Array Edge}
    (h : ∃ (g : Nat) (cs : Array Value) (t : TypeId) (old : Array Value), a.eval x = .pointer (some ⟨g, 0, none⟩) ∧ a.eval y = .agg cs ∧ w.heap[g]? = some (.cells old t (0, 0)) ∧ (P.info? ty).map (·.size) = some cs.size ∧
      old.size = cs.size ∧ cs.all (·.oneCell') = true ∧ ∀ w', (∀ i, w'.cell? ⟨g, i, none⟩ = cs[i]?) → (∀ i, w'.frozen? ⟨g, i, none⟩ = false) → w'.heap[g]? = some (.cells cs t (0, 0)) → w'.heap.size = w.heap.size → Upd w w' g 0 cs.size → wpList P ops Q rest (a.put none undef) w') :
    wpList P ops Q (⟨none, .store ty x y, tt, pos, af, none⟩ :: rest) a w := by
  obtain ⟨g, cs, t, old, hx, hy, hg, hi, hold, h1, h⟩ := h
  obtain ⟨h2, h3, h4, h5, h6⟩ := setRow_upd w g cs old t hg hold
  exact wpList_store_row rfl ty x y rfl g cs hx hy t old hg hi hold h1 (h _ h2 h3 h4 h5 h6)
end Go.Proofs.YtoibebmhfcjpfaaGreatDoor
