/- Own slices of structs. -/
import Derived.Test.YtlmnlffbbbcodaaMem
namespace Go.Proofs.Ytlmnlffbbbcodaa
open Go.RowKit

variable {α : Type}
/-- A slice value that is nil or the call's own, and the structs that it holds: f tells one's cells, n how many. -/
def OwnF (f : α → List Value) (n : Nat) (w : World) (base : Nat) (e : TypeId) (v : Value) (l : List α) : Prop := w.ownsRow base e n v l.length (l.flatMap f)

variable {f : α → List Value} {n : Nat}
theorem OwnF.nil (w : World) (base : Nat) (e : TypeId) : OwnF f n w base e (.slice none 0 0) [] := World.ownsRow_nil w base e n
theorem OwnF.alloc {w : World} {base : Nat} {e : TypeId} {v : Value} {l : List α} (h : OwnF f n w base e v l) (o : Obj) : OwnF f n (w.alloc o) base e v l := World.ownsRow.alloc h o
theorem OwnF.below {w w' : World} {base : Nat} {e : TypeId} {v : Value} {l : List α} (h : OwnF f n w base e v l) (hb : Below w.heap.size w w') : OwnF f n w' base e v l :=
  World.ownsRow.kept (row := none) h ⟨hb.os, hb.tape, hb.output, hb.size, fun k hk _ => hb.block k hk⟩ (by cases hv : v.ownBlock <;> simp)

/-- What it is, to be read. -/
theorem OwnF.form {w : World} {base : Nat} {e : TypeId} {v : Value} {l : List α} (h : OwnF f n w base e v l) :
    ∃ (A : Option Addr) (c : Nat), v = .slice A l.length c ∧ l.length ≤ c ∧ Rd w A (l.flatMap f) ∧ (∀ g o s, A = some ⟨g, o, s⟩ → base ≤ g) := by
  rcases h.2 with ⟨hv, hn⟩ | ⟨g, cap, cur, hv, hb, hh, hl, hm, hs, ht⟩
  · have : l = [] := List.eq_nil_of_length_eq_zero hn
    subst this
    exact ⟨none, 0, hv, Nat.le_refl _, .inl rfl, fun _ _ _ h => by cases h⟩
  · refine ⟨some ⟨g, 0, none⟩, cap, hv, hl, .inr ⟨g, 0, rfl, fun j u hu => ?_⟩, fun g' o s he => by cases he; exact hb⟩
    rw [← ht, List.getElem?_take] at hu
    split at hu
    · rw [Nat.zero_add, cell_of_row w g j cur e (0, 0) hh]
      simpa using hu
    · cases hu

/-- append of one struct to such a slice. -/
theorem wpList_appF {P : Program} {w : World} {ops : Array Oper} {rest : List Oper} {o : Oper} {a : Act} {Q : Exit → Act → World → Prop} (hgd : o.guard = none) (s x : Operand) (t : TypeId)
    (ho : o.op = .call { callee := .builtin .append, args := #[s, x], argTypes := #[t, t] }) (e : TypeId) (zero : Value) (bytes : Nat) (ht : P.underlying t = some (.slice e))
    (hi : (P.info? e).map (fun i => (i.zero, i.size, i.bytes)) = some (some zero, n, bytes)) (hz : zero.cells.size = n) (hn : 0 < n) (base : Nat) (l : List α) (z : α)
    (v : Value) (hs : a.eval s = v) (g : Nat) (hx : a.eval x = .slice (some ⟨g, 0, none⟩) 1 1) (hby : bytes ≤ 128) (hf : (f z).length = n) (h1 : ∀ u ∈ f z, u.oneCell' = true) (hown : OwnF f n w base e v l)
    (hc : ∀ j u, (f z)[j]? = some u → w.cell? ⟨g, j, none⟩ = some u)
    (hlen : l.length ≤ 1000000000) (hbase : base ≤ w.heap.size)
    (h : ∀ v' w', OwnF f n w' base e v' (l ++ [z]) → w.grownBy w' v.ownBlock → wpList P ops Q rest (a.put o.dst v') w') : wpList P ops Q (o :: rest) a w := by
  obtain ⟨i, i1, i2, i3, i4⟩ := info_parts' hi
  refine wpList_append_own w hgd s x t ho base e i zero n bytes ht i1 i2 i3 i4 hz hn v l.length (l.flatMap f) hs hown ⟨g, 0, none⟩ 1 1 (f z) hx (by rw [hf, Nat.one_mul]) (fun j u hu => ?_) h1 (by unfold maxLen; omega) ?_ hbase (fun v' w' h5 h6 _ => h v' w' ?_ h6)
  · have := hc j u hu
    simp only [Addr.add]
    split
    · rename_i h0; rw [h0] at this; exact this
    · simpa using this
  · have := Nat.mul_le_mul (show l.length + 1 ≤ 1000000001 by omega) hby
    omega
  · unfold OwnF
    rw [List.length_append, List.flatMap_append]
    simpa using h5

theorem OwnF.grown {w0 w w' : World} {B : Nat} {e : TypeId} {v : Value} {l : List α} (h : OwnF f n w B e v l) (hb : Below B w0 w) (hg : w.grownBy w' v.ownBlock) (hB : B ≤ w.heap.size) : Below B w0 w' :=
  hb.grown hg hB (fun k hk => (World.ownsRow.lt h k hk).1)

/-- A block that the call made since is left alone by an append. -/
theorem OwnF.newcell {w W w' : World} {B : Nat} {e : TypeId} {v : Value} {l : List α} (h : OwnF f n w B e v l) (hg : W.grownBy w' v.ownBlock) {b : Nat} (h1 : w.heap.size ≤ b) (h2 : b < W.heap.size) (o : Nat) :
    w'.cell? ⟨b, o, none⟩ = W.cell? ⟨b, o, none⟩ :=
  World.cell?_of_block (hg.block b h2 (fun e => by have := (World.ownsRow.lt h b e.symm).2; omega))
end Go.Proofs.Ytlmnlffbbbcodaa
