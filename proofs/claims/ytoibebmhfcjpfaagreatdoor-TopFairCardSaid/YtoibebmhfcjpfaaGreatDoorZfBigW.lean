/- Big numbers in memory: what a pointer holds, what a call that writes one of them leaves of the rest. -/
import Derived.Test.YtoibebmhfcjpfaaGreatDoorZfMem
import Derived.Test.YtoibebmhfcjpfaaGreatDoorZfBigM
namespace Go.Proofs.YtoibebmhfcjpfaaGreatDoor.Big
open Go.RowKit

/-- At block b from o on lie a sign and digits (noughts at their end are allowed). -/
structure RawAt (w : World) (b o : Nat) (neg : Bool) (ds : List Int) : Prop where
  ex : ∃ (A : Option Addr) (c : Nat), w.cell? ⟨b, o, none⟩ = some (.bool neg) ∧ w.cell? ⟨b, o + 1, none⟩ = some (.slice A ds.length c) ∧ ds.length ≤ c ∧ RdI .u32 w A ds
  dig : Dig ds
  fr0 : w.frozen? ⟨b, o, none⟩ = false
  fr1 : w.frozen? ⟨b, o + 1, none⟩ = false

/-- At block b from o on lies the number z. -/
structure IntAt (w : World) (b o : Nat) (z : Int) : Prop where
  ex : ∃ (neg : Bool) (ds : List Int), RawAt w b o neg ds ∧ Trim ds ∧ (neg = true → ds ≠ []) ∧ z = sg neg (dval ds)

/-- From w to w' nothing has turned but n cells of block b from o on. -/
structure Upd (w w' : World) (b o n : Nat) : Prop where
  os : w'.os = w.os
  tape : w'.tape = w.tape
  output : w'.output = w.output
  size : w.heap.size ≤ w'.heap.size
  block : ∀ k, k < w.heap.size → k ≠ b → w'.heap[k]? = w.heap[k]?
  cell : ∀ q, b < w.heap.size → q < o ∨ o + n ≤ q → w'.cell? ⟨b, q, none⟩ = w.cell? ⟨b, q, none⟩
  frozen : ∀ q, b < w.heap.size → w'.frozen? ⟨b, q, none⟩ = w.frozen? ⟨b, q, none⟩

variable {w w' w'' : World} {b o n : Nat}

theorem Upd.refl (w : World) (b o n : Nat) : Upd w w b o n := ⟨rfl, rfl, rfl, Nat.le_refl _, fun _ _ _ => rfl, fun _ _ _ => rfl, fun _ _ => rfl⟩
theorem Upd.of_below (h : Below w.heap.size w w') (b o n : Nat) : Upd w w' b o n :=
  ⟨h.os, h.tape, h.output, h.size, fun k hk _ => h.block k hk, fun _ hb _ => h.cell (p := ⟨b, _, none⟩) hb, fun _ hb => h.frozen (p := ⟨b, _, none⟩) hb⟩
theorem Upd.trans (h : Upd w w' b o n) (k : Upd w' w'' b o n) : Upd w w'' b o n :=
  ⟨k.os.trans h.os, k.tape.trans h.tape, k.output.trans h.output, Nat.le_trans h.size k.size, fun i hi hne => (k.block i (Nat.lt_of_lt_of_le hi h.size) hne).trans (h.block i hi hne),
    fun q hb hq => (k.cell q (Nat.lt_of_lt_of_le hb h.size) hq).trans (h.cell q hb hq), fun q hb => (k.frozen q (Nat.lt_of_lt_of_le hb h.size)).trans (h.frozen q hb)⟩
theorem Upd.then_below (h : Upd w w' b o n) (k : Below w'.heap.size w' w'') : Upd w w'' b o n := h.trans (Upd.of_below k b o n)
theorem Upd.drew (h : Upd w w' b o n) : Upd w w'.drew b o n := ⟨h.os, h.tape, h.output, h.size, h.block, h.cell, h.frozen⟩
theorem Upd.alloc (h : Upd w w' b o n) (x : Obj) : Upd w (w'.alloc x) b o n := h.then_below ((Below.refl _ _).alloc (Nat.le_refl _) x)
theorem Upd.setCell (h : Upd w w' b o n) {q : Nat} (h1 : o ≤ q) (h2 : q < o + n) (v : Value) : Upd w (w'.setCell ⟨b, q, none⟩ v) b o n :=
  h.trans ⟨rfl, rfl, rfl, by simp [World.setCell], fun k _ hk => Below.heap_setCell _ _ _ _ hk, fun p _ hp => World.cell?_setCell_other _ _ _ _ (by simp <;> omega), fun p _ => World.frozen?_setCell _ _ _ _⟩
/-- Below a number that the block is not below. -/
theorem Upd.below (h : Upd w w' b o n) {B : Nat} (hb : B ≤ b) (hB : B ≤ w.heap.size) : Below B w w' :=
  ⟨h.os, h.tape, h.output, h.size, fun k hk => h.block k (by omega) (by omega)⟩
theorem Upd.other (h : Upd w w' b o n) {b' : Nat} (hne : b' ≠ b) (hb : b' < w.heap.size) (q : Nat) : w'.cell? ⟨b', q, none⟩ = w.cell? ⟨b', q, none⟩ :=
  World.cell?_of_block (w := w) (h.block b' hb hne)
theorem Upd.otherF (h : Upd w w' b o n) {b' : Nat} (hne : b' ≠ b) (hb : b' < w.heap.size) (q : Nat) : w'.frozen? ⟨b', q, none⟩ = w.frozen? ⟨b', q, none⟩ :=
  World.frozen?_of_block (w := w) (h.block b' hb hne)

/-- No digit lies in n cells of block b from o on. -/
def NoInt (w : World) (b o n : Nat) : Prop := ∀ i, i < n → ∀ (k : IntKind) (z : Int), w.cell? ⟨b, o + i, none⟩ ≠ some (.int k z)

theorem RawAt.lt {neg : Bool} {ds : List Int} (h : RawAt w b o neg ds) : b < w.heap.size := by
  obtain ⟨A, c, h1, _⟩ := h.ex
  exact lt_of_cell h1
theorem RawAt.cells {neg : Bool} {ds : List Int} (h : RawAt w b o neg ds) : ∃ A n c, w.cell? ⟨b, o, none⟩ = some (.bool neg) ∧ w.cell? ⟨b, o + 1, none⟩ = some (.slice A n c) ∧ w.frozen? ⟨b, o, none⟩ = false ∧ w.frozen? ⟨b, o + 1, none⟩ = false := by
  obtain ⟨A, c, h2, h3, _⟩ := h.ex
  exact ⟨A, _, c, h2, h3, h.fr0, h.fr1⟩
theorem IntAt.cells {z : Int} (h : IntAt w b o z) : ∃ neg A n c, w.cell? ⟨b, o, none⟩ = some (.bool neg) ∧ w.cell? ⟨b, o + 1, none⟩ = some (.slice A n c) ∧ w.frozen? ⟨b, o, none⟩ = false ∧ w.frozen? ⟨b, o + 1, none⟩ = false := by
  obtain ⟨neg, ds, h1, _⟩ := h.ex
  obtain ⟨A, c, h2, h3, _⟩ := h1.ex
  exact ⟨neg, A, _, c, h2, h3, h1.fr0, h1.fr1⟩
theorem IntAt.lt {z : Int} (h : IntAt w b o z) : b < w.heap.size := by
  obtain ⟨_, _, h, _⟩ := h.ex
  exact h.lt
/-- Digits stay where they are. -/
theorem _root_.Go.Proofs.YtoibebmhfcjpfaaGreatDoor.RdI.upd {k : IntKind} {A : Option Addr} {zs : List Int} (h : RdI k w A zs) (hn : NoInt w b o n) (hu : Upd w w' b o n) : RdI k w' A zs := by
  rcases h with h | ⟨b', off, hA, hc⟩
  · exact .inl h
  · refine .inr ⟨b', off, hA, fun j u hj => ?_⟩
    have h1 := hc j u hj
    have hl := lt_of_cell h1
    by_cases hb : b' = b
    · subst hb
      rw [hu.cell (off + j) hl, h1]
      by_cases h2 : off + j < o ∨ o + n ≤ off + j
      · exact h2
      · obtain ⟨z, rfl⟩ : ∃ z, u = .int k z := by
          rw [List.getElem?_map, Option.map_eq_some_iff] at hj
          obtain ⟨z, _, hz⟩ := hj
          exact ⟨z, hz.symm⟩
        exact absurd h1 (by
          have := hn (off + j - o) (by omega) k z
          rwa [show o + (off + j - o) = off + j from by omega] at this)
    · rw [hu.other hb hl, h1]

theorem RawAt.upd {neg : Bool} {ds : List Int} {b' o' : Nat} (h : RawAt w b' o' neg ds) (hne : b' ≠ b ∨ o' + 2 ≤ o ∨ o + n ≤ o') (hn : NoInt w b o n) (hu : Upd w w' b o n) : RawAt w' b' o' neg ds := by
  have hl := h.lt
  obtain ⟨A, c, h1, h2, h3, h4⟩ := h.ex
  have key : ∀ q, q = o' ∨ q = o' + 1 → w'.cell? ⟨b', q, none⟩ = w.cell? ⟨b', q, none⟩ ∧ w'.frozen? ⟨b', q, none⟩ = w.frozen? ⟨b', q, none⟩ := by
    intro q hq
    by_cases hb : b' = b
    · subst hb
      exact ⟨hu.cell q hl (by omega), hu.frozen q hl⟩
    · exact ⟨hu.other hb hl q, hu.otherF hb hl q⟩
  exact ⟨⟨A, c, (key _ (.inl rfl)).1.trans h1, (key _ (.inr rfl)).1.trans h2, h3, RdI.upd h4 hn hu⟩, h.dig, (key _ (.inl rfl)).2.trans h.fr0, (key _ (.inr rfl)).2.trans h.fr1⟩
theorem IntAt.upd {z : Int} {b' o' : Nat} (h : IntAt w b' o' z) (hne : b' ≠ b ∨ o' + 2 ≤ o ∨ o + n ≤ o') (hn : NoInt w b o n) (hu : Upd w w' b o n) : IntAt w' b' o' z := by
  obtain ⟨neg, ds, h1, h2⟩ := h.ex
  exact ⟨neg, ds, h1.upd hne hn hu, h2⟩
theorem RawAt.below {neg : Bool} {ds : List Int} (h : RawAt w b o neg ds) (hb : Below w.heap.size w w') : RawAt w' b o neg ds :=
  have hl := h.lt
  have ⟨A, c, h1, h2, h3, h4⟩ := h.ex
  ⟨⟨A, c, (hb.cell (p := ⟨b, o, none⟩) hl).trans h1, (hb.cell (p := ⟨b, o + 1, none⟩) hl).trans h2, h3, RdI.below h4 hb⟩, h.dig, (hb.frozen (p := ⟨b, o, none⟩) hl).trans h.fr0, (hb.frozen (p := ⟨b, o + 1, none⟩) hl).trans h.fr1⟩
theorem IntAt.below {z : Int} (h : IntAt w b o z) (hb : Below w.heap.size w w') : IntAt w' b o z := by
  obtain ⟨neg, ds, h1, h2⟩ := h.ex
  exact ⟨neg, ds, h1.below hb, h2⟩
theorem IntAt.drew {z : Int} (h : IntAt w b o z) : IntAt w.drew b o z := h.below (Below.refl _ _).drew
theorem IntAt.alloc {z : Int} (h : IntAt w b o z) (x : Obj) : IntAt (w.alloc x) b o z := h.below ((Below.refl _ _).alloc (Nat.le_refl _) x)
theorem NoInt.upd {b' o' n' : Nat} (h : NoInt w b' o' n') (hl : b' < w.heap.size) (hne : b' ≠ b ∨ o' + n' ≤ o ∨ o + n ≤ o') (hu : Upd w w' b o n) : NoInt w' b' o' n' := fun i hi k z => by
  by_cases hb : b' = b
  · subst hb
    rw [hu.cell (o' + i) hl (by omega)]
    exact h i hi k z
  · rw [hu.other hb hl]
    exact h i hi k z

/-- Own digits: a store of one. -/
theorem _root_.Go.Proofs.YtoibebmhfcjpfaaGreatDoor.OwnI.store {base : Nat} {e : TypeId} {k : IntKind} {g m c : Nat} {xs : List Int} (h : OwnI w base e k (.slice (some ⟨g, 0, none⟩) m c) xs) (j : Nat) (z : Int) :
    OwnI (w.setCell ⟨g, j, none⟩ (.int k z)) base e k (.slice (some ⟨g, 0, none⟩) m c) (xs.set j z) := by
  obtain ⟨A, c', h1, _⟩ := OwnI.form h
  obtain ⟨h2, h3, h4⟩ : some ⟨g, 0, none⟩ = A ∧ m = xs.length ∧ c = c' := by simpa using h1
  subst h3
  have := (World.ownsRow.stored (h := h) j (.int k z)).1
  unfold OwnI
  rw [List.length_set, List.map_set]
  exact this
theorem _root_.Go.Proofs.YtoibebmhfcjpfaaGreatDoor.OwnI.cell {base : Nat} {e : TypeId} {k : IntKind} {g m c : Nat} {xs : List Int} (h : OwnI w base e k (.slice (some ⟨g, 0, none⟩) m c) xs) {j : Nat} (hj : j < xs.length) :
    w.cell? ⟨g, j, none⟩ = some (.int k xs[j]) := by
  obtain ⟨A, c', h1, _, h5, _⟩ := OwnI.form h
  obtain ⟨h2, h3, h4⟩ : some ⟨g, 0, none⟩ = A ∧ m = xs.length ∧ c = c' := by simpa using h1
  subst h2
  obtain ⟨b, off, hA, hc⟩ := RdI.at_ h5 hj
  simp only [Option.some.injEq, Addr.mk.injEq, and_true] at hA
  obtain ⟨rfl, rfl⟩ := hA
  simpa using hc
theorem _root_.Go.Proofs.YtoibebmhfcjpfaaGreatDoor.OwnI.blk {base : Nat} {e : TypeId} {k : IntKind} {g m c : Nat} {xs : List Int} (h : OwnI w base e k (.slice (some ⟨g, 0, none⟩) m c) xs) : base ≤ g ∧ g < w.heap.size ∧ m = xs.length ∧ m ≤ c := by
  obtain ⟨A, c', h1, h6, h5, h7⟩ := OwnI.form h
  obtain ⟨h2, h3, h4⟩ : some ⟨g, 0, none⟩ = A ∧ m = xs.length ∧ c = c' := by simpa using h1
  subst h2 h3 h4
  have h8 := World.ownsRow.lt h g (by simp [Value.ownBlock])
  exact ⟨h8.1, h8.2, rfl, h6⟩
end Go.Proofs.YtoibebmhfcjpfaaGreatDoor.Big
