/- Walks: Add and Sub of any numbers. -/
import Derived.Test.YtfcpmcdlgkfolaaDoorBigE
import Derived.Test.YtfcpmcdlgkfolaaDoorBigG
namespace Go.Proofs.YtfcpmcdlgkfolaaDoor.Big
open Go.RowKit

theorem add_any (b o bx ox by' oy : Nat) (z x y : Int) (w : World) (h : IntAt w b o z) (hx : IntAt w bx ox x) (hy : IntAt w by' oy y) (sx : Sm x) (sy : Sm y) :
    Calls Tryd.prog 100 #[.pointer (some ⟨b, o, none⟩), .pointer (some ⟨bx, ox, none⟩), .pointer (some ⟨by', oy, none⟩)] w (AddRes w b o (x + y)) := by
  obtain ⟨neg0, ds0, h1, _⟩ := h.ex
  obtain ⟨neg, dx, h2, t2, _, rfl⟩ := hx.ex
  obtain ⟨neg', dy, h3, t3, _, rfl⟩ := hy.ex
  have l2 := sx.len t2 h2.dig
  have l3 := sy.len t3 h3.dig
  by_cases hn : neg' = neg
  · subst hn
    have := add_same b o bx ox by' oy neg0 neg' ds0 dx dy w h1 h2 h3 l2 l3
    rwa [show sg neg' (dval dx + dval dy) = sg neg' (dval dx) + sg neg' (dval dy) from by cases neg' <;> simp [sg]; omega] at this
  · obtain rfl : neg' = !neg := by cases neg <;> cases neg' <;> simp at hn ⊢
    by_cases hv : dval dy ≤ dval dx
    · have := add_big b o bx ox by' oy neg0 neg ds0 dx dy w h1 h2 h3 t2 t3 l2 l3 hv
      rwa [show sg neg (dval dx - dval dy) = sg neg (dval dx) + sg (!neg) (dval dy) from by cases neg <;> simp [sg] <;> omega] at this
    · have := add_small b o bx ox by' oy neg0 neg ds0 dx dy w h1 h2 h3 t2 t3 l2 l3 (by omega)
      rwa [show sg (!neg) (dval dy - dval dx) = sg neg (dval dx) + sg (!neg) (dval dy) from by cases neg <;> simp [sg] <;> omega] at this



/-- Some number lies there. -/
def IntOK (w : World) (b o : Nat) : Prop := ∃ z, IntAt w b o z
theorem ok_of {w : World} {b o : Nat} {z : Int} (h : IntAt w b o z) : IntOK w b o := ⟨z, h⟩
theorem ok_new (w : World) : IntOK (w.alloc (.cells #[.bool false, .slice none 0 0] 181)) w.heap.size 0 := ⟨0, new_int w⟩
theorem ok_newd (w : World) : IntOK (w.alloc (.cells #[.bool false, .slice none 0 0] 181)).drew w.heap.size 0 := ⟨0, (new_int w).drew⟩
theorem IntOK.below {w w' : World} {b o : Nat} (h : IntOK w b o) (hb : Below w.heap.size w w') : IntOK w' b o := h.imp fun _ h => h.below hb

theorem mul_ok (b o bx ox by' oy : Nat) (x y : Int) (w : World) (h : IntOK w b o) (hx : IntAt w bx ox x) (hy : IntAt w by' oy y) (sx : Sm x) (sy : Sm y) :
    Calls Tryd.prog 98 #[.pointer (some ⟨b, o, none⟩), .pointer (some ⟨bx, ox, none⟩), .pointer (some ⟨by', oy, none⟩)] w (AddRes w b o (x * y)) :=
  have ⟨z, h⟩ := h
  mul_any b o bx ox by' oy z x y w h hx hy sx sy

theorem add_ok (b o bx ox by' oy : Nat) (x y : Int) (w : World) (h : IntOK w b o) (hx : IntAt w bx ox x) (hy : IntAt w by' oy y) (sx : Sm x) (sy : Sm y) :
    Calls Tryd.prog 100 #[.pointer (some ⟨b, o, none⟩), .pointer (some ⟨bx, ox, none⟩), .pointer (some ⟨by', oy, none⟩)] w (AddRes w b o (x + y)) :=
  have ⟨z, h⟩ := h
  add_any b o bx ox by' oy z x y w h hx hy sx sy



end Go.Proofs.YtfcpmcdlgkfolaaDoor.Big
