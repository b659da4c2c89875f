/- Walks: Add and Sub of any numbers. -/
import Derived.Test.YtpknjfeiiaopgaaBigE
import Derived.Test.YtpknjfeiiaopgaaBigG
namespace Go.Proofs.Ytpknjfeiiaopgaa.Big
open Go.RowKit

theorem add_any (b o bx ox by' oy : Nat) (z x y : Int) (w : World) (h : IntAt w b o z) (hx : IntAt w bx ox x) (hy : IntAt w by' oy y) (sx : Sm x) (sy : Sm y) :
    Calls Try.prog 104 #[.pointer (some ⟨b, o, none⟩), .pointer (some ⟨bx, ox, none⟩), .pointer (some ⟨by', oy, none⟩)] w (AddRes w b o (x + y)) := by
  obtain ⟨neg0, ds0, h1, _⟩ := h.ex
  obtain ⟨neg, dx, h2, t2, _, rfl⟩ := hx.ex
  obtain ⟨neg', dy, h3, t3, _, rfl⟩ := hy.ex
  have l2 := sx.len t2 h2.dig
  have l3 := sy.len t3 h3.dig
  by_cases hn : neg' = neg
  · subst hn
    have := add_same b o bx ox by' oy neg0 neg' ds0 dx dy w h1 h2 h3 l2 l3
    rwa [show sg neg' (dval dx + dval dy) = sg neg' (dval dx) + sg neg' (dval dy) from by cases neg' <;> simp [sg]; omega] at this
  · obtain rfl : neg' = !neg := by cases neg <;> cases neg' <;> simp at hn ⊢
    by_cases hv : dval dy ≤ dval dx
    · have := add_big b o bx ox by' oy neg0 neg ds0 dx dy w h1 h2 h3 t2 t3 l2 l3 hv
      rwa [show sg neg (dval dx - dval dy) = sg neg (dval dx) + sg (!neg) (dval dy) from by cases neg <;> simp [sg] <;> omega] at this
    · have := add_small b o bx ox by' oy neg0 neg ds0 dx dy w h1 h2 h3 t2 t3 l2 l3 (by omega)
      rwa [show sg (!neg) (dval dy - dval dx) = sg neg (dval dx) + sg (!neg) (dval dy) from by cases neg <;> simp [sg] <;> omega] at this

set_option maxHeartbeats 2000000 in
theorem sub_any (b o bx ox by' oy : Nat) (z x y : Int) (w : World) (h : IntAt w b o z) (hx : IntAt w bx ox x) (hy : IntAt w by' oy y) (sx : Sm x) (sy : Sm y) :
    Calls Try.prog 184 #[.pointer (some ⟨b, o, none⟩), .pointer (some ⟨bx, ox, none⟩), .pointer (some ⟨by', oy, none⟩)] w (AddRes w b o (x - y)) := by
  have hb0 : Below w.heap.size w (w.alloc (.cells #[.bool false, .slice none 0 0] 148)) := (Below.refl _ _).alloc (Nat.le_refl _) _
  have h1 := neg_any w.heap.size 0 by' oy 0 y _ (new_int w) (hy.below hb0) sy
  have H1 := Lib.hid h1
  have H2 : Hid (∀ w', IntAt w' w.heap.size 0 (-y) → Upd (w.alloc (.cells #[.bool false, .slice none 0 0] 148)) w' w.heap.size 0 2 → Calls Try.prog 104 #[.pointer (some ⟨b, o, none⟩), .pointer (some ⟨bx, ox, none⟩), .pointer (some ⟨w.heap.size, 0, none⟩)] w' (AddRes w b o (x - y))) := Lib.hid fun w' k1 k2 => by
    have k3 : Below w.heap.size w w' := hb0.trans (k2.below (Nat.le_refl _) (by simp))
    have := add_any b o bx ox w.heap.size 0 z x (-y) w' (h.below k3) (hx.below k3) k1 sx sy.neg
    refine this.mono fun e w'' ⟨h4, h5, h6⟩ => ⟨h4, by rw [Int.sub_eq_add_neg]; exact h5, (Upd.of_below k3 b o 2).trans h6⟩
  clear h1 hb0 h hx hy sx sy
  go_enter Try.func184, Try.ntmps184
  go_wp2_with fail
  refine H1.out.mono ?_
  rintro e w1 ⟨rfl, hi, hu⟩
  have HA := Lib.hid (H2.out w1 hi hu)
  clear hi hu H1 H2
  go_wp2_with fail
  refine HA.out.mono ?_
  rintro e w2 ⟨rfl, hi, hu⟩
  have HI := Lib.hid hi
  have HU := Lib.hid hu
  clear hi hu HA
  go_wp2_with fail
  go_ret
  exact ⟨rfl, HI.out, HU.out⟩

/-- Some number lies there. -/
def IntOK (w : World) (b o : Nat) : Prop := ∃ z, IntAt w b o z
theorem ok_of {w : World} {b o : Nat} {z : Int} (h : IntAt w b o z) : IntOK w b o := ⟨z, h⟩
theorem ok_new (w : World) : IntOK (w.alloc (.cells #[.bool false, .slice none 0 0] 148)) w.heap.size 0 := ⟨0, new_int w⟩
theorem ok_newd (w : World) : IntOK (w.alloc (.cells #[.bool false, .slice none 0 0] 148)).drew w.heap.size 0 := ⟨0, (new_int w).drew⟩
theorem IntOK.below {w w' : World} {b o : Nat} (h : IntOK w b o) (hb : Below w.heap.size w w') : IntOK w' b o := h.imp fun _ h => h.below hb

theorem mul_ok (b o bx ox by' oy : Nat) (x y : Int) (w : World) (h : IntOK w b o) (hx : IntAt w bx ox x) (hy : IntAt w by' oy y) (sx : Sm x) (sy : Sm y) :
    Calls Try.prog 103 #[.pointer (some ⟨b, o, none⟩), .pointer (some ⟨bx, ox, none⟩), .pointer (some ⟨by', oy, none⟩)] w (AddRes w b o (x * y)) :=
  have ⟨z, h⟩ := h
  mul_any b o bx ox by' oy z x y w h hx hy sx sy

theorem add_ok (b o bx ox by' oy : Nat) (x y : Int) (w : World) (h : IntOK w b o) (hx : IntAt w bx ox x) (hy : IntAt w by' oy y) (sx : Sm x) (sy : Sm y) :
    Calls Try.prog 104 #[.pointer (some ⟨b, o, none⟩), .pointer (some ⟨bx, ox, none⟩), .pointer (some ⟨by', oy, none⟩)] w (AddRes w b o (x + y)) :=
  have ⟨z, h⟩ := h
  add_any b o bx ox by' oy z x y w h hx hy sx sy

theorem sub_ok (b o bx ox by' oy : Nat) (x y : Int) (w : World) (h : IntOK w b o) (hx : IntAt w bx ox x) (hy : IntAt w by' oy y) (sx : Sm x) (sy : Sm y) :
    Calls Try.prog 184 #[.pointer (some ⟨b, o, none⟩), .pointer (some ⟨bx, ox, none⟩), .pointer (some ⟨by', oy, none⟩)] w (AddRes w b o (x - y)) :=
  have ⟨z, h⟩ := h
  sub_any b o bx ox by' oy z x y w h hx hy sx sy

end Go.Proofs.Ytpknjfeiiaopgaa.Big
