/- All come, one by one, plain. -/
import Derived.Test.YtpknjfeiiaopgaaHvO
namespace Go.Proofs.Ytpknjfeiiaopgaa.Heavy
open Go.RowKit Go.Proofs.Ytpknjfeiiaopgaa.E

theorem up_less {l : List (Int × Int)} {n : Int} (hu : Up l) : Up (lessF l n) := by
  induction l with
  | nil => intro a b _ hb; simp [lessF] at hb
  | cons a l ih =>
    obtain ⟨g1, g2⟩ := up_tail hu
    have ih := ih g1
    by_cases e : n < a.2
    · have : lessF (a :: l) n = (a.1, a.2 - n) :: lessF l n := by simp [lessF, e]
      rw [this]
      intro i j hij hj
      cases j with
      | zero => omega
      | succ j =>
        have hj' : j < (lessF l n).length := by simpa using hj
        cases i with
        | zero =>
          have hm := mem_k hj'
          obtain ⟨d, hd, hde⟩ := List.mem_map.1 hm
          have h3 := g2 d (List.mem_filter.1 hd).1
          have h4 : d.1 = k1 (lessF l n) j := by have := congrArg Prod.fst hde; exact this
          have h5 : k1 ((a.1, a.2 - n) :: lessF l n) (j + 1) = k1 (lessF l n) j := by simp [k1]
          rw [h5]
          show a.1 < _
          omega
        | succ i =>
          have := ih i j (by omega) hj'
          simpa [k1] using this
    · have : lessF (a :: l) n = lessF l n := by simp [lessF, e]
      rw [this]
      exact ih
/-- It may be, and no count is above b. -/
structure Rb (k : Int) (l : List (Int × Int)) (b : Int) : Prop where
  rt : Rt k l
  bd : ∀ c ∈ l, c.2 ≤ b
theorem rb_of {k b : Int} {l : List (Int × Int)} (h1 : 1 ≤ k ∧ k ≤ 400) (h2 : (l.length : Int) ≤ k) (hu : Up l) (hb : ∀ c ∈ l, 1 ≤ c.2 ∧ c.2 ≤ b) (hM : b ≤ 1099511627776) : Rb k l b := by
  refine ⟨⟨⟨h1.1, h1.2, h2⟩, fun j hj => ?_⟩, fun c hc => (hb c hc).2⟩
  have := hb _ (mem_k hj)
  refine ⟨this.1, by have h := this.2; dsimp only at h; omega, ?_⟩
  by_cases e : j = 0
  · exact .inl e
  · exact .inr (hu (j - 1) j (by omega) hj)
theorem add_rb {k x b e : Int} {l r : List (Int × Int)} (h : Rb k l b) (hb : 0 ≤ b ∧ b < 1099511627776) (ha : AddR k l x r e) : e = 0 ∧ Rb k r (b + 1) := by
  have hk : 1 ≤ k ∧ k ≤ 400 := ⟨h.rt.1.1, h.rt.1.2.1⟩
  have hlk := h.rt.1.2.2
  have hu := h.rt.up
  have hbd : ∀ c ∈ l, 1 ≤ c.2 ∧ c.2 ≤ b := fun c hc => ⟨mem_pos h.rt hc, h.bd c hc⟩
  cases ha with
  | form g => exact absurd h.rt g
  | full p g gp gl gx gn =>
    have := hbd _ (mem_k gl)
    exfalso
    have h2 := this.2
    dsimp only at h2
    omega
  | inc p g gp gl gx gn =>
    refine ⟨rfl, rb_of hk (by rw [List.length_set]; exact hlk) ?_ (fun c hc => ?_) (by omega)⟩
    · have := up_set (v := k2 l p + 1) hu gl
      rwa [gx] at this
    · rcases List.mem_or_eq_of_mem_set hc with hc | rfl
      · have := hbd c hc; omega
      · have := hbd _ (mem_k gl)
        dsimp only at this ⊢
        omega
  | new p g gp gx gn =>
    refine ⟨rfl, rb_of hk (by rw [List.length_append, List.length_cons, List.length_take, List.length_drop]; have := gp.le; omega) (up_ins hu gp gx) (fun c hc => ?_) (by omega)⟩
    simp only [List.mem_append, List.mem_cons] at hc
    rcases hc with hc | hc | hc
    · have := hbd c (List.mem_of_mem_take hc); omega
    · subst hc; dsimp only; omega
    · have := hbd c (List.mem_of_mem_drop hc); omega
  | less p g gp gx gn =>
    refine ⟨rfl, rb_of hk (by have := lessF_len (l := l) (n := 1); omega) (up_less hu) (fun c hc => ?_) (by omega)⟩
    obtain ⟨d, hd, rfl⟩ := List.mem_map.1 hc
    obtain ⟨hd1, hd2⟩ := List.mem_filter.1 hd
    have := hbd d hd1
    simp at hd2
    dsimp only
    omega
def AllR (k : Int) (zs : List Int) : Nat → List (Int × Int) → Prop
  | 0, l => l = []
  | i + 1, l => ∃ l0, AllR k zs i l0 ∧ AddR k l0 (zs.getD i 0) l 0
theorem all_uniq {k : Int} {zs : List Int} : ∀ {i : Nat} {a b : List (Int × Int)}, AllR k zs i a → AllR k zs i b → a = b
  | 0, _, _, h, h' => by rw [h, h']
  | i + 1, _, _, ⟨a, h1, h2⟩, ⟨b, g1, g2⟩ => by
    obtain rfl := all_uniq h1 g1
    exact (h2.uniq g2).1
theorem all_rb {k : Int} {zs : List Int} (hk : 1 ≤ k ∧ k ≤ 400) : ∀ {i : Nat} {l : List (Int × Int)}, i ≤ 1048576 → AllR k zs i l → Rb k l i
  | 0, l, _, h => by
    subst h
    exact rb_of hk (by simp; omega) (fun a b _ hb => by simp at hb) (fun c hc => by simp at hc) (by omega)
  | i + 1, l, hi, ⟨l0, h1, h2⟩ => by
    have := (add_rb (all_rb hk (by omega) h1) (by omega) h2).2
    rwa [show ((i : Int) + 1) = ((i + 1 : Nat) : Int) by omega] at this
end Go.Proofs.Ytpknjfeiiaopgaa.Heavy
