/- Queues: what the walks of Step and HStep share. -/
import Derived.Test.YtlmnlffbbbcodaaRingA
namespace Go.Proofs.Ytlmnlffbbbcodaa.Ring
open Go.RowKit Go.Proofs.Ytlmnlffbbbcodaa.Big

theorem OwnI.rd {w : World} {base : Nat} {e : TypeId} {k : IntKind} {A : Option Addr} {n c : Nat} {xs : List Int} (h : OwnI w base e k (.slice A n c) xs) : RdI k w A xs := by
  obtain ⟨A', c', h1, _, h2, _⟩ := h.form
  injection h1 with h3 h4 h5
  rw [h3]; exact h2

theorem andF {k : IntKind} {w : World} {g off B : Nat} {xs : List Int} (hb : B ≤ g) (h : RdI k w (some ⟨g, off, none⟩) xs) : RdI k w (some ⟨g, off, none⟩) xs ∧ ∀ g' o s, some (⟨g, off, none⟩ : Addr) = some ⟨g', o, s⟩ → B ≤ g' :=
  ⟨h, fun _ _ _ e => by cases e; exact hb⟩
theorem OwnI.rdf {w : World} {base B : Nat} {e : TypeId} {k : IntKind} {A : Option Addr} {n c : Nat} {xs : List Int} (hb : B ≤ base) (h : OwnI w base e k (.slice A n c) xs) : RdI k w A xs ∧ ∀ g o s, A = some ⟨g, o, s⟩ → B ≤ g := by
  obtain ⟨A', c', h1, _, h2, h3⟩ := h.form
  injection h1 with h4 h5 h6
  rw [h4]; exact ⟨h2, fun g o s e => Nat.le_trans hb (h3 g o s e)⟩

/-- A call that answers a queue. -/
def StepR (most mb drops r : Int) (xs : List Int) (w : World) (e : Ending) (w' : World) : Prop :=
  ∃ A c, e = .returned (.tuple #[.agg #[.slice A xs.length c, (.int .i64 most), (.int .i64 mb), (.int .i64 drops)], (.int .i64 r), (.int .i64 0)]) ∧ xs.length ≤ c ∧ (RdI .i64 w' A xs ∧ ∀ g o s, A = some ⟨g, o, s⟩ → w.heap.size ≤ g) ∧ Below w.heap.size w w'

theorem right_parts {zs : List Int} {most mb drops : Int} (h : right zs most mb drops = true) : ((0 ≤ most ∧ most ≤ 400) ∧ (0 ≤ mb ∧ mb ≤ 1073741824) ∧ (0 ≤ drops ∧ drops ≤ 1099511627776) ∧ (zs.length : Int) ≤ most) ∧ zs.all okp = true ∧ 0 ≤ tot zs ∧ tot zs ≤ mb := by
  simp only [right, Bool.and_eq_true, decide_eq_true_eq] at h
  exact ⟨hd_iff.1 h.1.1, h.1.2, (tot_bd h.1.2).1, h.2⟩

theorem RdI.tail {k : IntKind} {w : World} {g : Nat} {z : Int} {l : List Int} (h : RdI k w (some ⟨g, 0, none⟩) (z :: l)) : RdI k w (some ⟨g, 1, none⟩) l := by
  rcases h with h0 | ⟨b, off, hA, hc⟩
  · simp at h0
  · injection hA with hA
    injection hA with h1 h2 h3
    subst h1 h2
    refine .inr ⟨g, 1, rfl, fun j u hu => ?_⟩
    have := hc (j + 1) u (by simpa using hu)
    rw [show 1 + j = 0 + (j + 1) by omega]
    exact this
theorem RdI.len0 {k : IntKind} {w : World} {A : Option Addr} {l : List Int} (h : l.length = 0) : RdI k w A l := by
  rw [List.length_eq_zero_iff] at h
  subst h
  exact .inl rfl

theorem top4' (w : World) (A B C D E : Obj) : (((((w.alloc A).alloc B).alloc C).alloc D).alloc E).heap[w.heap.size + 1 + 1 + 1 + 1]? = some E := by
  have h := top0 ((((w.alloc A).alloc B).alloc C).alloc D) E
  have e : ((((w.alloc A).alloc B).alloc C).alloc D).heap.size = w.heap.size + 1 + 1 + 1 + 1 := by simp
  rwa [e] at h


theorem hbytes_tot {zs : List Int} (h : zs.all okp = true) : hbytes zs = tot zs := by simp [hbytes, h]
end Go.Proofs.Ytlmnlffbbbcodaa.Ring
