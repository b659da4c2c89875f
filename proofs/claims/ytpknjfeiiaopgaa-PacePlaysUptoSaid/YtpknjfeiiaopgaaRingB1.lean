/- Walk: ring.Step. -/
import Derived.Test.YtpknjfeiiaopgaaRingA
namespace Go.Proofs.Ytpknjfeiiaopgaa.Ring
open Go.RowKit Go.Proofs.Ytpknjfeiiaopgaa.Big

/-- A call that refuses. -/
def Ref (er : Int) : Value := .tuple #[.agg #[.slice none 0 0, (.int .i64 0), (.int .i64 0), (.int .i64 0)], (.int .i64 0), (.int .i64 er)]

set_option maxRecDepth 100000 in
set_option maxHeartbeats 1000000 in
theorem step_form (A : Option Addr) (n c : Nat) (zs : List Int) (most mb drops kind v : Int) (w : World) (hr : RdI .i64 w A zs) (hn : zs.length = n) (hm : n ≤ 140737488355328) (h : right zs most mb drops = false) :
    Calls Try.prog 100 #[.agg #[.slice A n c, (.int .i64 most), (.int .i64 mb), (.int .i64 drops)], .agg #[(.int .i64 kind), (.int .i64 v)]] w fun e w' => e = .returned (.tuple #[.agg #[.slice none 0 0, (.int .i64 0), (.int .i64 0), (.int .i64 0)], (.int .i64 0), (.int .i64 1)]) ∧ Below w.heap.size w w' := by
  have HR : Hid (∀ W, Below w.heap.size w W → Calls Try.prog 125 #[.agg #[.slice A n c, (.int .i64 most), (.int .i64 mb), (.int .i64 drops)]] W fun e w' => e = .returned (.bool false) ∧ Below W.heap.size W w') := Lib.hid fun W hW => h ▸ right_any A n c zs most mb drops W (hr.below hW) hn hm
  have HN : Hid (∀ W, Calls Try.prog 124 #[(.int .i64 1)] W fun e w' => e = .returned (.tuple #[.agg #[.slice none 0 0, (.int .i64 0), (.int .i64 0), (.int .i64 0)], (.int .i64 0), (.int .i64 1)]) ∧ Below W.heap.size W w') := Lib.hid fun W => no_any 1 W
  clear hr hn hm h
  go_enter Try.func100, Try.ntmps100
  go_wp2_with fail
  refine (HR.out _ (by repeat (first | (with_reducible exact Below.refl _ _) | (with_reducible assumption) | (with_reducible refine Below.drew ?_) | (with_reducible refine below_drewN ?_ _) | ((with_reducible refine Below.setCell ?_ ?_ _); rotate_left; (next => first | omega | exact Nat.le_refl _ | (refine Below.size (B := ?_) ?_; rotate_left; assumption) | (simp; done) | (simp; omega))) | ((with_reducible refine Below.alloc ?_ ?_ _); rotate_left; (next => first | omega | exact Nat.le_refl _ | (refine Below.size (B := ?_) ?_; rotate_left; assumption) | (simp; done) | (simp; omega))) | ((with_reducible refine Below.trans (b := ?_) ?_ (Below.mono (B := ?_) ?_ ?_)); rotate_left 3; (next => (with_reducible assumption)); (next => first | omega | exact Nat.le_refl _ | (refine Below.size (B := ?_) ?_; rotate_left; assumption) | (simp; done) | (simp; omega))) | exact Below.refl _ _ | assumption | refine Below.drew ?_ | refine below_drewN ?_ _ | refine Below.alloc ?_ (by first | omega | exact Below.size (by assumption) | (simp; done) | (simp; omega)) _ | refine Below.setCell ?_ (by first | omega | exact Below.size (by assumption) | (simp; done) | (simp; omega)) _ | refine Below.trans ?_ (Below.mono (by assumption) (by first | omega | exact Below.size (by assumption) | (simp; done) | (simp; omega)))))).mono ?_
  rintro e w1 ⟨rfl, hb1⟩
  have hB1 : Below w.heap.size w w1 := (by repeat (first | (with_reducible exact Below.refl _ _) | (with_reducible assumption) | (with_reducible refine Below.drew ?_) | (with_reducible refine below_drewN ?_ _) | ((with_reducible refine Below.setCell ?_ ?_ _); rotate_left; (next => first | omega | exact Nat.le_refl _ | (refine Below.size (B := ?_) ?_; rotate_left; assumption) | (simp; done) | (simp; omega))) | ((with_reducible refine Below.alloc ?_ ?_ _); rotate_left; (next => first | omega | exact Nat.le_refl _ | (refine Below.size (B := ?_) ?_; rotate_left; assumption) | (simp; done) | (simp; omega))) | ((with_reducible refine Below.trans (b := ?_) ?_ (Below.mono (B := ?_) ?_ ?_)); rotate_left 3; (next => (with_reducible assumption)); (next => first | omega | exact Nat.le_refl _ | (refine Below.size (B := ?_) ?_; rotate_left; assumption) | (simp; done) | (simp; omega))) | exact Below.refl _ _ | assumption | refine Below.drew ?_ | refine below_drewN ?_ _ | refine Below.alloc ?_ (by first | omega | exact Below.size (by assumption) | (simp; done) | (simp; omega)) _ | refine Below.setCell ?_ (by first | omega | exact Below.size (by assumption) | (simp; done) | (simp; omega)) _ | refine Below.trans ?_ (Below.mono (by assumption) (by first | omega | exact Below.size (by assumption) | (simp; done) | (simp; omega)))))
  have hs1 := hB1.size
  have c1_0 := fun o => Below.cell hb1 (p := ⟨w.heap.size, o, none⟩) (by first | omega | exact Below.size (by assumption) | (simp; done) | (simp; omega))
  have l1_0 : w.heap.size < w1.heap.size := Nat.lt_of_lt_of_le (by first | omega | exact Below.size (by assumption) | (simp; done) | (simp; omega)) (Below.size hb1)
  have c1_1 := fun o => Below.cell hb1 (p := ⟨w.heap.size + 1, o, none⟩) (by first | omega | exact Below.size (by assumption) | (simp; done) | (simp; omega))
  have l1_1 : w.heap.size + 1 < w1.heap.size := Nat.lt_of_lt_of_le (by first | omega | exact Below.size (by assumption) | (simp; done) | (simp; omega)) (Below.size hb1)
  have c1_2 := fun o => Below.cell hb1 (p := ⟨w.heap.size + 1 + 1, o, none⟩) (by first | omega | exact Below.size (by assumption) | (simp; done) | (simp; omega))
  have f1_2 := fun o => Below.frozen hb1 (p := ⟨w.heap.size + 1 + 1, o, none⟩) (by first | omega | exact Below.size (by assumption) | (simp; done) | (simp; omega))
  have l1_2 : w.heap.size + 1 + 1 < w1.heap.size := Nat.lt_of_lt_of_le (by first | omega | exact Below.size (by assumption) | (simp; done) | (simp; omega)) (Below.size hb1)
  have k1 : w.heap.size + 1 + 1 < w1.heap.size := l1_2
  go_wp2_with fail
  refine (HN.out _).mono ?_
  rintro e w2 ⟨rfl, hb2⟩
  have c2_0 := fun o => Below.cell hb2 (p := ⟨w.heap.size + 1 + 1, o, none⟩) (by first | omega | exact Below.size (by assumption) | (simp; done) | (simp; omega))
  have f2_0 := fun o => Below.frozen hb2 (p := ⟨w.heap.size + 1 + 1, o, none⟩) (by first | omega | exact Below.size (by assumption) | (simp; done) | (simp; omega))
  have l2_0 : w.heap.size + 1 + 1 < w2.heap.size := Nat.lt_of_lt_of_le (by first | omega | exact Below.size (by assumption) | (simp; done) | (simp; omega)) (Below.size hb2)
  go_wp2_with fail
  refine bodyPost_ret (v := .tuple #[.agg #[.slice none 0 0, (.int .i64 0), (.int .i64 0), (.int .i64 0)], (.int .i64 0), (.int .i64 1)]) (by simp [results, Try.results100, go_sem, *]) rfl ?_
  exact ⟨rfl, (by repeat (first | (with_reducible exact Below.refl _ _) | (with_reducible assumption) | (with_reducible refine Below.drew ?_) | (with_reducible refine below_drewN ?_ _) | ((with_reducible refine Below.setCell ?_ ?_ _); rotate_left; (next => first | omega | exact Nat.le_refl _ | (refine Below.size (B := ?_) ?_; rotate_left; assumption) | (simp; done) | (simp; omega))) | ((with_reducible refine Below.alloc ?_ ?_ _); rotate_left; (next => first | omega | exact Nat.le_refl _ | (refine Below.size (B := ?_) ?_; rotate_left; assumption) | (simp; done) | (simp; omega))) | ((with_reducible refine Below.trans (b := ?_) ?_ (Below.mono (B := ?_) ?_ ?_)); rotate_left 3; (next => (with_reducible assumption)); (next => first | omega | exact Nat.le_refl _ | (refine Below.size (B := ?_) ?_; rotate_left; assumption) | (simp; done) | (simp; omega)))))⟩
end Go.Proofs.Ytpknjfeiiaopgaa.Ring

namespace Go.Proofs.Ytpknjfeiiaopgaa.Ring
open Go.RowKit Go.Proofs.Ytpknjfeiiaopgaa.Big

theorem OwnI.rd {w : World} {base : Nat} {e : TypeId} {k : IntKind} {A : Option Addr} {n c : Nat} {xs : List Int} (h : OwnI w base e k (.slice A n c) xs) : RdI k w A xs := by
  obtain ⟨A', c', h1, _, h2, _⟩ := h.form
  injection h1 with h3 h4 h5
  rw [h3]; exact h2

theorem andF {k : IntKind} {w : World} {g off B : Nat} {xs : List Int} (hb : B ≤ g) (h : RdI k w (some ⟨g, off, none⟩) xs) : RdI k w (some ⟨g, off, none⟩) xs ∧ ∀ g' o s, some (⟨g, off, none⟩ : Addr) = some ⟨g', o, s⟩ → B ≤ g' :=
  ⟨h, fun _ _ _ e => by cases e; exact hb⟩
theorem OwnI.rdf {w : World} {base B : Nat} {e : TypeId} {k : IntKind} {A : Option Addr} {n c : Nat} {xs : List Int} (hb : B ≤ base) (h : OwnI w base e k (.slice A n c) xs) : RdI k w A xs ∧ ∀ g o s, A = some ⟨g, o, s⟩ → B ≤ g := by
  obtain ⟨A', c', h1, _, h2, h3⟩ := h.form
  injection h1 with h4 h5 h6
  rw [h4]; exact ⟨h2, fun g o s e => Nat.le_trans hb (h3 g o s e)⟩

/-- A call that answers a queue. -/
def StepR (most mb drops r : Int) (xs : List Int) (w : World) (e : Ending) (w' : World) : Prop :=
  ∃ A c, e = .returned (.tuple #[.agg #[.slice A xs.length c, (.int .i64 most), (.int .i64 mb), (.int .i64 drops)], (.int .i64 r), (.int .i64 0)]) ∧ xs.length ≤ c ∧ (RdI .i64 w' A xs ∧ ∀ g o s, A = some ⟨g, o, s⟩ → w.heap.size ≤ g) ∧ Below w.heap.size w w'

theorem right_parts {zs : List Int} {most mb drops : Int} (h : right zs most mb drops = true) : ((0 ≤ most ∧ most ≤ 400) ∧ (0 ≤ mb ∧ mb ≤ 1073741824) ∧ (0 ≤ drops ∧ drops ≤ 1099511627776) ∧ (zs.length : Int) ≤ most) ∧ zs.all okp = true ∧ 0 ≤ tot zs ∧ tot zs ≤ mb := by
  simp only [right, Bool.and_eq_true, decide_eq_true_eq] at h
  exact ⟨hd_iff.1 h.1.1, h.1.2, (tot_bd h.1.2).1, h.2⟩

theorem RdI.tail {k : IntKind} {w : World} {g : Nat} {z : Int} {l : List Int} (h : RdI k w (some ⟨g, 0, none⟩) (z :: l)) : RdI k w (some ⟨g, 1, none⟩) l := by
  rcases h with h0 | ⟨b, off, hA, hc⟩
  · simp at h0
  · injection hA with hA
    injection hA with h1 h2 h3
    subst h1 h2
    refine .inr ⟨g, 1, rfl, fun j u hu => ?_⟩
    have := hc (j + 1) u (by simpa using hu)
    rw [show 1 + j = 0 + (j + 1) by omega]
    exact this
theorem RdI.len0 {k : IntKind} {w : World} {A : Option Addr} {l : List Int} (h : l.length = 0) : RdI k w A l := by
  rw [List.length_eq_zero_iff] at h
  subst h
  exact .inl rfl

theorem top4' (w : World) (A B C D E : Obj) : (((((w.alloc A).alloc B).alloc C).alloc D).alloc E).heap[w.heap.size + 1 + 1 + 1 + 1]? = some E := by
  have h := top0 ((((w.alloc A).alloc B).alloc C).alloc D) E
  have e : ((((w.alloc A).alloc B).alloc C).alloc D).heap.size = w.heap.size + 1 + 1 + 1 + 1 := by simp
  rwa [e] at h


theorem hbytes_tot {zs : List Int} (h : zs.all okp = true) : hbytes zs = tot zs := by simp [hbytes, h]
end Go.Proofs.Ytpknjfeiiaopgaa.Ring
