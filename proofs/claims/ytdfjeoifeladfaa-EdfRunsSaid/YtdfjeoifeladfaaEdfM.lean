/- Jobs in units of time, plain: which one is done next, what is too much. -/
import Derived.Test.YtdfjeoifeladfaaEA
namespace Go.Proofs.Ytdfjeoifeladfaa.Edf
open Go.RowKit Go.Proofs.Ytdfjeoifeladfaa.E

abbrev J := Int × Int
def cj (j : J) : List Value := [(.int .i64 j.1), (.int .i64 j.2)]
def jf (l : List J) (k : Nat) : Int := (l.getD k (0, 0)).1
def jb (l : List J) (k : Nat) : Int := (l.getD k (0, 0)).2
def dv (ds : List Int) (k : Nat) : Int := ds.getD k 0
theorem jf_at {l : List J} {k : Nat} (h : k < l.length) : jf l k = l[k].1 := by simp [jf, List.getD_eq_getElem?_getD, h]
theorem jb_at {l : List J} {k : Nat} (h : k < l.length) : jb l k = l[k].2 := by simp [jb, List.getD_eq_getElem?_getD, h]
theorem dv_at {l : List Int} {k : Nat} (h : k < l.length) : dv l k = l[k] := by simp [dv, List.getD_eq_getElem?_getD, h]
theorem getJ {l : List J} {j : Nat} (h : j < l.length) : ∀ i u, [(.int .i64 (jf l j)), (.int .i64 (jb l j))][i]? = some u → (l.flatMap cj)[j * 2 + i]? = some u := by
  rw [jf_at h, jb_at h]
  exact getF (c := cj) (fun _ => rfl) h
theorem getJb {l : List J} {j : Nat} (h : j < l.length) : (l.flatMap cj)[j * 2 + 1]? = some (.int .i64 (jb l j)) := getJ h 1 _ rfl
theorem getD1 {ds : List Int} {j : Nat} (h : j < ds.length) : (cI ds)[j]? = some (.int .i64 (dv ds j)) := by
  rw [dv_at h, cI, List.getElem?_map, List.getElem?_eq_getElem h]
  rfl
theorem dv_set {ds : List Int} {j k : Nat} {v : Int} (h : j < ds.length) : dv (ds.set j v) k = if k = j then v else dv ds k := by
  simp only [dv, List.getD_eq_getElem?_getD, List.getElem?_set]
  by_cases e : k = j
  · subst e; simp [h]
  · rw [if_neg (fun q => e q.symm), if_neg e]
theorem lenJ {l : List J} {n : Nat} (h : l.length = n) : (l.flatMap cj).length = n * 2 := lenF (fun _ => rfl) h

def okj (j : J) : Bool := decide (0 ≤ j.1) && (decide (j.1 ≤ j.2) && decide (j.2 ≤ 1000))
def good (l : List J) : Bool := decide (l.length ≤ 400) && l.all okj
def wrongOf (l : List J) : Int := bif good l then 0 else 2
theorem okj_iff {l : List J} {k : Nat} (h : k < l.length) : okj l[k] = true ↔ 0 ≤ jf l k ∧ jf l k ≤ jb l k ∧ jb l k ≤ 1000 := by
  rw [jf_at h, jb_at h]
  simp [okj]
theorem good_iff {l : List J} : good l = true ↔ l.length ≤ 400 ∧ ∀ k, k < l.length → 0 ≤ jf l k ∧ jf l k ≤ jb l k ∧ jb l k ≤ 1000 := by
  simp only [good, Bool.and_eq_true, decide_eq_true_eq, List.all_eq_true]
  refine and_congr Iff.rfl ⟨fun h k hk => (okj_iff hk).1 (h _ (List.getElem_mem hk)), fun h x hx => ?_⟩
  obtain ⟨k, hk, rfl⟩ := List.mem_iff_getElem.1 hx
  exact (okj_iff hk).2 (h k hk)
theorem wrong_t {l : List J} (h : l.length ≤ 400) (h2 : ∀ k, k < l.length → 0 ≤ jf l k ∧ jf l k ≤ jb l k ∧ jb l k ≤ 1000) : wrongOf l = 0 := by
  unfold wrongOf
  rw [good_iff.2 ⟨h, h2⟩]
  rfl
theorem wrong_len {l : List J} (h : 400 < l.length) : wrongOf l = 2 := by
  have : good l = false := by
    rw [← Bool.not_eq_true, good_iff]
    rintro ⟨h1, _⟩
    omega
  unfold wrongOf
  rw [this]
  rfl
theorem wrong_at {l : List J} {k : Nat} (hk : k < l.length) (h : jf l k < 0 ∨ 1000 < jb l k ∨ jb l k < jf l k) : wrongOf l = 2 := by
  have : good l = false := by
    rw [← Bool.not_eq_true, good_iff]
    rintro ⟨_, h1⟩
    have := h1 k hk
    omega
  unfold wrongOf
  rw [this]
  rfl

/-- May job k be done now? -/
def Elig (l : List J) (ds : List Int) (t : Int) (k : Nat) : Prop := dv ds k < 0 ∧ jf l k ≤ t ∧ t < jb l k
/-- Of those in S, the one that must be done the soonest; of several the first. -/
def Best (l : List J) (ds : List Int) (t : Int) (S : Nat → Prop) (b : Int) : Prop :=
  (b = -1 ∧ ∀ k, S k → ¬ Elig l ds t k) ∨
  (0 ≤ b ∧ S b.toNat ∧ Elig l ds t b.toNat ∧ ∀ k, S k → Elig l ds t k → jb l b.toNat < jb l k ∨ (jb l b.toNat = jb l k ∧ b.toNat ≤ k))
section
variable {l : List J} {ds : List Int} {t b b' : Int} {S S' : Nat → Prop} {k : Nat}
theorem best_none : Best l ds t (fun _ => False) (-1) := .inl ⟨rfl, fun _ h => h.elim⟩
theorem Best.cases (h : Best l ds t S b) : (b = -1 ∧ ∀ k, S k → ¬ Elig l ds t k) ∨ (0 ≤ b ∧ S b.toNat ∧ Elig l ds t b.toNat) := h.imp id fun h => ⟨h.1, h.2.1, h.2.2.1⟩
theorem Best.uniq (h : Best l ds t S b) (h' : Best l ds t S b') : b = b' := by
  rcases h with ⟨rfl, h1⟩ | ⟨h0, h1, h2, h3⟩
  · rcases h' with ⟨rfl, _⟩ | ⟨g0, g1, g2, _⟩
    · rfl
    · exact absurd g2 (h1 _ g1)
  · rcases h' with ⟨rfl, g1⟩ | ⟨g0, g1, g2, g3⟩
    · exact absurd h2 (g1 _ h1)
    · have e1 := h3 _ g1 g2
      have e2 := g3 _ h1 h2
      omega
theorem Best.congr (h : Best l ds t S b) (hs : ∀ j, Elig l ds t j → (S j ↔ S' j)) : Best l ds t S' b := by
  rcases h with ⟨rfl, h1⟩ | ⟨h0, h1, h2, h3⟩
  · exact .inl ⟨rfl, fun k hk he => h1 k ((hs k he).2 hk) he⟩
  · exact .inr ⟨h0, (hs _ h2).1 h1, h2, fun k hk he => h3 k ((hs k he).2 hk) he⟩
theorem Best.skip (h : Best l ds t S b) (hs : ∀ j, S' j ↔ S j ∨ j = k) (he : ¬ Elig l ds t k) : Best l ds t S' b :=
  h.congr fun j hj => ⟨fun q => (hs j).2 (.inl q), fun q => ((hs j).1 q).elim id fun e => absurd (e ▸ hj) he⟩
theorem Best.take (h : Best l ds t S b) (hs : ∀ j, S' j ↔ S j ∨ j = k) (he : Elig l ds t k) (hb : b < 0 ∨ jb l k < jb l b.toNat ∨ (jb l k = jb l b.toNat ∧ k ≤ b.toNat)) : Best l ds t S' (k : Int) := by
  refine .inr ⟨by omega, (hs _).2 (.inr (by omega)), by simpa using he, fun j hj hej => ?_⟩
  simp only [Int.toNat_natCast]
  rcases (hs j).1 hj with hj | rfl
  · rcases h with ⟨_, h1⟩ | ⟨h0, h1, h2, h3⟩
    · exact absurd hej (h1 j hj)
    · have := h3 j hj hej
      omega
  · exact .inr ⟨rfl, Nat.le_refl _⟩
theorem Best.keep (h : Best l ds t S b) (hs : ∀ j, S' j ↔ S j ∨ j = k) (h0 : 0 ≤ b) (hb : jb l b.toNat < jb l k ∨ (jb l b.toNat = jb l k ∧ b.toNat ≤ k)) : Best l ds t S' b := by
  rcases h with ⟨rfl, _⟩ | ⟨_, h1, h2, h3⟩
  · omega
  · refine .inr ⟨h0, (hs _).2 (.inl h1), h2, fun j hj hej => ?_⟩
    rcases (hs j).1 hj with hj | rfl
    · exact h3 j hj hej
    · exact hb
end
/-- What is done behind t units of time. -/
def Run (l : List J) (n : Nat) : Nat → List Int → Prop
  | 0, ds => ds = List.replicate n (-1)
  | t + 1, ds => ∃ d b, Run l n t d ∧ Best l d t (· < n) b ∧ ds = bif decide (b < 0) then d else d.set b.toNat t
theorem run_uniq {l : List J} {n : Nat} : ∀ {t : Nat} {d d' : List Int}, Run l n t d → Run l n t d' → d = d'
  | 0, _, _, h, h' => by rw [h, h']
  | t + 1, _, _, ⟨d, b, h1, h2, h3⟩, ⟨d', b', g1, g2, g3⟩ => by
    obtain rfl := run_uniq h1 g1
    obtain rfl := h2.uniq g2
    rw [h3, g3]
theorem run_len {l : List J} {n : Nat} : ∀ {t : Nat} {d : List Int}, Run l n t d → d.length = n
  | 0, _, h => by rw [h]; simp
  | t + 1, _, ⟨d, b, h1, _, h3⟩ => by
    have := run_len h1
    rw [h3]
    cases decide (b < 0) <;> simp [this]
theorem run_stay {l : List J} {n : Nat} {t : Nat} {d : List Int} (h : Run l n t d) (hd : ∀ k, k < n → 0 ≤ dv d k) : ∀ j, Run l n (t + j) d
  | 0 => h
  | j + 1 => ⟨d, -1, run_stay h hd j, .inl ⟨rfl, fun k hk he => by have := hd k hk; have := he.1; omega⟩, rfl⟩
theorem run_neg {l : List J} {n : Nat} {t : Nat} {d : List Int} {b : Int} (h : Run l n t d) (hb : Best l d t (· < n) b) (h0 : b < 0) : Run l n (t + 1) d := ⟨d, b, h, hb, by simp [h0]⟩
theorem run_set {l : List J} {n : Nat} {t : Nat} {d : List Int} {b : Int} (h : Run l n t d) (hb : Best l d t (· < n) b) (h0 : 0 ≤ b) : Run l n (t + 1) (d.set b.toNat t) := ⟨d, b, h, hb, by rw [show decide (b < 0) = false by simp; omega]; rfl⟩
theorem best_lt {l : List J} {n : Nat} {t b : Int} {d : List Int} (hb : Best l d t (· < n) b) (h0 : 0 ≤ b) : b.toNat < n := by
  rcases hb with ⟨rfl, _⟩ | ⟨_, h, _⟩
  · omega
  · exact h

/-- How many jobs lie between two moments, of the first k. -/
def cnt (l : List J) (a b : Int) : Nat → Nat
  | 0 => 0
  | k + 1 => cnt l a b k + (if a ≤ jf l k ∧ jb l k ≤ b then 1 else 0)
theorem cnt_le (l : List J) (a b : Int) : ∀ k, cnt l a b k ≤ k
  | 0 => Nat.le_refl _
  | k + 1 => by have := cnt_le l a b k; unfold cnt; split <;> omega
theorem cnt_t {l : List J} {a b : Int} {k : Nat} (h : a ≤ jf l k ∧ jb l k ≤ b) : cnt l a b (k + 1) = cnt l a b k + 1 := by rw [cnt, if_pos h]
theorem cnt_f {l : List J} {a b : Int} {k : Nat} (h : ¬ (a ≤ jf l k ∧ jb l k ≤ b)) : cnt l a b (k + 1) = cnt l a b k := by rw [cnt, if_neg h, Nat.add_zero]
/-- Is there too much between where i begins and where k must be done? -/
def Much (l : List J) (n i k : Nat) : Prop := jb l k - jf l i < (cnt l (jf l i) (jb l k) n : Int) ∧ 0 < cnt l (jf l i) (jb l k) n
def row (l : List J) (n i : Nat) : Nat → Option J
  | 0 => none
  | k + 1 => match row l n i k with | some v => some v | none => if jb l k - jf l i < (cnt l (jf l i) (jb l k) n : Int) ∧ 0 < cnt l (jf l i) (jb l k) n then some (jf l i, jb l k) else none
def scan (l : List J) (n : Nat) : Nat → Option J
  | 0 => none
  | i + 1 => match scan l n i with | some v => some v | none => row l n i n
theorem row_none {l : List J} {n i k : Nat} (h : row l n i k = none) (hm : ¬ Much l n i k) : row l n i (k + 1) = none := by
  simp only [row, h]
  exact if_neg hm
theorem row_some {l : List J} {n i k : Nat} (h : row l n i k = none) (hm : Much l n i k) : row l n i (k + 1) = some (jf l i, jb l k) := by
  simp only [row, h]
  exact if_pos hm
theorem row_old {l : List J} {n i k : Nat} {v : J} (h : row l n i k = some v) : row l n i (k + 1) = some v := by simp only [row, h]
theorem row_mono {l : List J} {n i k : Nat} {v : J} (h : row l n i k = some v) : ∀ j, row l n i (k + j) = some v
  | 0 => h
  | j + 1 => row_old (row_mono h j)
theorem scan_old {l : List J} {n i : Nat} {v : J} (h : scan l n i = some v) : scan l n (i + 1) = some v := by simp only [scan, h]
theorem scan_mono {l : List J} {n i : Nat} {v : J} (h : scan l n i = some v) : ∀ j, scan l n (i + j) = some v
  | 0 => h
  | j + 1 => scan_old (scan_mono h j)
theorem scan_row {l : List J} {n i : Nat} (h : scan l n i = none) : scan l n (i + 1) = row l n i n := by simp only [scan, h]
theorem scan_hit {l : List J} {n i k : Nat} (h : scan l n i = none) (hr : row l n i k = none) (hm : Much l n i k) (hi : i < n) (hk : k < n) : scan l n n = some (jf l i, jb l k) := by
  have h1 := row_mono (row_some hr hm) (n - (k + 1))
  rw [show k + 1 + (n - (k + 1)) = n by omega] at h1
  have h2 := scan_mono ((scan_row h).trans h1) (n - (i + 1))
  rwa [show i + 1 + (n - (i + 1)) = n by omega] at h2
/-- The two together. -/
def both (l : List J) (n i k : Nat) : Option J := match scan l n i with | some v => some v | none => row l n i k
theorem both_zero (l : List J) (n i : Nat) : both l n i 0 = scan l n i := by unfold both; cases scan l n i <;> rfl
theorem both_end (l : List J) (n i : Nat) : both l n i n = scan l n (i + 1) := by unfold both; simp only [scan]
theorem both_old {l : List J} {n i k : Nat} {v : J} (h : both l n i k = some v) : both l n i (k + 1) = some v := by
  unfold both at h ⊢
  cases hs : scan l n i with
  | some u => rw [hs] at h; exact h
  | none => rw [hs] at h; exact row_old h
theorem both_none {l : List J} {n i k : Nat} (h : both l n i k = none) (hm : ¬ Much l n i k) : both l n i (k + 1) = none := by
  unfold both at h ⊢
  cases hs : scan l n i with
  | some u => rw [hs] at h; cases h
  | none => rw [hs] at h; exact row_none h hm
theorem both_some {l : List J} {n i k : Nat} (h : both l n i k = none) (hm : Much l n i k) : both l n i (k + 1) = some (jf l i, jb l k) := by
  unfold both at h ⊢
  cases hs : scan l n i with
  | some u => rw [hs] at h; cases h
  | none => rw [hs] at h; exact row_some h hm
end Go.Proofs.Ytdfjeoifeladfaa.Edf
