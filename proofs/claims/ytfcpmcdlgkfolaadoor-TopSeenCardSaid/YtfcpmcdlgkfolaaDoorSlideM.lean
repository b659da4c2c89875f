/- Slides: plain laws. -/
import Derived.Lib.Hide
namespace Go.Proofs.YtfcpmcdlgkfolaaDoor.Slide

def tot : List Int → Int
  | [] => 0
  | x :: l => x + tot l
theorem tot_append : ∀ l m : List Int, tot (l ++ m) = tot l + tot m
  | [], m => by simp [tot]
  | x :: l, m => by simp only [List.cons_append, tot, tot_append l m]; omega
theorem tot_take {l : List Int} {k : Nat} (h : k < l.length) : tot (l.take (k + 1)) = tot (l.take k) + l[k] := by
  rw [List.take_succ_eq_append_getElem h, tot_append]; simp [tot]
def uok (x : Int) : Bool := decide (-1073741824 ≤ x) && decide (x ≤ 1073741824)
theorem uok_iff {x : Int} : uok x = true ↔ -1073741824 ≤ x ∧ x ≤ 1073741824 := by simp [uok]
def bad (w : Int) (l : List Int) : Bool := decide (w < 1) || decide (400 < w) || decide (400 < l.length) || !l.all uok
theorem tot_bd : ∀ {l : List Int}, l.all uok = true → -(1073741824 * l.length) ≤ tot l ∧ tot l ≤ 1073741824 * l.length
  | [], _ => by simp [tot]
  | x :: l, h => by
    simp only [List.all_cons, Bool.and_eq_true] at h
    have h1 := uok_iff.1 h.1
    have h2 := tot_bd h.2
    simp only [tot, List.length_cons]
    omega
theorem tot_bd_take {l : List Int} (h : l.all uok = true) (k : Nat) : -(1073741824 * l.length) ≤ tot (l.take k) ∧ tot (l.take k) ≤ 1073741824 * l.length := by
  have h1 := tot_bd (l := l.take k) (by rw [List.all_eq_true] at h ⊢; exact fun x hx => h x (List.mem_of_mem_take hx))
  have h2 : (l.take k).length ≤ l.length := List.length_take_le' k l
  omega

/-- What the last w of the first k come to. -/
def ws (l : List Int) (w k : Nat) : Int := tot (l.take k) - tot (l.take (k - w))
theorem ws_zero (l : List Int) (w : Nat) : ws l w 0 = 0 := by simp [ws]
theorem ws_lt {l : List Int} {w k : Nat} (hk : k < l.length) (h : k < w) : ws l w (k + 1) = ws l w k + l[k] := by
  unfold ws
  rw [tot_take hk, show k + 1 - w = 0 by omega, show k - w = 0 by omega]; omega
theorem ws_ge {l : List Int} {w k : Nat} (hk : k < l.length) (h : w ≤ k) (h0 : 0 < w) : ws l w (k + 1) = ws l w k + l[k] - l[k - w]'(by omega) := by
  unfold ws
  rw [tot_take hk, show k + 1 - w = (k - w) + 1 by omega, tot_take (l := l) (k := k - w) (by omega)]; omega
theorem ws_bd {l : List Int} (h : l.all uok = true) (hl : l.length ≤ 400) (w k : Nat) : -1000000000000 ≤ ws l w k ∧ ws l w k ≤ 1000000000000 := by
  have h1 := tot_bd_take h k
  have h2 := tot_bd_take h (k - w)
  unfold ws
  omega
def sums (l : List Int) (w k : Nat) : List Int := (List.range k).map fun j => ws l w (j + 1)
theorem sums_succ (l : List Int) (w k : Nat) : sums l w (k + 1) = sums l w k ++ [ws l w (k + 1)] := by simp [sums, List.range_succ]
theorem sums_len (l : List Int) (w k : Nat) : (sums l w k).length = k := by simp [sums]
theorem sums_get (l : List Int) (w n k : Nat) (h : k < (sums l w n).length) : (sums l w n)[k] = ws l w (k + 1) := by simp [sums]

/-- The greatest. -/
def mx : List Int → Int
  | [] => 0
  | x :: l => l.foldl max x
theorem foldl_max (l : List Int) : ∀ x : Int, (l.foldl max x = x ∨ l.foldl max x ∈ l) ∧ x ≤ l.foldl max x ∧ ∀ y ∈ l, y ≤ l.foldl max x := by
  induction l with
  | nil => intro x; simp
  | cons y l ih =>
    intro x
    simp only [List.foldl_cons]
    obtain ⟨h1, h2, h3⟩ := ih (max x y)
    refine ⟨?_, by omega, fun z hz => ?_⟩
    · rcases h1 with h | h
      · rw [h]
        rcases Int.le_total x y with h4 | h4
        · right; rw [Int.max_eq_right h4]; simp
        · left; rw [Int.max_eq_left h4]
      · right; simp [h]
    · rcases List.mem_cons.1 hz with rfl | hz
      · omega
      · exact h3 z hz
theorem mx_spec {l : List Int} (h : l ≠ []) : mx l ∈ l ∧ ∀ y ∈ l, y ≤ mx l := by
  cases l with
  | nil => exact absurd rfl h
  | cons x l =>
    obtain ⟨h1, h2, h3⟩ := foldl_max l x
    refine ⟨?_, fun y hy => ?_⟩
    · rcases h1 with h | h
      · simp [mx, h]
      · simp [mx, h]
    · rcases List.mem_cons.1 hy with rfl | hy
      · exact h2
      · exact h3 y hy
theorem mx_unique {l : List Int} {m : Int} (h1 : m ∈ l) (h2 : ∀ y ∈ l, y ≤ m) : m = mx l := by
  obtain ⟨h3, h4⟩ := mx_spec (l := l) (by intro h; rw [h] at h1; cases h1)
  have := h2 _ h3
  have := h4 _ h1
  omega
theorem mx_take {l : List Int} {k : Nat} (h : k < l.length) (h0 : 0 < k) : mx (l.take (k + 1)) = max (mx (l.take k)) l[k] := by
  rw [List.take_succ_eq_append_getElem h]
  cases l with
  | nil => simp at h
  | cons x l =>
    obtain ⟨j, rfl⟩ : ∃ j, k = j + 1 := ⟨k - 1, by omega⟩
    simp only [List.take_succ_cons, List.cons_append, mx, List.foldl_append, List.foldl_cons, List.foldl_nil]
/-- The last w of the first k. -/
def win (l : List Int) (w k : Nat) : List Int := (l.take k).drop (k - w)
def maxs (l : List Int) (w k : Nat) : List Int := (List.range k).map fun j => mx (win l w (j + 1))
theorem maxs_succ (l : List Int) (w k : Nat) : maxs l w (k + 1) = maxs l w k ++ [mx (win l w (k + 1))] := by simp [maxs, List.range_succ]
theorem maxs_len (l : List Int) (w k : Nat) : (maxs l w k).length = k := by simp [maxs]
theorem maxs_get (l : List Int) (w n k : Nat) (h : k < (maxs l w n).length) : (maxs l w n)[k] = mx (win l w (k + 1)) := by simp [maxs]
theorem tot_win (l : List Int) (w k : Nat) : tot (win l w k) = ws l w k := by
  have : l.take k = l.take (k - w) ++ win l w k := by
    unfold win
    conv => lhs; rw [← List.take_append_drop (k - w) (l.take k)]
    rw [List.take_take, Nat.min_eq_left (by omega)]
  unfold ws
  rw [this, tot_append]
  omega
theorem win_len {l : List Int} {w k : Nat} (hk : k ≤ l.length) : (win l w k).length = k - (k - w) := by simp [win]; omega
theorem win_get {l : List Int} {w k j : Nat} (hk : k ≤ l.length) (hj : j < (win l w k).length) : (win l w k)[j] = l[k - w + j]'(by rw [win_len hk] at hj; omega) := by simp [win]

/-- The line of those that may be the greatest yet, behind k of them. -/
structure LineOK (l : List Int) (w k : Nat) (es : List (Int × Int)) : Prop where
  inw : ∀ i (h : i < es.length), ∃ j : Nat, es[i].1 = j ∧ j < k ∧ k - w ≤ j ∧ ∃ hj : j < l.length, es[i].2 = l[j]
  mono : ∀ i j (hi : i < j) (hj : j < es.length), (es[i]'(by omega)).1 < es[j].1 ∧ es[j].2 < (es[i]'(by omega)).2
  cov : ∀ j, j < k → k - w ≤ j → ∀ hj : j < l.length, ∃ i, ∃ h : i < es.length, (j : Int) ≤ es[i].1 ∧ l[j] ≤ es[i].2
theorem LineOK.nil (l : List Int) (w : Nat) : LineOK l w 0 [] := ⟨fun i h => by simp at h, fun i j _ h => by simp at h, fun j h => by omega⟩

theorem LineOK.lt_or {l : List Int} {w k : Nat} {es : List (Int × Int)} (h : LineOK l w k es) (hk : k < l.length) (hw : 0 < w) {m : Nat} (hm : m ≤ es.length)
    (h1 : ∀ i (hi : i < es.length), m ≤ i → es[i].2 ≤ l[k]) (h2 : ∀ hm0 : 0 < m, l[k] < (es[m - 1]'(by omega)).2) :
    let t := es.take m ++ [((k : Int), l[k])]
    0 < t.length ∧ (∀ h0 : 0 < t.length, (t[0].1 ≤ (k : Int) - w → LineOK l w (k + 1) t.tail ∧ 0 < t.tail.length) ∧ (¬ t[0].1 ≤ (k : Int) - w → LineOK l w (k + 1) t)) := by
  intro t
  have htl : t.length = m + 1 := by simp [t]; omega
  have tlt : ∀ i (hi : i < m), t[i]'(by omega) = es[i]'(by omega) := fun i hi => by
    simp only [t]
    rw [List.getElem_append_left (by simp; omega)]
    simp
  have tm : t[m]'(by omega) = ((k : Int), l[k]) := by
    simp only [t]
    rw [List.getElem_append_right (by simp; omega)]
    simp [Nat.min_eq_left hm]
  -- each entry of t
  have hin : ∀ i (hi : i < t.length), ∃ j : Nat, t[i].1 = j ∧ j < k + 1 ∧ k - w ≤ j ∧ ∃ hj : j < l.length, t[i].2 = l[j] := fun i hi => by
    rcases Nat.lt_or_ge i m with h3 | h3
    · obtain ⟨j, a1, a2, a3, a4, a5⟩ := h.inw i (by omega)
      rw [tlt i h3]
      exact ⟨j, a1, by omega, a3, a4, a5⟩
    · obtain rfl : i = m := by omega
      rw [tm]
      exact ⟨k, rfl, by omega, by omega, hk, rfl⟩
  have hmono : ∀ i j (hi : i < j) (hj : j < t.length), (t[i]'(by omega)).1 < t[j].1 ∧ t[j].2 < (t[i]'(by omega)).2 := fun i j hi hj => by
    rcases Nat.lt_or_ge j m with h3 | h3
    · rw [tlt i (by omega), tlt j h3]
      exact h.mono i j hi (by omega)
    · obtain rfl : j = m := by omega
      rw [tlt i hi, tm]
      obtain ⟨j', a1, a2, a3, a4, a5⟩ := h.inw i (by omega)
      refine ⟨by rw [a1]; show (j' : Int) < (k : Int); omega, ?_⟩
      have h4 := h2 (by omega)
      show l[k] < _
      rcases Nat.lt_or_ge i (j - 1) with h5 | h5
      · have := (h.mono i (j - 1) h5 (by omega)).2
        omega
      · obtain rfl : i = j - 1 := by omega
        exact h4
  have hcov : ∀ j, j < k + 1 → k - w ≤ j → ∀ hj : j < l.length, ∃ i, ∃ h : i < t.length, (j : Int) ≤ t[i].1 ∧ l[j] ≤ t[i].2 := fun j h3 h4 hj => by
    rcases Nat.lt_or_ge j k with h5 | h5
    · obtain ⟨i, hi, a1, a2⟩ := h.cov j h5 h4 hj
      rcases Nat.lt_or_ge i m with h6 | h6
      · exact ⟨i, by omega, by rw [tlt i h6]; exact a1, by rw [tlt i h6]; exact a2⟩
      · refine ⟨m, by omega, by rw [tm]; show (j : Int) ≤ k; omega, by rw [tm]; show l[j] ≤ l[k]; have := h1 i hi h6; omega⟩
    · obtain rfl : j = k := by omega
      exact ⟨m, by omega, by rw [tm]; exact Int.le_refl _, by rw [tm]; exact Int.le_refl _⟩
  refine ⟨by omega, fun h0 => ⟨fun hle => ?_, fun hgt => ?_⟩⟩
  · have tt : ∀ i (hi : i < t.tail.length), t.tail[i] = t[i + 1]'(by rw [List.length_tail] at hi; omega) := fun i hi => by rw [List.getElem_tail]
    have hlt : t.tail.length = m := by rw [List.length_tail, htl]; omega
    have hm0 : 0 < m := by
      rcases Nat.eq_zero_or_pos m with h3 | h3
      · subst h3
        rw [show t[0] = ((k : Int), l[k]) from tm] at hle
        have : (k : Int) ≤ (k : Int) - w := hle
        omega
      · exact h3
    refine ⟨⟨fun i hi => ?_, fun i j hi hj => ?_, fun j h3 h4 hj => ?_⟩, by omega⟩
    · rw [tt i hi]
      obtain ⟨j, a1, a2, a3, a4⟩ := hin (i + 1) (by omega)
      obtain ⟨j0, b1, b2, b3, b4⟩ := hin 0 (by omega)
      have := (hmono 0 (i + 1) (by omega) (by omega)).1
      exact ⟨j, a1, a2, by omega, a4⟩
    · rw [tt i (by omega), tt j hj]
      exact hmono (i + 1) (j + 1) (by omega) (by omega)
    · obtain ⟨i, hi, a1, a2⟩ := hcov j h3 (by omega) hj
      have hi0 : i ≠ 0 := fun e => by
        subst e
        omega
      exact ⟨i - 1, by omega, by rw [tt]; simp only [show i - 1 + 1 = i by omega]; exact a1, by rw [tt]; simp only [show i - 1 + 1 = i by omega]; exact a2⟩
  · refine ⟨fun i hi => ?_, hmono, fun j h3 h4 hj => hcov j h3 (by omega) hj⟩
    obtain ⟨j, a1, a2, a3, a4⟩ := hin i hi
    obtain ⟨j0, b1, b2, b3, b4⟩ := hin 0 (by omega)
    refine ⟨j, a1, a2, ?_, a4⟩
    rcases Nat.eq_zero_or_pos i with h5 | h5
    · subst h5; omega
    · have := (hmono 0 i h5 hi).1
      omega

/-- The first of the line is the greatest of the last. -/
theorem LineOK.front {l : List Int} {w k : Nat} {es : List (Int × Int)} (h : LineOK l w k es) (hk : k ≤ l.length) (h0 : 0 < es.length) : es[0].2 = mx (win l w k) := by
  obtain ⟨j, a1, a2, a3, a4, a5⟩ := h.inw 0 h0
  refine mx_unique ?_ fun y hy => ?_
  · rw [a5]
    have hl := win_len (l := l) (w := w) hk
    rw [List.mem_iff_getElem]
    exact ⟨j - (k - w), by omega, by rw [win_get hk]; simp only [show k - w + (j - (k - w)) = j by omega]⟩
  · obtain ⟨i, hi, rfl⟩ := List.mem_iff_getElem.1 hy
    rw [win_get hk]
    have hl := win_len (l := l) (w := w) hk
    obtain ⟨i', hi', b1, b2⟩ := h.cov (k - w + i) (by omega) (by omega) (by omega)
    rcases Nat.eq_zero_or_pos i' with h5 | h5
    · subst h5; exact b2
    · have := (h.mono 0 i' h5 hi').2
      omega
end Go.Proofs.YtfcpmcdlgkfolaaDoor.Slide
