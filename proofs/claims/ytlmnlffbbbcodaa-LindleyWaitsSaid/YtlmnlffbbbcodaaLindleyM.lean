/- Plain laws on waiting times: what the program reckons step by step is what the reference reckons for each packet by itself. -/
import Derived.Test.YtlmnlffbbbcodaaMem
namespace Go.Proofs.Ytlmnlffbbbcodaa.Lindley

def badS (s : Int × Int) : Bool := decide (s.1 < 0) || decide (1048576 < s.1) || decide (s.2 < 0) || decide (1048576 < s.2)
theorem badS_false {s : Int × Int} (h : badS s = false) : 0 ≤ s.1 ∧ s.1 ≤ 1048576 ∧ 0 ≤ s.2 ∧ s.2 ≤ 1048576 := by
  simp [badS] at h
  omega

/-- What is wrong with packets behind one that came at 'last'. -/
def wrongFrom (last : Int) : List (Int × Int) → Int
  | [] => 0
  | s :: t => if badS s then 2 else if s.1 < last then 1 else wrongFrom s.1 t

def wrongX (l : List (Int × Int)) : Int := if 400 < l.length then 2 else wrongFrom 0 l

/-- When the one ahead of number k came. -/
def prev (l : List (Int × Int)) : Nat → Int
  | 0 => 0
  | k + 1 => (l.getD k (0, 0)).1

theorem getD_eq {l : List (Int × Int)} {k : Nat} (h : k < l.length) : l.getD k (0, 0) = l[k] := by
  simp [List.getD, List.getElem?_eq_getElem h]

theorem wrong_step {l : List (Int × Int)} {k : Nat} (h : k < l.length) (last : Int) : wrongFrom last (l.drop k) = if badS l[k] then 2 else if l[k].1 < last then 1 else wrongFrom l[k].1 (l.drop (k + 1)) := by
  rw [List.drop_eq_getElem_cons h]
  rfl

theorem wrong_end {l : List (Int × Int)} (last : Int) : wrongFrom last (l.drop l.length) = 0 := by
  rw [List.drop_length]; rfl

theorem wrong_ok : ∀ {l : List (Int × Int)} {last : Int}, wrongFrom last l = 0 → ∀ (k : Nat) (h : k < l.length), badS l[k] = false ∧ (k = 0 → last ≤ l[k].1) ∧ prev l k ≤ l[k].1 ∨ (k = 0 ∧ badS l[k] = false ∧ last ≤ l[k].1)
  | [], _, _, k, h => by simp at h
  | s :: t, last, h0, k, h => by
    unfold wrongFrom at h0
    by_cases hb : badS s = true
    · simp [hb] at h0
    · rw [if_neg hb] at h0
      by_cases hl : s.1 < last
      · simp [hl] at h0
      · rw [if_neg hl] at h0
        cases k with
        | zero => exact .inr ⟨rfl, by simpa using hb, by simpa using hl⟩
        | succ k =>
          left
          have hk : k < t.length := by simpa using h
          rcases wrong_ok h0 k hk with ⟨h1, h2, h3⟩ | ⟨rfl, h1, h2⟩
          · refine ⟨by simpa using h1, by omega, ?_⟩
            cases k with
            | zero => simpa [prev, List.getD] using h2 rfl
            | succ j => simpa [prev, List.getD] using h3
          · exact ⟨by simpa using h1, by omega, by simpa [prev, List.getD] using h2⟩

/-- Packets that nothing is wrong with. -/
structure Good (l : List (Int × Int)) : Prop where
  len : l.length ≤ 400
  ok : ∀ (k : Nat) (h : k < l.length), 0 ≤ l[k].1 ∧ l[k].1 ≤ 1048576 ∧ 0 ≤ l[k].2 ∧ l[k].2 ≤ 1048576
  rise : ∀ (k : Nat) (h : k + 1 < l.length), l[k].1 ≤ l[k + 1].1

theorem good_of {l : List (Int × Int)} (h : wrongX l = 0) : Good l := by
  unfold wrongX at h
  split at h
  · cases h
  · rename_i hl
    refine ⟨by omega, fun k hk => ?_, fun k hk => ?_⟩
    · rcases wrong_ok h k hk with ⟨h1, _, _⟩ | ⟨_, h1, _⟩ <;> exact badS_false h1
    · rcases wrong_ok h (k + 1) hk with ⟨_, _, h3⟩ | ⟨h1, _⟩
      · rw [prev, getD_eq (by omega)] at h3
        exact h3
      · omega

theorem Good.rise_all {l : List (Int × Int)} (g : Good l) : ∀ (j i : Nat) (hj : j < l.length) (hi : i ≤ j), (l[i]'(by omega)).1 ≤ l[j].1
  | 0, i, hj, hi => by obtain rfl : i = 0 := by omega
                       exact Int.le_refl _
  | j + 1, i, hj, hi => by
    by_cases h : i = j + 1
    · subst h; exact Int.le_refl _
    · exact Int.le_trans (g.rise_all j i (by omega) (by omega)) (g.rise j hj)

/-- How long each one waits. -/
def waits (free : Int) : List (Int × Int) → List Int
  | [] => []
  | s :: t => (max free s.1 - s.1) :: waits (max free s.1 + s.2) t

theorem waits_length : ∀ (l : List (Int × Int)) (free : Int), (waits free l).length = l.length
  | [], _ => rfl
  | s :: t, free => by simp [waits, waits_length t]

/-- From when on the row is free, when k are done. -/
def freeAt (l : List (Int × Int)) : Nat → Int
  | 0 => 0
  | k + 1 => max (freeAt l k) (l.getD k (0, 0)).1 + (l.getD k (0, 0)).2

theorem waits_take (l : List (Int × Int)) : ∀ (k : Nat), k ≤ l.length → waits 0 l = (waits 0 l).take k ++ waits (freeAt l k) (l.drop k)
  | 0, _ => by simp [freeAt]
  | k + 1, h => by
    have ih := waits_take l k (by omega)
    have hk : k < l.length := by omega
    rw [List.drop_eq_getElem_cons hk, waits] at ih
    have hlen : ((waits 0 l).take k).length = k := by rw [List.length_take, waits_length]; omega
    have e : (waits 0 l).take (k + 1) = (waits 0 l).take k ++ [max (freeAt l k) l[k].1 - l[k].1] := by
      conv => lhs; rw [ih]
      rw [List.take_append, hlen]
      simp [show k + 1 - k = 1 from by omega, List.take_of_length_le (Nat.le_of_lt (show ((waits 0 l).take k).length < k + 1 by omega))]
    rw [e, List.append_assoc, freeAt, getD_eq hk]
    simpa using ih

theorem waits_get (l : List (Int × Int)) (k : Nat) (h : k < l.length) : (waits 0 l)[k]? = some (max (freeAt l k) l[k].1 - l[k].1) := by
  have hk := waits_take l k (by omega)
  rw [List.drop_eq_getElem_cons h, waits] at hk
  have hlen : ((waits 0 l).take k).length = k := by rw [List.length_take, waits_length]; omega
  rw [hk, List.getElem?_append_right (by omega), hlen]
  simp

theorem freeAt_bd {l : List (Int × Int)} (g : Good l) : ∀ k, k ≤ l.length → 0 ≤ freeAt l k ∧ freeAt l k ≤ 1048576 + 1048576 * k
  | 0, _ => by simp [freeAt]
  | k + 1, h => by
    have ih := freeAt_bd g k (by omega)
    have hk : k < l.length := by omega
    have := g.ok k hk
    rw [freeAt, getD_eq hk]
    omega

/-- What one waits, by the rows of packets ahead: the most, and the bytes, of the last m ahead of number k. -/
def ahead (l : List (Int × Int)) (k : Nat) : Nat → Int × Int
  | 0 => (0, 0)
  | m + 1 => (max (ahead l k m).1 ((ahead l k m).2 + (l.getD (k - 1 - m) (0, 0)).2 - ((l.getD k (0, 0)).1 - (l.getD (k - 1 - m) (0, 0)).1)), (ahead l k m).2 + (l.getD (k - 1 - m) (0, 0)).2)

def xwait (l : List (Int × Int)) (k : Nat) : Int := (ahead l k k).1

theorem ahead_succ (l : List (Int × Int)) (k : Nat) : ∀ m, m ≤ k → (ahead l (k + 1) (m + 1)).1 = max 0 ((ahead l k m).1 + ((l.getD k (0, 0)).2 - ((l.getD (k + 1) (0, 0)).1 - (l.getD k (0, 0)).1))) ∧
    (ahead l (k + 1) (m + 1)).2 = (l.getD k (0, 0)).2 + (ahead l k m).2
  | 0, _ => by simp [ahead]
  | m + 1, h => by
    obtain ⟨h1, h2⟩ := ahead_succ l k m (by omega)
    rw [ahead, h1, h2, ahead, show k + 1 - 1 - (m + 1) = k - 1 - m from by omega]
    simp only
    constructor <;> omega

theorem xwait_succ (l : List (Int × Int)) (k : Nat) : xwait l (k + 1) = max 0 (xwait l k + ((l.getD k (0, 0)).2 - ((l.getD (k + 1) (0, 0)).1 - (l.getD k (0, 0)).1))) :=
  (ahead_succ l k k (Nat.le_refl _)).1

theorem xwait_eq {l : List (Int × Int)} (g : Good l) : ∀ k (h : k < l.length), xwait l k = max (freeAt l k) l[k].1 - l[k].1
  | 0, h => by
    have := g.ok 0 h
    simp only [xwait, ahead, freeAt]
    omega
  | k + 1, h => by
    have hk : k < l.length := by omega
    rw [xwait_succ, xwait_eq g k hk, freeAt, getD_eq hk, getD_eq h]
    omega

theorem ahead_bd {l : List (Int × Int)} (g : Good l) (k : Nat) (hk : k < l.length) : ∀ m, m ≤ k → 0 ≤ (ahead l k m).1 ∧ (ahead l k m).1 ≤ 1048576 * m ∧ 0 ≤ (ahead l k m).2 ∧ (ahead l k m).2 ≤ 1048576 * m
  | 0, _ => by simp [ahead]
  | m + 1, h => by
    have ih := ahead_bd g k hk m (by omega)
    have hj : k - 1 - m < l.length := by omega
    have h1 := g.ok _ hj
    have h2 := g.rise_all k (k - 1 - m) hk (by omega)
    rw [ahead, getD_eq hj, getD_eq hk]
    simp only
    omega

/-- What has not gone of number j at a time. -/
def leftOf (l : List (Int × Int)) (t : Int) (j : Nat) : Int :=
  (l.getD j (0, 0)).2 - (if (l.getD j (0, 0)).1 + xwait l j < t then min (t - ((l.getD j (0, 0)).1 + xwait l j)) (l.getD j (0, 0)).2 else 0)

def xwork (l : List (Int × Int)) (t : Int) : Nat → Int
  | 0 => 0
  | k + 1 => xwork l t k + (if t < (l.getD k (0, 0)).1 then 0 else leftOf l t k)

/-- How many have come by a time, of those that rise. -/
theorem xwork_past {l : List (Int × Int)} (g : Good l) (t : Int) : ∀ k, (hk : k < l.length) → l[k].1 ≤ t → xwork l t (k + 1) = max (freeAt l (k + 1) - t) 0
  | 0, hk, ht => by
    have := g.ok 0 hk
    simp only [xwork, leftOf, getD_eq hk, freeAt, xwait, ahead]
    rw [if_neg (by omega)]
    split <;> omega
  | k + 1, hk, ht => by
    have hk' : k < l.length := by omega
    have hr := g.rise k hk
    have ih := xwork_past g t k hk' (by omega)
    have h1 := g.ok _ hk
    rw [xwork, ih, leftOf, getD_eq hk, if_neg (by omega), xwait_eq g (k + 1) hk, show freeAt l (k + 1 + 1) = max (freeAt l (k + 1)) (l.getD (k + 1) (0, 0)).1 + (l.getD (k + 1) (0, 0)).2 from rfl, getD_eq hk]
    split <;> omega

theorem xwork_later {l : List (Int × Int)} (g : Good l) (t : Int) (k : Nat) (hk : k < l.length) (ht : t < l[k].1) : ∀ m, k + m ≤ l.length → xwork l t (k + m) = xwork l t k
  | 0, _ => rfl
  | m + 1, h => by
    have hm : k + m < l.length := by omega
    have := g.rise_all (k + m) k hm (by omega)
    rw [show k + (m + 1) = (k + m) + 1 from by omega, xwork, getD_eq hm, if_pos (by omega), xwork_later g t k hk ht m (by omega)]
    omega

/-- How many are there at a time. -/
def there (l : List (Int × Int)) (t : Int) : Nat → Int
  | 0 => 0
  | k + 1 => there l t k + (if (l.getD k (0, 0)).1 ≤ t ∧ t < (l.getD k (0, 0)).1 + xwait l k + (l.getD k (0, 0)).2 then 1 else 0)

theorem there_bd (l : List (Int × Int)) (t : Int) : ∀ k, 0 ≤ there l t k ∧ there l t k ≤ k
  | 0 => by simp [there]
  | k + 1 => by
    have := there_bd l t k
    rw [there]
    split <;> omega


/-- What has not gone of all, by what is reckoned up to the first one that comes later. -/
theorem xwork_end {l : List (Int × Int)} (g : Good l) (t : Int) (k : Nat) (hk : k ≤ l.length) (h1 : ∀ h : k < l.length, t < l[k].1) (h2 : ∀ j, (hj : j < k) → (l[j]'(by omega)).1 ≤ t) :
    xwork l t l.length = if k = 0 then 0 else max (freeAt l k - t) 0 := by
  have e : xwork l t l.length = xwork l t k := by
    rcases Nat.lt_or_ge k l.length with h | h
    · have := xwork_later g t k h (h1 h) (l.length - k) (by omega)
      rwa [show k + (l.length - k) = l.length from by omega] at this
    · rw [show k = l.length from by omega]
  rw [e]
  cases k with
  | zero => rfl
  | succ j => rw [if_neg (by omega), xwork_past g t j (by omega) (h2 j (by omega))]

theorem prev_bd {l : List (Int × Int)} (g : Good l) (k : Nat) (hk : k ≤ l.length) : 0 ≤ prev l k ∧ prev l k ≤ 1048576 := by
  cases k with
  | zero => simp [prev]
  | succ j =>
    have := g.ok j (by omega)
    rw [prev, getD_eq (by omega)]
    omega

theorem prev_free {l : List (Int × Int)} (g : Good l) (k : Nat) (hk : k ≤ l.length) : prev l k ≤ freeAt l k := by
  cases k with
  | zero => simp [prev, freeAt]
  | succ j =>
    have := g.ok j (by omega)
    rw [prev, freeAt, getD_eq (by omega)]
    omega

theorem prev_rise {l : List (Int × Int)} (g : Good l) (k : Nat) (hk : k < l.length) : prev l k ≤ l[k].1 := by
  cases k with
  | zero => have := g.ok 0 hk; simp only [prev]; omega
  | succ j => rw [prev, getD_eq (by omega)]; exact g.rise j hk

theorem xwork_bd (l : List (Int × Int)) (g : Good l) (t : Int) : ∀ k, k ≤ l.length → 0 ≤ xwork l t k ∧ xwork l t k ≤ 1048576 * k
  | 0, _ => by simp [xwork]
  | k + 1, h => by
    have := xwork_bd l g t k (by omega)
    have hk : k < l.length := by omega
    have h2 := g.ok k hk
    rw [xwork, leftOf, getD_eq hk]
    split
    · omega
    · split <;> omega

end Go.Proofs.Ytlmnlffbbbcodaa.Lindley
