/- Long division, a digit of the quotient guessed by two of the divisor's: plain lemmas, no program. -/
import Derived.Test.YtcpdelkamckmfaaBigF
namespace Go.Proofs.Ytcpdelkamckmfaa.Big

/-- What stands behind digit k. -/
theorem dval_hi {l : List Int} {k : Nat} (hd : Dig l) (hk : k ≤ l.length) : dval l = dval (l.take k) + pw k * dval (l.drop k) ∧ 0 ≤ dval (l.take k) ∧ dval (l.take k) < pw k := by
  refine ⟨dval_split l hk, dval_nonneg (hd.take k), ?_⟩
  have := dval_lt (hd.take k)
  rwa [List.length_take, Nat.min_eq_left hk] at this
theorem dval_top {l : List Int} {k : Nat} (hk : k < l.length) : dval (l.drop k) = l[k] + 4294967296 * dval (l.drop (k + 1)) := by
  rw [List.drop_eq_getElem_cons hk, dval]
theorem zero_above {l : List Int} {m : Nat} (hd : Dig l) (h : dval l < pw m) : ∀ j, m ≤ j → ∀ hj : j < l.length, l[j] = 0 := by
  intro j hj hl
  obtain ⟨h1, h2, _⟩ := dval_hi hd (show j ≤ l.length by omega)
  have h3 := dval_top hl
  have h4 := dval_nonneg (hd.drop (j + 1))
  have h5 := hd.get hl
  have h6 := pw_mono hj
  have h7 := pw_pos j
  rcases Int.lt_or_le 0 l[j] with h8 | h8
  · have h9 : pw j * 1 ≤ pw j * dval (l.drop j) := Int.mul_le_mul_of_nonneg_left (by omega) (by omega)
    omega
  · omega
theorem dval_bd {l : List Int} {m : Nat} (hd : Dig l) (hz : ∀ j, m ≤ j → ∀ hj : j < l.length, l[j] = 0) : dval l < pw m := by
  by_cases hm : m ≤ l.length
  · have h1 := dval_take_zero hm hz
    have h2 := dval_lt (hd.take m)
    rw [List.length_take, Nat.min_eq_left hm] at h2
    omega
  · have h2 := dval_lt hd
    have := pw_mono (show l.length ≤ m by omega)
    omega

/-- One digit of the quotient is to be found: u, of which nothing is above k + n; v of n digits; W is u from digit k on. -/
structure Win (u v : List Int) (n k : Nat) (V W : Int) : Prop where
  du : Dig u
  dv : Dig v
  lv : v.length = n
  n2 : 2 ≤ n
  lu : k + n < u.length
  eV : dval v = V
  eW : dval (u.drop k) = W
  lt : dval u < V * pw (k + 1)
section
variable {u v : List Int} {n k : Nat} {V W : Int}
theorem Win.V0 (h : Win u v n k V W) (hv : 0 < v[n - 1]'(by have := h.lv; have := h.n2; omega)) : 0 < V := by
  have h1 := dval_top (l := v) (k := n - 1) (by have := h.lv; have := h.n2; omega)
  have h2 := dval_hi h.dv (show n - 1 ≤ v.length by have := h.lv; omega)
  have h3 := dval_nonneg (h.dv.drop (n - 1 + 1))
  have h4 := pw_pos (n - 1)
  have h5 : pw (n - 1) * 1 ≤ pw (n - 1) * dval (v.drop (n - 1)) := Int.mul_le_mul_of_nonneg_left (by omega) (by omega)
  have := h.eV
  omega
theorem Win.hi (h : Win u v n k V W) : dval u = dval (u.take k) + pw k * W ∧ 0 ≤ dval (u.take k) ∧ dval (u.take k) < pw k ∧ 0 ≤ W ∧ W < V * 4294967296 := by
  have hl := h.lu
  obtain ⟨h1, h2, h3⟩ := dval_hi h.du (show k ≤ u.length by omega)
  rw [h.eW] at h1
  have h4 := dval_nonneg (h.du.drop k)
  rw [h.eW] at h4
  refine ⟨h1, h2, h3, h4, ?_⟩
  have h5 := h.lt
  rw [pw_succ, h1] at h5
  have hp := pw_pos k
  rcases Int.lt_or_le W (V * 4294967296) with h6 | h6
  · exact h6
  · have h7 : pw k * (V * 4294967296) ≤ pw k * W := Int.mul_le_mul_of_nonneg_left h6 (by omega)
    have h8 : V * (4294967296 * pw k) = pw k * (V * 4294967296) := by grind
    omega
theorem mul_lt_one {x y : Int} (hy : 0 ≤ y) (h : x < y) : x < y * 1 := by omega
theorem Win.above (h : Win u v n k V W) : dval u < pw (k + n + 1) ∧ V < pw n := by
  have h1 := dval_lt h.dv
  rw [h.eV, h.lv] at h1
  refine ⟨?_, h1⟩
  have h2 := h.lt
  have h3 := pw_pos (k + 1)
  have h4 : V * pw (k + 1) ≤ pw n * pw (k + 1) := Int.mul_le_mul_of_nonneg_right (by omega) (by omega)
  rw [← pw_add, show n + (k + 1) = k + n + 1 by omega] at h4
  omega
/-- The first digits of W and V. -/
theorem Win.lead (h : Win u v n k V W) (h1 : k + n < u.length) (h2 : k + n - 1 < u.length) (h3 : k + n - 2 < u.length) (h4 : n - 1 < v.length) (h5 : n - 2 < v.length) : ∃ a b : Int, 0 ≤ a ∧ a < pw (n - 2) ∧ 0 ≤ b ∧ b < pw (n - 2) ∧
    W = a + pw (n - 2) * ((u[k + n] * 4294967296 + u[k + n - 1]) * 4294967296 + u[k + n - 2]) ∧ V = b + pw (n - 2) * (v[n - 1] * 4294967296 + v[n - 2]) := by
  have hn := h.n2
  have hlv := h.lv
  have hz := zero_above h.du h.above.1
  -- the window
  have dW := h.du.drop k
  have hlen : (u.drop k).length = u.length - k := by simp
  obtain ⟨e1, e2, e3⟩ := dval_hi dW (show n - 2 ≤ (u.drop k).length by omega)
  obtain ⟨g1, g2, g3⟩ := dval_hi h.dv (show n - 2 ≤ v.length by omega)
  refine ⟨_, _, e2, e3, g2, g3, ?_, ?_⟩
  · rw [← h.eW, e1]
    congr 2
    rw [List.drop_drop, show k + (n - 2) = k + n - 2 by omega, dval_top h3, show k + n - 2 + 1 = k + n - 1 by omega, dval_top h2, show k + n - 1 + 1 = k + n by omega, dval_top h1]
    have h0 : dval (u.drop (k + n + 1)) = 0 := by
      have : u.drop (k + n + 1) = List.replicate (u.length - (k + n + 1)) 0 := by
        apply List.ext_getElem (by simp)
        intro i hi1 hi2
        rw [List.getElem_drop, List.getElem_replicate]
        exact hz _ (by omega) _
      rw [this, dval_zeros]
    rw [h0]
    omega
  · rw [← h.eV, g1]
    congr 2
    rw [dval_top h5, show n - 2 + 1 = n - 1 by omega, dval_top h4]
    have h0 : v.drop (n - 1 + 1) = [] := List.drop_eq_nil_of_le (by omega)
    rw [h0, dval]
    omega
end

/-- How the guess stands: no less than the digit, and what is left by the first digit. -/
structure Guess (W V top v1 : Int) (q r : Int) : Prop where
  sum : q * v1 + r = top
  r0 : 0 ≤ r
  ge : W / V ≤ q
  q0 : 0 ≤ q
theorem div_le_of {W V q : Int} (hV : 0 < V) (h : W < (q + 1) * V) : W / V ≤ q := by
  have := (Int.ediv_lt_iff_lt_mul hV).2 h
  omega
theorem lt_div_of {W V q : Int} (hV : 0 < V) (h : W < q * V) : W / V < q := (Int.ediv_lt_iff_lt_mul hV).2 h
section
variable {W V P a b u2 u1 u0 v1 v2 : Int}
/-- The first guess. -/
theorem guess_start (hP : 0 < P) (ha : a < P) (hb : 0 ≤ b) (hu1 : 0 ≤ u1 ∧ u1 < 4294967296) (hu2 : 0 ≤ u2) (hu0 : 0 ≤ u0 ∧ u0 < 4294967296) (hv1 : 0 < v1) (hv2 : 0 ≤ v2) (hW : W = a + P * ((u2 * 4294967296 + u1) * 4294967296 + u0)) (hV : V = b + P * (v1 * 4294967296 + v2)) (hV0 : 0 < V) (hW0 : 0 ≤ W) :
    Guess W V (u2 * 4294967296 + u1) v1 ((u2 * 4294967296 + u1) / v1) ((u2 * 4294967296 + u1) % v1) := by
  have ht : 0 ≤ u2 * 4294967296 + u1 := by omega
  generalize u2 * 4294967296 + u1 = t at *
  have hq0 : 0 ≤ t / v1 := Int.ediv_nonneg ht (by omega)
  refine ⟨by rw [Int.mul_comm]; exact Int.mul_ediv_add_emod t v1, Int.emod_nonneg _ (by omega), ?_, hq0⟩
  refine div_le_of hV0 ?_
  -- W < P * B * (t + 1) ≤ P * B * (q + 1) * v1 ≤ (q + 1) * V
  have h1 : t < (t / v1 + 1) * v1 := by
    have := Int.mul_ediv_add_emod t v1
    have := Int.emod_lt_of_pos t hv1
    rw [Int.add_mul, Int.mul_comm (t / v1)]
    omega
  generalize t / v1 = q at *
  have h2 : W < P * (4294967296 * (t + 1)) := by
    have : P * (t * 4294967296 + u0 + 1) ≤ P * (4294967296 * (t + 1)) := Int.mul_le_mul_of_nonneg_left (by omega) (by omega)
    rw [Int.mul_add] at this
    omega
  have h3 : P * (4294967296 * (t + 1)) ≤ P * (4294967296 * ((q + 1) * v1)) := Int.mul_le_mul_of_nonneg_left (by omega) (by omega)
  have h4 : P * (4294967296 * ((q + 1) * v1)) ≤ (q + 1) * V := by
    rw [hV]
    have h5 : P * (4294967296 * ((q + 1) * v1)) = (q + 1) * (P * (v1 * 4294967296)) := by grind
    have h6 : P * (v1 * 4294967296) ≤ b + P * (v1 * 4294967296 + v2) := by
      have : P * (v1 * 4294967296) ≤ P * (v1 * 4294967296 + v2) := Int.mul_le_mul_of_nonneg_left (by omega) (by omega)
      omega
    rw [h5]
    exact Int.mul_le_mul_of_nonneg_left h6 (by omega)
  omega
/-- One less, where the test says so. -/
theorem guess_step {q r : Int} (hP : 0 < P) (ha : a < P) (hb : 0 ≤ b) (hW : W = a + P * ((u2 * 4294967296 + u1) * 4294967296 + u0)) (hV : V = b + P * (v1 * 4294967296 + v2)) (hV0 : 0 < V) (hlt : W < V * 4294967296) (hW0 : 0 ≤ W) (hv1 : 0 < v1) (h : Guess W V (u2 * 4294967296 + u1) v1 q r)
    (ht : 4294967296 ≤ q ∨ r * 4294967296 + u0 < q * v2) : Guess W V (u2 * 4294967296 + u1) v1 (q - 1) (r + v1) ∧ 1 ≤ q := by
  obtain ⟨h1, h2, h3, h4⟩ := h
  have key : W / V < q := by
    rcases ht with ht | ht
    · have : W / V < 4294967296 := (Int.ediv_lt_iff_lt_mul hV0).2 (by rw [Int.mul_comm]; exact hlt)
      omega
    · refine lt_div_of hV0 ?_
      have e1 : (u2 * 4294967296 + u1) * 4294967296 + u0 + 1 ≤ q * (v1 * 4294967296 + v2) := by
        rw [← h1, Int.mul_add, Int.add_mul, ← Int.mul_assoc]
        omega
      have e2 : P * ((u2 * 4294967296 + u1) * 4294967296 + u0 + 1) ≤ P * (q * (v1 * 4294967296 + v2)) := Int.mul_le_mul_of_nonneg_left e1 (by omega)
      have e3 : P * (q * (v1 * 4294967296 + v2)) = q * (P * (v1 * 4294967296 + v2)) := by grind
      have e4 : q * (P * (v1 * 4294967296 + v2)) ≤ q * V := Int.mul_le_mul_of_nonneg_left (by omega) h4
      rw [Int.mul_add P] at e2
      omega
  have hq : 0 ≤ W / V := Int.ediv_nonneg hW0 (by omega)
  refine ⟨⟨by rw [Int.sub_mul]; omega, by omega, by omega, by omega⟩, by omega⟩
/-- Where the guessing ends: the digit, or one more. -/
theorem guess_end {q r : Int} (hP : 0 < P) (h0 : 0 ≤ a) (hb : b < P) (hb0 : 0 ≤ b) (hu0 : 0 ≤ u0) (hu1 : u1 < 4294967296) (hW : W = a + P * ((u2 * 4294967296 + u1) * 4294967296 + u0)) (hV : V = b + P * (v1 * 4294967296 + v2)) (hV0 : 0 < V) (hlt : W < V * 4294967296) (hv1 : 1 ≤ v1) (hv2 : 0 ≤ v2 ∧ v2 < 4294967296) (hu2 : u2 ≤ v1) (h : Guess W V (u2 * 4294967296 + u1) v1 q r)
    (ht : (q < 4294967296 ∧ q * v2 ≤ r * 4294967296 + u0) ∨ 4294967296 ≤ r) : q < 4294967296 ∧ q ≤ W / V + 1 := by
  obtain ⟨h1, h2, h3, h4⟩ := h
  have hq : q < 4294967296 := by
    rcases ht with ht | ht
    · exact ht.1
    · -- q * v1 = top - r < v1 * B
      have e1 : u2 * 4294967296 ≤ v1 * 4294967296 := by omega
      have e2 : q * v1 < 4294967296 * v1 := by omega
      exact Int.lt_of_mul_lt_mul_right e2 (by omega)
  have ht2 : q * v2 ≤ r * 4294967296 + u0 := by
    rcases ht with ht | ht
    · exact ht.2
    · have e1 : q * v2 ≤ 4294967296 * 4294967296 := by
        have := Int.mul_le_mul (show q ≤ 4294967296 by omega) (show v2 ≤ 4294967296 by omega) hv2.1 (by omega)
        exact this
      omega
  refine ⟨hq, ?_⟩
  -- q * V < W + V
  have e1 : q * (v1 * 4294967296 + v2) ≤ (u2 * 4294967296 + u1) * 4294967296 + u0 := by
    rw [← h1, Int.mul_add, Int.add_mul, ← Int.mul_assoc]
    omega
  have e2 : P * (q * (v1 * 4294967296 + v2)) ≤ W := by
    have := Int.mul_le_mul_of_nonneg_left e1 (show 0 ≤ P by omega)
    omega
  have e3 : q * b ≤ q * P := Int.mul_le_mul_of_nonneg_left (by omega) h4
  have e4 : q * P < V := by
    have f1 : q * P ≤ 4294967295 * P := Int.mul_le_mul_of_nonneg_right (by omega) (by omega)
    have f2 : P * 4294967296 ≤ P * (v1 * 4294967296 + v2) := Int.mul_le_mul_of_nonneg_left (by omega) (by omega)
    omega
  have e5 : q * V = q * b + P * (q * (v1 * 4294967296 + v2)) := by rw [hV]; grind
  have e6 : (q - 1) * V ≤ W := by rw [Int.sub_mul]; omega
  have := (Int.le_ediv_iff_mul_le hV0).2 e6
  omega
end
end Go.Proofs.Ytcpdelkamckmfaa.Big
