/- Long division: a multiple is taken away, or given back; digit by digit. Plain lemmas. -/
import Derived.Test.YtcpdelkamckmfaaKnM
namespace Go.Proofs.Ytcpdelkamckmfaa.Big

/-- q times v is taken away at k, as far as digit i: c is to be carried, b to be borrowed. -/
structure MsInv (u us v : List Int) (k i : Nat) (q c b : Int) : Prop where
  len : us.length = u.length
  dg : Dig us
  same : ∀ j, k + i ≤ j → ∀ (h : j < us.length) (h' : j < u.length), us[j] = u[j]
  c0 : 0 ≤ c ∧ c < 4294967296
  b0 : 0 ≤ b ∧ b ≤ 1
  val : dval us = dval u - pw k * (q * dval (v.take i)) + pw (k + i) * (c + b)
section
variable {u us v zs : List Int} {k i n : Nat} {q c b : Int}
theorem ms_start (hu : Dig u) : MsInv u u v k 0 q 0 0 := ⟨rfl, hu, fun _ _ _ _ => rfl, by omega, by omega, by simp [dval]⟩
theorem ms_step (h : MsInv u us v k i q c b) (hv : Dig v) (hi : i < v.length) (hk : k + i < u.length) (hq : 0 ≤ q ∧ q < 4294967296) {t w : Int} (ht : t = c + q * v[i]) (hw : w = u[k + i] - t % 4294967296 - b) :
    0 ≤ t ∧ t < 18446744073709551616 ∧ -8589934592 ≤ w ∧ w ≤ 8589934592 ∧ MsInv u (us.set (k + i) (w % 4294967296)) v k (i + 1) q (t / 4294967296) (if w < 0 then 1 else 0) := by
  obtain ⟨h1, h2, h3, h4, h5, h6⟩ := h
  have hvi := hv.get hi
  have hkl : k + i < us.length := by omega
  have hui := h2.get hkl
  have he := h3 (k + i) (Nat.le_refl _) hkl hk
  rw [he] at hui
  have p0 : 0 ≤ q * v[i] := Int.mul_nonneg hq.1 hvi.1
  have p1 : q * v[i] ≤ 4294967295 * 4294967295 := Int.mul_le_mul (by omega) (by omega) hvi.1 (by omega)
  have w0 : -4294967296 ≤ w := by omega
  have w1 : w < 4294967296 := by omega
  refine ⟨by omega, by omega, by omega, by omega, by simpa using h1, h2.set _ (by omega), fun j hj hl hl' => ?_, by omega, by split <;> omega, ?_⟩
  · rw [List.getElem_set_ne (by omega)]
    exact h3 j (by omega) _ _
  · rw [dval_set hkl, he, h6, dval_take_succ hi, show k + (i + 1) = k + i + 1 by omega, pw_succ, pw_add]
    have e1 : w % 4294967296 = w + 4294967296 * (if w < 0 then 1 else 0) := by split <;> omega
    have e2 : t % 4294967296 = t - 4294967296 * (t / 4294967296) := by omega
    rw [e1, hw, e2]
    generalize (if u[k + i] - (t - 4294967296 * (t / 4294967296)) - b < 0 then (1 : Int) else 0) = bb at *
    have e3 : (if u[k + i] - t % 4294967296 - b < 0 then (1 : Int) else 0) = (if w < 0 then 1 else 0) := by rw [hw]
    generalize t / 4294967296 = tt at *
    generalize dval (v.take i) = X at *
    generalize dval u = U at *
    subst ht
    grind
/-- The digit at the top. -/
theorem ms_top (h : MsInv u us v k n q c b) (hlv : v.length = n) (hk : k + n < u.length) {w : Int} (hw : w = u[k + n] - c - b) :
    -8589934592 ≤ w ∧ w ≤ 8589934592 ∧ ∃ us', us' = us.set (k + n) (w % 4294967296) ∧ us'.length = u.length ∧ Dig us' ∧ (∀ j, k + n + 1 ≤ j → ∀ (h : j < us'.length) (h' : j < u.length), us'[j] = u[j]) ∧ dval us' = dval u - pw k * (q * dval v) + (if w < 0 then pw (k + n + 1) else 0) := by
  obtain ⟨h1, h2, h3, h4, h5, h6⟩ := h
  have hkl : k + n < us.length := by omega
  have hui := h2.get hkl
  have he := h3 (k + n) (Nat.le_refl _) hkl hk
  rw [he] at hui
  refine ⟨by omega, by omega, _, rfl, by simpa using h1, h2.set _ (by omega), fun j hj hl hl' => ?_, ?_⟩
  · rw [List.getElem_set_ne (by omega)]
    exact h3 j (by omega) _ _
  · rw [List.take_of_length_le (by omega)] at h6
    rw [dval_set hkl, he, h6, pw_succ]
    by_cases hw0 : w < 0
    · rw [if_pos hw0]
      have e1 : w % 4294967296 = w + 4294967296 := by omega
      rw [e1, hw]
      grind
    · rw [if_neg hw0]
      have e1 : w % 4294967296 = w := by omega
      rw [e1, hw]
      grind

/-- v is given back at k, as far as digit i. -/
structure AbInv (u us v : List Int) (k i : Nat) (c : Int) : Prop where
  len : us.length = u.length
  dg : Dig us
  same : ∀ j, k + i ≤ j → ∀ (h : j < us.length) (h' : j < u.length), us[j] = u[j]
  c0 : 0 ≤ c ∧ c ≤ 1
  val : dval us + pw (k + i) * c = dval u + pw k * dval (v.take i)
theorem ab_start (hu : Dig u) : AbInv u u v k 0 0 := ⟨rfl, hu, fun _ _ _ _ => rfl, by omega, by simp [dval]⟩
theorem ab_step (h : AbInv u us v k i c) (hv : Dig v) (hi : i < v.length) (hk : k + i < u.length) {t : Int} (ht : t = c + (u[k + i] + v[i])) :
    0 ≤ t ∧ t < 18446744073709551616 ∧ AbInv u (us.set (k + i) (t % 4294967296)) v k (i + 1) (t / 4294967296) := by
  obtain ⟨h1, h2, h3, h4, h6⟩ := h
  have hvi := hv.get hi
  have hkl : k + i < us.length := by omega
  have hui := h2.get hkl
  have he := h3 (k + i) (Nat.le_refl _) hkl hk
  rw [he] at hui
  refine ⟨by omega, by omega, by simpa using h1, h2.set _ (by omega), fun j hj hl hl' => ?_, by omega, ?_⟩
  · rw [List.getElem_set_ne (by omega)]
    exact h3 j (by omega) _ _
  · rw [dval_set hkl, he, dval_take_succ hi, show k + (i + 1) = k + i + 1 by omega, pw_succ]
    have e2 : t % 4294967296 = t - 4294967296 * (t / 4294967296) := by omega
    rw [e2]
    have e3 := pw_add k i
    generalize t / 4294967296 = tt at *
    generalize dval (v.take i) = X at *
    generalize pw (k + i) = Q at *
    subst ht
    grind
theorem ab_top (h : AbInv u us v k n c) (hlv : v.length = n) (hk : k + n < u.length) {w : Int} (hw : w = u[k + n] + c) :
    ∃ us', us' = us.set (k + n) (w % 4294967296) ∧ us'.length = u.length ∧ Dig us' ∧ (∀ j, k + n + 1 ≤ j → ∀ (h : j < us'.length) (h' : j < u.length), us'[j] = u[j]) ∧ dval us' = dval u + pw k * dval v - (if 4294967296 ≤ w then pw (k + n + 1) else 0) := by
  obtain ⟨h1, h2, h3, h4, h6⟩ := h
  have hkl : k + n < us.length := by omega
  have hui := h2.get hkl
  have he := h3 (k + n) (Nat.le_refl _) hkl hk
  rw [he] at hui
  refine ⟨_, rfl, by simpa using h1, h2.set _ (by omega), fun j hj hl hl' => ?_, ?_⟩
  · rw [List.getElem_set_ne (by omega)]
    exact h3 j (by omega) _ _
  · rw [List.take_of_length_le (by omega)] at h6
    rw [dval_set hkl, he, pw_succ]
    by_cases hw0 : 4294967296 ≤ w
    · rw [if_pos hw0, show w % 4294967296 = w - 4294967296 by omega, hw]
      grind
    · rw [if_neg hw0, show w % 4294967296 = w by omega, hw]
      grind
end

section
variable {u v : List Int} {n k : Nat} {V W : Int}
/-- What the digit leaves. -/
def Left (u v : List Int) (k : Nat) (Q : Int) (us : List Int) : Prop := us.length = u.length ∧ Dig us ∧ dval us = dval u - pw k * (Q * dval v)
theorem same_above {us : List Int} (h : Win u v n k V W) (hl : us.length = u.length) (hd : Dig us) (hs : ∀ j, k + n + 1 ≤ j → ∀ (h : j < us.length) (h' : j < u.length), us[j] = u[j]) : 0 ≤ dval us ∧ dval us < pw (k + n + 1) := by
  have hz := zero_above h.du h.above.1
  refine ⟨dval_nonneg hd, dval_bd hd fun j hj hj' => ?_⟩
  rw [hs j hj hj' (by omega)]
  exact hz j hj _
/-- No more than was there: the guess was right. -/
theorem ms_right {us : List Int} {q w : Int} (h : Win u v n k V W) (hV : 0 < V) (hge : W / V ≤ q) (hl : us.length = u.length) (hd : Dig us) (hs : ∀ j, k + n + 1 ≤ j → ∀ (h : j < us.length) (h' : j < u.length), us[j] = u[j])
    (hval : dval us = dval u - pw k * (q * dval v) + (if w < 0 then pw (k + n + 1) else 0)) (hw : ¬ w < 0) : q = W / V ∧ Left u v k (W / V) us := by
  obtain ⟨b1, b2⟩ := same_above h hl hd hs
  obtain ⟨g1, g2, g3, g4, g5⟩ := h.hi
  rw [if_neg hw, Int.add_zero, h.eV, g1] at hval
  have hp := pw_pos k
  have key : q * V ≤ W := by
    rcases Int.lt_or_le W (q * V) with h1 | h1
    · have h2 : pw k * (W + 1) ≤ pw k * (q * V) := Int.mul_le_mul_of_nonneg_left (by omega) (by omega)
      rw [Int.mul_add] at h2
      omega
    · exact h1
  have : q ≤ W / V := (Int.le_ediv_iff_mul_le hV).2 key
  have e : q = W / V := by omega
  refine ⟨e, hl, hd, ?_⟩
  rw [h.eV, hval, ← e, ← g1]
/-- More than was there: the guess was one too many. -/
theorem ms_over {us : List Int} {q w : Int} (h : Win u v n k V W) (hV : 0 < V) (hle : q ≤ W / V + 1) (hl : us.length = u.length) (hd : Dig us) (hs : ∀ j, k + n + 1 ≤ j → ∀ (h : j < us.length) (h' : j < u.length), us[j] = u[j])
    (hval : dval us = dval u - pw k * (q * dval v) + (if w < 0 then pw (k + n + 1) else 0)) (hw : w < 0) : q - 1 = W / V := by
  obtain ⟨b1, b2⟩ := same_above h hl hd hs
  obtain ⟨g1, g2, g3, g4, g5⟩ := h.hi
  rw [if_pos hw, h.eV, g1] at hval
  have hp := pw_pos k
  have key : W < q * V := by
    rcases Int.lt_or_le W (q * V) with h1 | h1
    · exact h1
    · have h2 : pw k * (q * V) ≤ pw k * W := Int.mul_le_mul_of_nonneg_left h1 (by omega)
      omega
  have := lt_div_of hV key
  omega
/-- And v is given back. -/
theorem ab_right {us ut : List Int} {q w t : Int} (h : Win u v n k V W) (hV : 0 < V) (hq : q - 1 = W / V) (hl : us.length = u.length) (hs : ∀ j, k + n + 1 ≤ j → ∀ (h : j < us.length) (h' : j < u.length), us[j] = u[j])
    (hval : dval us = dval u - pw k * (q * dval v) + (if w < 0 then pw (k + n + 1) else 0)) (hw : w < 0) (hl' : ut.length = us.length) (hd' : Dig ut) (hs' : ∀ j, k + n + 1 ≤ j → ∀ (h : j < ut.length) (h' : j < us.length), ut[j] = us[j])
    (hval' : dval ut = dval us + pw k * dval v - (if 4294967296 ≤ t then pw (k + n + 1) else 0)) : Left u v k (W / V) ut := by
  have hb := same_above h (hl'.trans hl) hd' (fun j hj h1 h2 => (hs' j hj h1 (by omega)).trans (hs j hj (by omega) h2))
  obtain ⟨g1, g2, g3, g4, g5⟩ := h.hi
  have hp := pw_pos k
  have hm : 0 ≤ W - W / V * V := by
    have := Int.mul_ediv_add_emod W V
    have := Int.emod_nonneg W (show V ≠ 0 by omega)
    rw [Int.mul_comm (W / V)]; omega
  have e : dval ut = dval u - pw k * (W / V * dval v) + pw (k + n + 1) - (if 4294967296 ≤ t then pw (k + n + 1) else 0) := by
    rw [hval', hval, if_pos hw, ← hq]
    grind
  refine ⟨hl'.trans hl, hd', ?_⟩
  by_cases ht : 4294967296 ≤ t
  · rw [if_pos ht] at e
    omega
  · rw [if_neg ht, h.eV, g1] at e
    have : 0 ≤ pw k * (W - W / V * V) := Int.mul_nonneg (by omega) hm
    rw [Int.mul_sub] at this
    omega

/-- The division, all digits from K on being there. -/
structure KInv (X : Int) (us zs v : List Int) (n K : Nat) (V : Int) : Prop where
  du : Dig us
  dz : Dig zs
  val : dval us + V * dval zs = X
  lt : dval us < V * pw K
  zero : ∀ j, j < K → ∀ h : j < zs.length, zs[j] = 0
theorem k_step {X : Int} {us zs ut : List Int} (h : KInv X us zs v n (k + 1) V) (hw : Win us v n k V W) (hV : 0 < V) (hk : k < zs.length) (hl : Left us v k (W / V) ut) : KInv X ut (zs.set k (W / V)) v n k V ∧ 0 ≤ W / V ∧ W / V < 4294967296 := by
  obtain ⟨g1, g2, g3, g4, g5⟩ := hw.hi
  have q0 : 0 ≤ W / V := Int.ediv_nonneg g4 (by omega)
  have q1 : W / V < 4294967296 := (Int.ediv_lt_iff_lt_mul hV).2 (by rw [Int.mul_comm]; exact g5)
  obtain ⟨h1, h2, h3⟩ := hl
  have hz := h.zero k (by omega) hk
  rw [hw.eV] at h3
  refine ⟨⟨h2, h.dz.set _ ⟨q0, q1⟩, ?_, ?_, fun j hj hl => ?_⟩, q0, q1⟩
  · rw [dval_set hk, hz, h3, ← h.val]
    generalize W / V = Q at *
    grind
  · have hm := Int.emod_lt_of_pos W hV
    have hm2 := Int.mul_ediv_add_emod W V
    rw [h3, g1]
    generalize W / V = Q at *
    have e : pw k * W - pw k * (Q * V) = pw k * (W % V) := by rw [← hm2]; grind
    have e2 : pw k * (W % V + 1) ≤ pw k * V := Int.mul_le_mul_of_nonneg_left (by omega) (by have := pw_pos k; omega)
    rw [Int.mul_add] at e2
    rw [Int.mul_comm V]
    omega
  · rw [get_set_ne (by omega)]
    exact h.zero j (by omega) (by simpa using hl)
theorem k_end {X : Int} {us zs : List Int} (h : KInv X us zs v n 0 V) (hV : 0 < V) : dval zs = X / V ∧ dval us = X % V := by
  have h1 := h.lt
  rw [pw_zero, Int.mul_one] at h1
  have h2 := dval_nonneg h.du
  have h3 := h.val
  constructor
  · rw [← h3, Int.add_mul_ediv_left _ _ (by omega), Int.ediv_eq_zero_of_lt h2 h1, Int.zero_add]
  · rw [← h3, Int.add_mul_emod_self_left, Int.emod_eq_of_lt h2 h1]
end
end Go.Proofs.Ytcpdelkamckmfaa.Big
