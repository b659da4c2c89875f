/- Division of two words by one: the guess of a digit. -/
namespace Go.Proofs.Ytcpdelkamckmfaa.Frac

/-- A quotient digit is guessed: never too small. -/
structure Gs (A u Y a b q r qh rh : Int) : Prop where
  eq : A * 4294967296 + u = q * Y + r
  r0 : 0 ≤ r
  r1 : r < Y
  y : Y = a * 4294967296 + b
  a1 : 0 < a
  b0 : 0 ≤ b
  b1 : b < 4294967296
  u0 : 0 ≤ u
  u1 : u < 4294967296
  A0 : 0 ≤ A
  A1 : A < Y
  q0 : 0 ≤ q
  g : A = qh * a + rh
  h0 : 0 ≤ rh
  le : q ≤ qh
theorem Gs.lt {A u Y a b q r qh rh : Int} (h : Gs A u Y a b q r qh rh) : q < 4294967296 := by
  obtain ⟨e, r0, r1, hy, a1, b0, b1, u0, u1, A0, A1, q0, g, h0, le⟩ := h
  have h1 : (A + 1) * 4294967296 ≤ Y * 4294967296 := by omega
  have h2 : q * Y < 4294967296 * Y := by omega
  exact Int.lt_of_mul_lt_mul_right h2 (by omega)
theorem gs_start {A u Y a b q r : Int} (e : A * 4294967296 + u = q * Y + r) (r0 : 0 ≤ r) (r1 : r < Y) (hy : Y = a * 4294967296 + b) (a1 : 0 < a) (b0 : 0 ≤ b) (b1 : b < 4294967296) (u0 : 0 ≤ u) (u1 : u < 4294967296) (A0 : 0 ≤ A) (A1 : A < Y) (q0 : 0 ≤ q) : Gs A u Y a b q r (A / a) (A - A / a * a) := by
  have h1 := Int.mul_ediv_add_emod A a
  have h2 := Int.emod_nonneg A (show a ≠ 0 by omega)
  rw [Int.mul_comm] at h1
  refine ⟨e, r0, r1, hy, a1, b0, b1, u0, u1, A0, A1, q0, by omega, by omega, ?_⟩
  have h3 : q * a ≤ A := by
    have h4 : q * Y = q * a * 4294967296 + q * b := by rw [hy]; grind
    have h5 : 0 ≤ q * b := Int.mul_nonneg q0 b0
    omega
  exact Int.le_ediv_of_mul_le a1 h3
theorem Gs.next {A u Y a b q r qh rh : Int} (h : Gs A u Y a b q r qh rh) (hc : 4294967296 ≤ qh ∨ 4294967296 * rh + u < qh * b) : 1 ≤ qh ∧ Gs A u Y a b q r (qh - 1) (rh + a) := by
  have hlt := h.lt
  obtain ⟨e, r0, r1, hy, a1, b0, b1, u0, u1, A0, A1, q0, g, h0, le⟩ := h
  have key : q ≠ qh := by
    intro hq
    rcases hc with hc | hc
    · omega
    · have h4 : q * Y = qh * a * 4294967296 + qh * b := by rw [hy, hq]; grind
      omega
  refine ⟨by omega, e, r0, r1, hy, a1, b0, b1, u0, u1, A0, A1, q0, ?_, by omega, by omega⟩
  rw [Int.sub_mul]
  omega
theorem Gs.done {A u Y a b q r qh rh : Int} (h : Gs A u Y a b q r qh rh) (hc : qh * b ≤ 4294967296 * rh + u) : qh = q := by
  obtain ⟨e, r0, r1, hy, a1, b0, b1, u0, u1, A0, A1, q0, g, h0, le⟩ := h
  have h4 : qh * Y = qh * a * 4294967296 + qh * b := by rw [hy]; grind
  have h5 : qh * Y < (q + 1) * Y := by rw [Int.add_mul]; omega
  have h6 := Int.lt_of_mul_lt_mul_right h5 (by omega)
  omega
theorem Gs.big {A u Y a b q r qh rh : Int} (h : Gs A u Y a b q r qh rh) (hb : 4294967296 ≤ rh) : qh = q := by
  have h' := h
  obtain ⟨e, r0, r1, hy, a1, b0, b1, u0, u1, A0, A1, q0, g, h0, le⟩ := h
  have h1 : qh * a < 4294967296 * a := by omega
  have h2 := Int.lt_of_mul_lt_mul_right h1 (by omega)
  refine h'.done ?_
  have h3 : qh * b ≤ 4294967296 * b := Int.mul_le_mul_of_nonneg_right (by omega) b0
  omega
/-- Both digits together, and the shift taken back. -/
theorem div_end {N y P A u v q r q' r' Y U : Int} (hP : 0 < P) (hy : 0 < y) (hY : Y = y * P) (hU : N * P = A * 18446744073709551616 + U) (hu : U = u * 4294967296 + v) (e1 : A * 4294967296 + u = q * Y + r) (e2 : r * 4294967296 + v = q' * Y + r') (h0 : 0 ≤ r') (h1 : r' < Y) : N / y = q * 4294967296 + q' ∧ N % y = r' / P := by
  have e3 : N * P = (q * 4294967296 + q') * Y + r' := by
    rw [Int.add_mul, Int.mul_assoc, Int.mul_comm 4294967296 Y, ← Int.mul_assoc]
    omega
  have e4 : r' = (N - (q * 4294967296 + q') * y) * P := by
    rw [hY, ← Int.mul_assoc] at e3
    rw [Int.sub_mul]
    omega
  have e5 : r' / P = N - (q * 4294967296 + q') * y := by rw [e4]; exact Int.mul_ediv_cancel _ (by omega)
  have e6 : 0 ≤ N - (q * 4294967296 + q') * y := by rw [← e5]; exact Int.ediv_nonneg h0 (by omega)
  have e7 : N - (q * 4294967296 + q') * y < y := by
    rw [e4, hY] at h1
    exact Int.lt_of_mul_lt_mul_right h1 (by omega)
  have e8 := Int.ediv_emod_unique (a := N) (b := y) (r := N - (q * 4294967296 + q') * y) (q := q * 4294967296 + q') hy
  have e9 := e8.2 ⟨by rw [Int.mul_comm y]; omega, e6, e7⟩
  exact ⟨e9.1, by rw [e9.2, e5]⟩
end Go.Proofs.Ytcpdelkamckmfaa.Frac
