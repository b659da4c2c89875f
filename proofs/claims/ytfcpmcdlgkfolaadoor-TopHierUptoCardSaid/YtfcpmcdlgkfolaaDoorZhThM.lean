/- A tree with all leaves full: nobody is behind by more than two packets for each step; plain: one node. -/
import Derived.Test.YtfcpmcdlgkfolaaDoorZhHrT
namespace Go.Proofs.YtfcpmcdlgkfolaaDoor.Hier
open Go.RowKit Go.Proofs.YtfcpmcdlgkfolaaDoor.E Go.Proofs.YtfcpmcdlgkfolaaDoor.Wfq
open Go.Proofs.YtfcpmcdlgkfolaaDoor.Scfq (hd hd_mem)

theorem w_dvd {w : Int} (h : 1 ≤ w ∧ w ≤ 12) : 27720 / w * w = 27720 := by
  obtain ⟨h1, h2⟩ := h
  rcases (show w = 1 ∨ w = 2 ∨ w = 3 ∨ w = 4 ∨ w = 5 ∨ w = 6 ∨ w = 7 ∨ w = 8 ∨ w = 9 ∨ w = 10 ∨ w = 11 ∨ w = 12 by omega) with rfl | rfl | rfl | rfl | rfl | rfl | rfl | rfl | rfl | rfl | rfl | rfl <;> decide
/-- What a packet of B bytes takes at c. -/
def cost (t : Tr) (B : Int) (c : Nat) : Int := B * (27720 / t.w c) * t.sum (t.u c).toNat
theorem cost_mul {t : Tr} (g : t.Good) {B : Int} {c p : Nat} (hc : c < t.n) (hu : t.u c = p) : cost t B c * t.w c = B * 27720 * t.sum p := by
  have h := w_dvd (g.w c hc)
  unfold cost
  rw [hu, Int.toNat_natCast, Int.mul_right_comm (B * (27720 / t.w c)), Int.mul_assoc B, h]
/-- A sum over those below p, of the first m. -/
def sg (t : Tr) (f : Nat → Int) (p : Nat) : Nat → Int
  | 0 => 0
  | m + 1 => sg t f p m + if t.u m = p then f m else 0
theorem sg_sum {t : Tr} {p : Nat} : ∀ m, sg t t.w p m = t.sumTo m p
  | 0 => rfl
  | m + 1 => by
    rw [sg, Tr.sumTo, sg_sum m]
    by_cases h : t.u m = p <;> simp [h]
theorem sg_le {t : Tr} {f f' : Nat → Int} {p : Nat} : ∀ {m : Nat}, (∀ c, c < m → t.u c = p → f c ≤ f' c) → sg t f p m ≤ sg t f' p m
  | 0, _ => Int.le_refl _
  | m + 1, h => by
    have h1 := sg_le (m := m) (fun c hc hu => h c (by omega) hu)
    rw [sg, sg]
    by_cases e : t.u m = p
    · have h2 := h m (by omega) e
      rw [if_pos e, if_pos e]
      omega
    · rw [if_neg e, if_neg e]
      omega
theorem sg_mul {t : Tr} {f : Nat → Int} {p : Nat} (a : Int) : ∀ m, sg t (fun c => f c * a) p m = sg t f p m * a
  | 0 => by simp [sg]
  | m + 1 => by
    rw [sg, sg, sg_mul a m, Int.add_mul]
    by_cases e : t.u m = p <;> simp [e]
theorem sg_one {t : Tr} {p j : Nat} : ∀ m, sg t (fun c => if c = j then 1 else 0) p m = if j < m ∧ t.u j = p then 1 else 0
  | 0 => by simp [sg]
  | m + 1 => by
    rw [sg, sg_one m]
    by_cases e : m = j
    · subst e
      by_cases h : t.u m = p <;> simp [h]
    · have e0 : (if t.u m = p then (if m = j then 1 else 0) else 0 : Int) = 0 := by simp [e]
      rw [e0, Int.add_zero]
      by_cases h1 : j < m ∧ t.u j = p
      · rw [if_pos h1, if_pos ⟨by omega, h1.2⟩]
      · rw [if_neg h1, if_neg (fun h => h1 ⟨by omega, h.2⟩)]
theorem sg_add {t : Tr} {f f' : Nat → Int} {p : Nat} : ∀ m, sg t (fun c => f c + f' c) p m = sg t f p m + sg t f' p m
  | 0 => rfl
  | m + 1 => by
    rw [sg, sg, sg, sg_add m]
    by_cases e : t.u m = p <;> simp [e] <;> omega
theorem sum_ge {t : Tr} (g : t.Good) {c p : Nat} (hc : c < t.n) (hu : t.u c = p) : t.w c ≤ t.sum p := by
  have h : ∀ m, m ≤ t.n → c < m → t.w c ≤ t.sumTo m p := fun m => by
    induction m with
    | zero => intro _ h; omega
    | succ m ih =>
      intro hm hcm
      have h0 := (sumTo_bd g (k := p) (n := m) (by omega)).1
      rw [Tr.sumTo]
      by_cases e : c = m
      · subst e; rw [decide_eq_true hu]; simp only [cond_true]; omega
      · have := ih (by omega) (by omega)
        have := g.w m (by omega)
        cases decide (t.u m = p) <;> simp only [cond_true, cond_false] <;> omega
  exact h t.n (Nat.le_refl _) hc
theorem cost_ge {t : Tr} (g : t.Good) {B : Int} (hB : 1 ≤ B) {c p : Nat} (hc : c < t.n) (hu : t.u c = p) : B * 27720 ≤ cost t B c := by
  have h1 := cost_mul g (B := B) hc hu
  have h2 := Int.mul_le_mul_of_nonneg_left (sum_ge g hc hu) (show 0 ≤ B * 27720 by omega)
  rw [← h1] at h2
  exact Int.le_of_mul_le_mul_right h2 (by have := (g.w c hc).1; omega)

/-- Whatever is due by D from now on is served by then, but for the packet that goes. -/
def Dem (t : Tr) (B : Int) (p : Nat) (E : Nat → Int) (V : Int) : Prop :=
  ∀ (D : Int) (m : Nat → Nat), (∀ c, c < t.n → t.u c = p → 0 < m c → E c + m c * cost t B c ≤ D) → (∃ c, c < t.n ∧ t.u c = p ∧ 0 < m c) → V + B * 27720 * sg t (fun c => (m c : Int)) p t.n ≤ D + B * 27720
theorem fresh {t : Tr} (g : t.Good) {B : Int} (hB : 1 ≤ B) {p : Nat} {E : Nat → Int} {X D : Int} {m : Nat → Nat} (h : ∀ c, c < t.n → t.u c = p → 0 < m c → X ≤ E c ∧ E c + m c * cost t B c ≤ D) (hx : ∃ c, c < t.n ∧ t.u c = p ∧ 0 < m c) :
    X + B * 27720 * sg t (fun c => (m c : Int)) p t.n ≤ D := by
  obtain ⟨c0, hc0, hu0, hm0⟩ := hx
  have hcost : ∀ c, c < t.n → t.u c = p → 0 ≤ cost t B c := fun c hc hu => by have := cost_ge g hB hc hu; omega
  have hXD : X ≤ D := by
    have h1 := h c0 hc0 hu0 hm0
    have := Int.mul_nonneg (show 0 ≤ (m c0 : Int) by omega) (hcost c0 hc0 hu0)
    omega
  have hS : 1 ≤ t.sum p := by have := sum_ge g hc0 hu0; have := (g.w c0 hc0).1; omega
  have key : ∀ c, c < t.n → t.u c = p → (m c : Int) * (B * 27720 * t.sum p) ≤ t.w c * (D - X) := fun c hc hu => by
    have hw := g.w c hc
    by_cases h0 : 0 < m c
    · have h1 := h c hc hu h0
      have h2 : (m c : Int) * cost t B c ≤ D - X := by omega
      have h3 := Int.mul_le_mul_of_nonneg_right h2 (show 0 ≤ t.w c by omega)
      rw [Int.mul_assoc, cost_mul g hc hu] at h3
      rw [Int.mul_comm (t.w c)]
      exact h3
    · have e : m c = 0 := by omega
      have := Int.mul_nonneg (show 0 ≤ t.w c by omega) (show 0 ≤ D - X by omega)
      rw [e]
      simpa using this
  have h5 := sg_le (m := t.n) key
  rw [sg_mul, sg_mul] at h5
  have h7 : sg t (fun c => t.w c) p t.n = t.sum p := sg_sum t.n
  rw [h7] at h5
  have h6 : t.sum p * (B * 27720 * sg t (fun c => (m c : Int)) p t.n) ≤ t.sum p * (D - X) := by
    have e : t.sum p * (B * 27720 * sg t (fun c => (m c : Int)) p t.n) = sg t (fun c => (m c : Int)) p t.n * (B * 27720 * t.sum p) := by
      rw [Int.mul_comm, Int.mul_assoc, Int.mul_comm (B * 27720), Int.mul_assoc, Int.mul_comm (t.sum p)]
    rw [e]
    exact h5
  have := Int.le_of_mul_le_mul_left h6 (by omega)
  omega
theorem dem_congr {t : Tr} {B : Int} {p : Nat} {E E' : Nat → Int} {V : Int} (h : Dem t B p E V) (he : ∀ c, c < t.n → t.u c = p → E c = E' c) : Dem t B p E' V :=
  fun D m h1 h2 => h D m (fun c a b d => by rw [he c a b]; exact h1 c a b d) h2
theorem dem_le {t : Tr} {B : Int} {p c : Nat} {E : Nat → Int} {V : Int} (h : Dem t B p E V) (hc : c < t.n) (hu : t.u c = p) : V ≤ E c + cost t B c := by
  have := h (E c + cost t B c) (fun i => if i = c then 1 else 0) (fun i _ _ h0 => by
    by_cases e : i = c
    · subst e; simp
    · rw [if_neg e] at h0; omega) ⟨c, hc, hu, by simp⟩
  have e : sg t (fun i => (((if i = c then 1 else 0 : Nat)) : Int)) p t.n = 1 := by
    have e1 : (fun i => (((if i = c then 1 else 0 : Nat)) : Int)) = fun i => if i = c then 1 else 0 := by funext i; split <;> rfl
    rw [e1, sg_one, if_pos ⟨hc, hu⟩]
  rw [e, Int.mul_one] at this
  omega
/-- The first one of those that may begin and end the soonest is taken. -/
theorem dem_pick {t : Tr} (g : t.Good) {B : Int} (hB : 1 ≤ B) {p j : Nat} {E : Nat → Int} {V b : Int} (h : Dem t B p E V) (hb : ∀ c, c < t.n → t.u c = p → b ≤ E c) (hj : j < t.n) (hju : t.u j = p)
    (hmin : ∀ c, c < t.n → t.u c = p → E c ≤ max V b → E j + cost t B j ≤ E c + cost t B c) : Dem t B p (fun c => if c = j then E j + cost t B j else E c) (max V b + B * 27720) := by
  intro D m h1 h2
  dsimp only at h1
  have hcj := cost_ge g hB hj hju
  by_cases hD : E j + cost t B j ≤ D
  · have c1 : ∀ c, c < t.n → t.u c = p → 0 < (m c + if c = j then 1 else 0) → E c + ((m c + if c = j then 1 else 0 : Nat) : Int) * cost t B c ≤ D := fun c hc hu h0 => by
      by_cases e : c = j
      · subst e
        rw [if_pos rfl, Int.natCast_add, Int.add_mul, show ((1 : Nat) : Int) * cost t B c = cost t B c from Int.one_mul _]
        by_cases hm : 0 < m c
        · have := h1 c hc hu hm
          rw [if_pos rfl] at this
          omega
        · have e0 : m c = 0 := by omega
          rw [e0]
          omega
      · rw [if_neg e, Nat.add_zero] at h0 ⊢
        have := h1 c hc hu h0
        rw [if_neg e] at this
        exact this
    have c2 : ∃ c, c < t.n ∧ t.u c = p ∧ 0 < (m c + if c = j then 1 else 0) := ⟨j, hj, hju, by simp⟩
    have c3 : sg t (fun c => ((m c + if c = j then 1 else 0 : Nat) : Int)) p t.n = sg t (fun c => (m c : Int)) p t.n + 1 := by
      have e1 : (fun c => ((m c + if c = j then 1 else 0 : Nat) : Int)) = fun c => (m c : Int) + if c = j then 1 else 0 := by
        funext c
        rw [Int.natCast_add]
        split <;> rfl
      rw [e1, sg_add, sg_one, if_pos ⟨hj, hju⟩]
    by_cases hV : b ≤ V
    · have h3 := h D (fun c => m c + if c = j then 1 else 0) c1 c2
      rw [c3, Int.mul_add, Int.mul_one] at h3
      omega
    · have h3 := fresh g hB (X := b) (m := fun c => m c + if c = j then 1 else 0) (fun c a b' d => ⟨hb c a b', c1 c a b' d⟩) c2
      rw [c3, Int.mul_add, Int.mul_one] at h3
      omega
  · have c1 : ∀ c, c < t.n → t.u c = p → 0 < m c → max V b ≤ E c ∧ E c + m c * cost t B c ≤ D := fun c hc hu h0 => by
      have h3 := h1 c hc hu h0
      have hc1 := cost_ge g hB hc hu
      have h4 : cost t B c ≤ m c * cost t B c := by
        have := Int.mul_le_mul_of_nonneg_right (show (1 : Int) ≤ m c by omega) (show 0 ≤ cost t B c by omega)
        rw [Int.one_mul] at this
        exact this
      by_cases e : c = j
      · subst e
        rw [if_pos rfl] at h3
        omega
      · rw [if_neg e] at h3
        refine ⟨?_, h3⟩
        have h5 := hmin c hc hu
        omega
    have h3 := fresh g hB c1 h2
    omega

theorem anc_snoc {t : Tr} {a b c : Nat} (h : Anc t a b) (hu : t.u b = c) : Anc t a c := by
  induction h with
  | here k => exact .up c hu (.here c)
  | up p hp _ ih => exact .up p hp (ih hu)
theorem anc_cmp {t : Tr} {r a b : Nat} (ha : Anc t r a) : Anc t r b → Anc t a b ∨ Anc t b a := by
  induction ha with
  | here k => exact fun h => .inl h
  | up p hp ha ih =>
    intro hb
    cases hb with
    | here => exact .inr (.up p hp ha)
    | up q hq hb2 =>
      obtain rfl : p = q := by omega
      exact ih hb2
theorem anc_sib {t : Tr} (g : t.Good) {r a b q : Nat} (ha : Anc t r a) (hb : Anc t r b) (hla : a < t.n) (hlb : b < t.n) (h1 : t.u a = q) (h2 : t.u b = q) : a = b := by
  have l1 := (g.lt hla).1
  have l2 := (g.lt hlb).1
  rcases anc_cmp ha hb with h | h
  · cases h with
    | here => rfl
    | up p hp h3 =>
      have := h3.le g (by omega)
      omega
  · cases h with
    | here => rfl
    | up p hp h3 =>
      have := h3.le g (by omega)
      omega
end Go.Proofs.YtfcpmcdlgkfolaaDoor.Hier
