/- Numbers as lists of digits to the base 2^32: plain lemmas, no program. -/
import Derived.Lib.Hide
namespace Go.Proofs.YtoibebmhfcjpfaaGreatDoor.Big

def dval : List Int → Int
  | [] => 0
  | x :: l => x + 4294967296 * dval l
def Dig (l : List Int) : Prop := ∀ x ∈ l, 0 ≤ x ∧ x < 4294967296
def pw : Nat → Int
  | 0 => 1
  | k + 1 => 4294967296 * pw k

theorem pw_pos : ∀ k, 0 < pw k
  | 0 => by simp [pw]
  | k + 1 => by have := pw_pos k; rw [pw]; omega
theorem pw_succ (k : Nat) : pw (k + 1) = 4294967296 * pw k := rfl
theorem pw_mono {a b : Nat} (h : a ≤ b) : pw a ≤ pw b := by
  obtain ⟨d, rfl⟩ := Nat.exists_eq_add_of_le h
  induction d with
  | zero => simp
  | succ d ih => rw [← Nat.add_assoc, pw_succ]; have := pw_pos (a + d); have := ih (by omega); omega

theorem dval_append : ∀ l m : List Int, dval (l ++ m) = dval l + pw l.length * dval m
  | [], m => by simp [dval, pw]
  | x :: l, m => by
    rw [List.cons_append, dval, dval, dval_append l m, List.length_cons, pw_succ]
    grind
theorem dval_one (x : Int) : dval [x] = x := by simp [dval]
theorem dval_take_succ {l : List Int} {k : Nat} (h : k < l.length) : dval (l.take (k + 1)) = dval (l.take k) + pw k * l[k] := by
  rw [List.take_succ_eq_append_getElem h, dval_append, dval_one, List.length_take, Nat.min_eq_left (by omega)]
theorem dval_nonneg : ∀ {l : List Int}, Dig l → 0 ≤ dval l
  | [], _ => by simp [dval]
  | x :: l, h => by
    have := dval_nonneg (l := l) (fun y hy => h y (by simp [hy]))
    have := h x (by simp)
    rw [dval]; omega
theorem Dig.take {l : List Int} (h : Dig l) (k : Nat) : Dig (l.take k) := fun x hx => h x (List.mem_of_mem_take hx)
theorem Dig.drop {l : List Int} (h : Dig l) (k : Nat) : Dig (l.drop k) := fun x hx => h x (List.mem_of_mem_drop hx)
theorem Dig.set {l : List Int} (h : Dig l) (k : Nat) {v : Int} (hv : 0 ≤ v ∧ v < 4294967296) : Dig (l.set k v) := fun x hx => by
  rcases List.mem_or_eq_of_mem_set hx with h1 | h1
  · exact h x h1
  · rw [h1]; exact hv
theorem Dig.get {l : List Int} (h : Dig l) {k : Nat} (hk : k < l.length) : 0 ≤ l[k] ∧ l[k] < 4294967296 := h _ (List.getElem_mem hk)
theorem Dig.append {l m : List Int} (h : Dig l) (h' : Dig m) : Dig (l ++ m) := fun x hx => by
  rcases List.mem_append.1 hx with h1 | h1
  · exact h x h1
  · exact h' x h1
theorem Dig.nil : Dig [] := fun x hx => by cases hx
/-- The last digit is not nought. -/
def Trim (l : List Int) : Prop := ∀ h : 0 < l.length, l[l.length - 1] ≠ 0
theorem Trim.nil : Trim [] := fun h => by simp at h
theorem Trim.low {l : List Int} (h : Trim l) (hd : Dig l) (h0 : l ≠ []) : pw (l.length - 1) ≤ dval l := by
  have hl : 0 < l.length := List.length_pos_iff.2 h0
  have := dval_take_succ (l := l) (k := l.length - 1) (by omega)
  rw [show l.length - 1 + 1 = l.length from by omega, List.take_length] at this
  have h1 := dval_nonneg (hd.take (l.length - 1))
  have h2 := h hl
  have h3 := hd.get (k := l.length - 1) (by omega)
  have h4 : pw (l.length - 1) * 1 ≤ pw (l.length - 1) * l[l.length - 1] := Int.mul_le_mul_of_nonneg_left (by omega) (by have := pw_pos (l.length - 1); omega)
  omega
theorem Trim.zero {l : List Int} (h : Trim l) (hd : Dig l) : dval l = 0 ↔ l = [] := by
  constructor
  · intro h0
    by_cases he : l = []
    · exact he
    · have := h.low hd he; have := pw_pos (l.length - 1); omega
  · rintro rfl; rfl
theorem Trim.pos {l : List Int} (h : Trim l) (hd : Dig l) : 0 < dval l ↔ l ≠ [] := by
  have := dval_nonneg hd
  constructor <;> intro h1
  · intro h2
    have := (h.zero hd).2 h2
    omega
  · have : dval l ≠ 0 := fun h2 => h1 (h.zero hd |>.1 h2)
    omega
/-- How many digits a bounded number has. -/
theorem Trim.len {l : List Int} (h : Trim l) (hd : Dig l) {k : Nat} (hk : dval l < pw k) : l.length ≤ k := by
  by_cases he : l = []
  · subst he; simp
  · have h1 := h.low hd he
    rcases Nat.lt_or_ge k l.length with h2 | h2
    · have := pw_mono (show k ≤ l.length - 1 by omega); omega
    · exact h2

/-- The number with its sign. -/
def sg (neg : Bool) (v : Int) : Int := if neg then -v else v

/-- A number of no more than a thousand digits. -/
def Sm (z : Int) : Prop := -pw 1000 < z ∧ z < pw 1000
theorem Sm.len {neg : Bool} {ds : List Int} (h : Sm (sg neg (dval ds))) (ht : Trim ds) (hd : Dig ds) : ds.length ≤ 1000 := by
  refine ht.len hd ?_
  unfold Sm at h
  cases neg <;> simp only [sg, if_true, Bool.false_eq_true, if_false] at h <;> omega
theorem Sm.neg {z : Int} (h : Sm z) : Sm (-z) := by unfold Sm at *; omega

theorem getD_lt {l : List Int} {k : Nat} (h : k < l.length) : l[k]?.getD 0 = l[k] := by simp [h]
end Go.Proofs.YtoibebmhfcjpfaaGreatDoor.Big
