/- Flows by turns: plain laws. -/
import Derived.Lib.Hide
namespace Go.Proofs.YtoibebmhfcjpfaaGreatDoor.Drr

def tot : List Int → Int
  | [] => 0
  | x :: l => x + tot l
theorem tot_append : ∀ l m : List Int, tot (l ++ m) = tot l + tot m
  | [], m => by simp [tot]
  | x :: l, m => by simp only [List.cons_append, tot, tot_append l m]; omega
theorem tot_take {l : List Int} {k : Nat} (h : k < l.length) : tot (l.take (k + 1)) = tot (l.take k) + l[k] := by
  rw [List.take_succ_eq_append_getElem h, tot_append]; simp [tot]
def nok (x : Int) : Bool := decide (1 ≤ x) && decide (x ≤ 1500)
theorem nok_iff {x : Int} : nok x = true ↔ 1 ≤ x ∧ x ≤ 1500 := by simp [nok]
theorem nok_not {x : Int} (h : nok x = false) : x < 1 ∨ (1 ≤ x ∧ 1500 < x) := by simp [nok] at h; omega
/-- A turn, and what waits of its flow. -/
def rowok (t : Int) (l : List Int) : Bool := decide (1 ≤ t) && decide (t ≤ 10000) && decide (l.length ≤ 400) && l.all nok
/-- What is wrong. -/
def wrongE (ts : List Int) (fs : List (List Int)) : Int :=
  if ts.length ≠ fs.length then 1 else if 16 < ts.length then 2 else if (List.zipWith rowok ts fs).all id then 0 else 2

/-- How many a flow may send, and how many bytes are left of its turn. -/
def gr : Int → List Int → Nat × Int
  | m, [] => (0, m)
  | m, x :: l => if x ≤ m then ((gr (m - x) l).1 + 1, (gr (m - x) l).2) else (0, m)
theorem gr_le : ∀ (m : Int) (l : List Int), (gr m l).1 ≤ l.length
  | m, [] => by simp [gr]
  | m, x :: l => by
    rw [gr]
    split
    · have := gr_le (m - x) l
      simp; omega
    · simp
/-- Where it stands behind k, all of which went. -/
theorem gr_at : ∀ (m : Int) (l : List Int) (k : Nat), k ≤ l.length → (∀ j, (h : j < k) → (hj : j < l.length) → l[j] ≤ m - tot (l.take j)) → (k = l.length ∨ ∃ hk : k < l.length, m - tot (l.take k) < l[k]) → gr m l = (k, m - tot (l.take k))
  | m, [], k, hk, _, _ => by
    obtain rfl : k = 0 := by simpa using hk
    simp [gr, tot]
  | m, x :: l, 0, _, _, h2 => by
    rcases h2 with h2 | ⟨hk, h2⟩
    · simp at h2
    · have h3 : m < x := by simpa [tot] using h2
      rw [gr, if_neg (by omega)]
      simp [tot]
  | m, x :: l, k + 1, hk, h1, h2 => by
    have h3 : x ≤ m := by have := h1 0 (by omega) (by simp); simpa [tot] using this
    have ih := gr_at (m - x) l k (by simpa using hk) (fun j hj hjl => by
      have := h1 (j + 1) (by omega) (by simpa using hjl)
      simp only [List.getElem_cons_succ, List.take_succ_cons, tot] at this
      omega) (by
      rcases h2 with h2 | ⟨hk2, h2⟩
      · left; simpa using h2
      · right
        refine ⟨by simpa using hk2, ?_⟩
        simp only [List.getElem_cons_succ, List.take_succ_cons, tot] at h2
        omega)
    rw [gr, if_pos h3, ih]
    simp only [List.take_succ_cons, tot, Prod.mk.injEq, true_and]
    omega
/-- One flow's turn: what goes, what is left, and what it may yet. -/
def cut (m : Int) (l : List Int) : List Int := l.take (gr m l).1
def lft (m : Int) (l : List Int) : List Int := l.drop (gr m l).1
def may (m : Int) (l : List Int) : Int := if (gr m l).1 = l.length then 0 else (gr m l).2
theorem gr_rest : ∀ (m : Int) (l : List Int), 0 ≤ m → l.all nok = true → 0 ≤ (gr m l).2 ∧ (gr m l).2 ≤ m ∧ ((gr m l).1 ≠ l.length → (gr m l).2 < 1500)
  | m, [], h, _ => by simp [gr, h]
  | m, x :: l, h, ha => by
    simp only [List.all_cons, Bool.and_eq_true] at ha
    have hx := nok_iff.1 ha.1
    rw [gr]
    split
    · have := gr_rest (m - x) l (by omega) ha.2
      refine ⟨this.1, by have := this.2.1; simp only; omega, fun hne => this.2.2 (fun e => hne (by simp [e]))⟩
    · exact ⟨h, Int.le_refl _, fun _ => by simp only; omega⟩
theorem may_bd {m : Int} {l : List Int} (h : 0 ≤ m) (ha : l.all nok = true) : 0 ≤ may m l ∧ may m l < 1500 := by
  have := gr_rest m l h ha
  unfold may
  split
  · omega
  · exact ⟨this.1, this.2.2 (by assumption)⟩

theorem rowok_iff {t : Int} {l : List Int} : rowok t l = true ↔ (1 ≤ t ∧ t ≤ 10000) ∧ l.length ≤ 400 ∧ l.all nok = true := by
  simp only [rowok, Bool.and_eq_true, decide_eq_true_eq]
  exact ⟨fun ⟨⟨⟨a, b⟩, c⟩, d⟩ => ⟨⟨a, b⟩, c, d⟩, fun ⟨⟨a, b⟩, c, d⟩ => ⟨⟨⟨a, b⟩, c⟩, d⟩⟩
theorem wrong_len {ts : List Int} {fs : List (List Int)} (h : ts.length ≠ fs.length) : wrongE ts fs = 1 := by rw [wrongE, if_pos h]
theorem wrong_big {ts : List Int} {fs : List (List Int)} (h : ts.length = fs.length) (h1 : 16 < ts.length) : wrongE ts fs = 2 := by rw [wrongE, if_neg (by omega), if_pos h1]
theorem wrong_row {ts : List Int} {fs : List (List Int)} (h : ts.length = fs.length) {k : Nat} (hk : k < ts.length) (hr : rowok ts[k] (fs[k]'(by omega)) = false) : wrongE ts fs = 2 := by
  unfold wrongE
  rw [if_neg (by omega)]
  split
  · rfl
  · rw [if_neg]
    intro ha
    have := List.all_eq_true.1 ha (rowok ts[k] (fs[k]'(by omega))) (List.mem_iff_getElem.2 ⟨k, by simp; omega, by simp⟩)
    rw [hr] at this
    cases this
theorem wrong_ok {ts : List Int} {fs : List (List Int)} (h : ts.length = fs.length) (h1 : ts.length ≤ 16) (hr : ∀ k (hk : k < ts.length), rowok ts[k] (fs[k]'(by omega)) = true) : wrongE ts fs = 0 := by
  unfold wrongE
  rw [if_neg (by omega), if_neg (by omega), if_pos]
  rw [List.all_eq_true]
  intro b hb
  obtain ⟨k, hk, rfl⟩ := List.mem_iff_getElem.1 hb
  simp only [List.length_zipWith] at hk
  rw [List.getElem_zipWith]
  exact hr k (by omega)
theorem wrong_zero {ts : List Int} {fs : List (List Int)} (h : wrongE ts fs = 0) : ts.length = fs.length ∧ ts.length ≤ 16 ∧ ∀ k (hk : k < ts.length) (hk2 : k < fs.length), rowok ts[k] fs[k] = true := by
  unfold wrongE at h
  split at h
  · omega
  · split at h
    · omega
    · split at h
      · rename_i h1 h2 h3
        refine ⟨by omega, by omega, fun k hk hk2 => ?_⟩
        have := List.all_eq_true.1 h3 (rowok ts[k] fs[k]) (List.mem_iff_getElem.2 ⟨k, by simp; omega, by simp⟩)
        simpa using this
      · omega
/-- The rows ahead of k may be. -/
def rows (ts : List Int) (fs : List (List Int)) (k : Nat) : Bool := (List.zipWith rowok (ts.take k) (fs.take k)).all id
theorem all_take {p : Int → Bool} {l : List Int} {k : Nat} (h : k < l.length) : (l.take (k + 1)).all p = ((l.take k).all p && p l[k]) := by
  rw [List.take_succ_eq_append_getElem h, List.all_append]; simp
end Go.Proofs.YtoibebmhfcjpfaaGreatDoor.Drr
