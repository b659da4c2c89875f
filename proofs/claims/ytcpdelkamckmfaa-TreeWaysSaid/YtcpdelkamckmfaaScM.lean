/- Flows served by tags, plain. -/
import Derived.Test.YtcpdelkamckmfaaFlO
namespace Go.Proofs.Ytcpdelkamckmfaa.Scfq
open Go.RowKit Go.Proofs.Ytcpdelkamckmfaa.E

/-- Weights that may be. -/
def good (ws : List Int) : Bool := decide (ws.length ≤ 16) && ws.all fun w => decide (1 ≤ w) && decide (w ≤ 12)
def wrongOf (ws : List Int) : Int := bif good ws then 0 else 2
theorem good_iff {ws : List Int} : good ws = true ↔ ws.length ≤ 16 ∧ ∀ k, k < ws.length → 1 ≤ ws.getD k 0 ∧ ws.getD k 0 ≤ 12 := by
  simp only [good, Bool.and_eq_true, decide_eq_true_eq, List.all_eq_true]
  refine and_congr Iff.rfl ⟨fun h k hk => by rw [getD_lt hk]; exact h _ (List.getElem_mem hk), fun h x hx => ?_⟩
  obtain ⟨k, hk, rfl⟩ := List.mem_iff_getElem.1 hx
  rw [← getD_lt (d := 0) hk]
  exact h k hk
theorem wrong_t {ws : List Int} (h : ws.length ≤ 16) (h2 : ∀ k, k < ws.length → 1 ≤ ws.getD k 0 ∧ ws.getD k 0 ≤ 12) : wrongOf ws = 0 := by
  unfold wrongOf; rw [good_iff.2 ⟨h, h2⟩]; rfl
theorem wrong_f {ws : List Int} (h : 16 < ws.length ∨ ∃ k, k < ws.length ∧ (ws.getD k 0 < 1 ∨ 12 < ws.getD k 0)) : wrongOf ws = 2 := by
  have : good ws = false := by
    rw [← Bool.not_eq_true, good_iff]
    rintro ⟨h1, h2⟩
    rcases h with h | ⟨k, hk, h⟩
    · omega
    · have := h2 k hk; omega
  unfold wrongOf; rw [this]; rfl
theorem wrong_ok {ws : List Int} (h : wrongOf ws = 0) : ws.length ≤ 16 ∧ ∀ k, k < ws.length → 1 ≤ ws.getD k 0 ∧ ws.getD k 0 ≤ 12 := by
  refine good_iff.1 ?_
  cases e : good ws
  · unfold wrongOf at h; rw [e] at h; cases h
  · rfl
theorem w_quo {w : Int} (h : 1 ≤ w ∧ w ≤ 12) : 2310 ≤ 27720 / w ∧ 27720 / w ≤ 27720 ∧ ∀ b : Int, 27720 * b / w = b * (27720 / w) := by
  obtain h | h | h | h | h | h | h | h | h | h | h | h : w = 1 ∨ w = 2 ∨ w = 3 ∨ w = 4 ∨ w = 5 ∨ w = 6 ∨ w = 7 ∨ w = 8 ∨ w = 9 ∨ w = 10 ∨ w = 11 ∨ w = 12 := by omega
  all_goals (subst h; refine ⟨by omega, by omega, fun b => by omega⟩)

/-- What a flow has: bytes, tags, the last tag. -/
structure Q where
  bs : List Int
  ts : List Int
  last : Int
def Q.nil : Q := ⟨[], [], 0⟩
def hd (l : List Int) : Int := l.getD 0 0
structure S where
  fs : List Q
  now : Int
  errs : List Int
  sent : List (Int × Int)
def fq (s : S) (k : Nat) : Q := s.fs.getD k Q.nil
/-- One operation. -/
inductive Stp (ws : List Int) (n : Nat) (s : S) (o : O3) : S → Prop
  | kind (h1 : o.1 ≠ 1) (h2 : o.1 ≠ 2) : Stp ws n s o { s with errs := s.errs ++ [5] }
  | none (h1 : o.1 = 1) (h2 : o.2.1 < 0 ∨ (n : Int) ≤ o.2.1) : Stp ws n s o { s with errs := s.errs ++ [3] }
  | range (h1 : o.1 = 1) (h2 : 0 ≤ o.2.1 ∧ o.2.1 < n) (h3 : o.2.2 < 1 ∨ 1500 < o.2.2) : Stp ws n s o { s with errs := s.errs ++ [2] }
  | inn (k : Nat) (h1 : o.1 = 1) (h2 : o.2.1 = k) (hk : k < n) (h3 : 1 ≤ o.2.2 ∧ o.2.2 ≤ 1500) : Stp ws n s o { s with errs := s.errs ++ [0], fs := s.fs.set k ⟨(fq s k).bs ++ [o.2.2], (fq s k).ts ++ [max (fq s k).last s.now + o.2.2 * (27720 / ws.getD k 0)], max (fq s k).last s.now + o.2.2 * (27720 / ws.getD k 0)⟩ }
  | nought (h1 : o.1 = 2) (h2 : ∀ k, k < n → (fq s k).ts = []) : Stp ws n s o { s with errs := s.errs ++ [3] }
  | out (k : Nat) (h1 : o.1 = 2) (hk : k < n) (h2 : (fq s k).ts ≠ []) (h3 : ∀ j, j < n → (fq s j).ts ≠ [] → hd (fq s k).ts < hd (fq s j).ts ∨ (hd (fq s k).ts = hd (fq s j).ts ∧ k ≤ j)) :
      Stp ws n s o ⟨s.fs.set k ⟨(fq s k).bs.drop 1, (fq s k).ts.drop 1, (fq s k).last⟩, hd (fq s k).ts, s.errs ++ [0], s.sent ++ [((k : Int), hd (fq s k).bs)]⟩
theorem Stp.uniq {ws : List Int} {n : Nat} {s : S} {o : O3} {a b : S} (h : Stp ws n s o a) (h' : Stp ws n s o b) : a = b := by
  cases h with
  | kind h1 h2 => cases h' <;> first | rfl | (exfalso; omega)
  | none h1 h2 => cases h' <;> first | rfl | (exfalso; omega)
  | range h1 h2 h3 => cases h' <;> first | rfl | (exfalso; omega)
  | inn k h1 h2 hk h3 =>
    cases h' with
    | inn j g1 g2 gk g3 =>
      obtain rfl : k = j := by omega
      rfl
    | _ => exfalso; omega
  | nought h1 h2 =>
    cases h' with
    | nought => rfl
    | out j g1 gk g2 g3 => exact absurd (h2 j gk) g2
    | _ => exfalso; omega
  | out k h1 hk h2 h3 =>
    cases h' with
    | nought g1 g2 => exact absurd (g2 k hk) h2
    | out j g1 gk g2 g3 =>
      have e1 := h3 j gk g2
      have e2 := g3 k hk h2
      obtain rfl : k = j := by omega
      rfl
    | _ => exfalso; omega
/-- The first i operations. -/
def Run (ws : List Int) (os : List O3) (n : Nat) : Nat → S → Prop
  | 0, s => s = ⟨List.replicate n Q.nil, 0, [], []⟩
  | i + 1, s => ∃ s0, Run ws os n i s0 ∧ Stp ws n s0 (os.getD i (0, 0, 0)) s
theorem run_uniq {ws : List Int} {os : List O3} {n : Nat} : ∀ {i : Nat} {a b : S}, Run ws os n i a → Run ws os n i b → a = b
  | 0, _, _, h, h' => by rw [h, h']
  | i + 1, _, _, ⟨a, h1, h2⟩, ⟨b, g1, g2⟩ => by
    obtain rfl := run_uniq h1 g1
    exact h2.uniq g2
/-- What holds all the time. -/
structure Wf (n i : Nat) (s : S) : Prop where
  len : s.fs.length = n
  same : ∀ k, (fq s k).bs.length = (fq s k).ts.length
  up : ∀ k, (fq s k).ts.Pairwise (· < ·)
  le : ∀ k, ∀ t ∈ (fq s k).ts, 0 ≤ t ∧ t ≤ (fq s k).last
  last : ∀ k, 0 ≤ (fq s k).last ∧ (fq s k).last ≤ i * 41580000
  now : 0 ≤ s.now ∧ s.now ≤ i * 41580000
  errs : s.errs.length = i
  sent : s.sent.length ≤ i
  cnt : ∀ k, (fq s k).ts.length ≤ i
theorem fq_nil {n k : Nat} {now : Int} {errs : List Int} {sent : List (Int × Int)} : fq ⟨List.replicate n Q.nil, now, errs, sent⟩ k = Q.nil := by
  unfold fq
  simp only [List.getD_eq_getElem?_getD, List.getElem?_replicate]
  split <;> rfl
theorem wf_zero (n : Nat) : Wf n 0 ⟨List.replicate n Q.nil, 0, [], []⟩ := by
  refine ⟨by simp, fun k => ?_, fun k => ?_, fun k => ?_, fun k => ?_, by simp, rfl, Nat.le_refl _, fun k => ?_⟩ <;> rw [fq_nil] <;> simp [Q.nil]
theorem wf_err {n i : Nat} {s : S} (h : Wf n i s) (e : Int) : Wf n (i + 1) { s with errs := s.errs ++ [e] } :=
  ⟨h.len, h.same, h.up, h.le, fun k => by have := h.last k; show 0 ≤ (fq s k).last ∧ (fq s k).last ≤ _; omega, by have := h.now; show 0 ≤ s.now ∧ s.now ≤ _; omega, by simp [h.errs], by have := h.sent; show s.sent.length ≤ _; omega, fun k => by have := h.cnt k; show (fq s k).ts.length ≤ _; omega⟩
theorem fq_set {s : S} {k j : Nat} {x : Q} {now : Int} {errs : List Int} {sent : List (Int × Int)} (h : k < s.fs.length) : fq ⟨s.fs.set k x, now, errs, sent⟩ j = if j = k then x else fq s j := getD_set h
theorem hd_mem {l : List Int} (h : l ≠ []) : hd l ∈ l := by cases l with | nil => exact absurd rfl h | cons a l => exact List.mem_cons_self ..
theorem Wf.step {ws : List Int} {n i : Nat} {s s' : S} {o : O3} (h : Wf n i s) (hw : ∀ k, k < n → 1 ≤ ws.getD k 0 ∧ ws.getD k 0 ≤ 12) (hs : Stp ws n s o s') : Wf n (i + 1) s' := by
  cases hs with
  | kind => exact wf_err h 5
  | none => exact wf_err h 3
  | range => exact wf_err h 2
  | nought => exact wf_err h 3
  | inn k h1 h2 hk h3 =>
    have hkl : k < s.fs.length := by rw [h.len]; exact hk
    obtain ⟨q1, q2, _⟩ := w_quo (hw k hk)
    have hlk := h.last k
    have hn := h.now
    generalize 27720 / ws.getD k 0 = c at *
    have hp : 0 < o.2.2 * c ∧ o.2.2 * c ≤ 41580000 := by
      have a1 : 1 * 2310 ≤ o.2.2 * c := Int.mul_le_mul h3.1 q1 (by omega) (by omega)
      have a2 : o.2.2 * c ≤ 1500 * 27720 := Int.mul_le_mul h3.2 q2 (by omega) (by omega)
      omega
    generalize o.2.2 * c = p at *
    refine ⟨by simp [h.len], fun j => ?_, fun j => ?_, fun j => ?_, fun j => ?_, by show 0 ≤ s.now ∧ s.now ≤ _; omega, by simp [h.errs], by have := h.sent; show s.sent.length ≤ _; omega, fun j => ?_⟩ <;> rw [fq_set hkl] <;> split
    · simp [h.same k]
    · exact h.same j
    · refine List.pairwise_append.2 ⟨h.up k, by simp, fun a ha b hb => ?_⟩
      simp only [List.mem_singleton] at hb
      have := h.le k a ha
      omega
    · exact h.up j
    · intro t ht
      simp only [List.mem_append, List.mem_singleton] at ht ⊢
      rcases ht with ht | rfl
      · have := h.le k t ht; omega
      · omega
    · exact h.le j
    · simp only; omega
    · have := h.last j; omega
    · have := h.cnt k; simp; omega
    · have := h.cnt j; omega
  | out k h1 hk h2 h3 =>
    have hkl : k < s.fs.length := by rw [h.len]; exact hk
    have hlk := h.last k
    have hh := h.le k _ (hd_mem h2)
    refine ⟨by simp [h.len], fun j => ?_, fun j => ?_, fun j => ?_, fun j => ?_, by show 0 ≤ hd (fq s k).ts ∧ hd (fq s k).ts ≤ _; omega, by simp [h.errs], by have := h.sent; simp; omega, fun j => ?_⟩ <;> (try rw [fq_set hkl]) <;> (try split)
    · simp [h.same k]
    · exact h.same j
    · exact (h.up k).sublist (List.drop_sublist _ _)
    · exact h.up j
    · exact fun t ht => h.le k t (List.mem_of_mem_drop ht)
    · exact h.le j
    · simp only; omega
    · have := h.last j; omega
    · have := h.cnt k; simp; omega
    · have := h.cnt j; omega
theorem run_wf {ws : List Int} {os : List O3} {n : Nat} (hw : ∀ k, k < n → 1 ≤ ws.getD k 0 ∧ ws.getD k 0 ≤ 12) : ∀ {i : Nat} {s : S}, Run ws os n i s → Wf n i s
  | 0, _, h => by rw [h]; exact wf_zero n
  | _ + 1, _, ⟨_, h1, h2⟩ => (run_wf hw h1).step hw h2
/-- How many are left. -/
def left (s : S) : List Int := s.fs.map fun q => (q.ts.length : Int)
end Go.Proofs.Ytcpdelkamckmfaa.Scfq
