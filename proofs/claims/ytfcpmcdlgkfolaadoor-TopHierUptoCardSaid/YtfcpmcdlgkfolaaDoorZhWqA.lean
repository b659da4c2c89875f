/- Flows served by tags, plain. -/
import Derived.Test.YtfcpmcdlgkfolaaDoorZhFlO
import Derived.Test.YtfcpmcdlgkfolaaDoorZhEU
namespace Go.Proofs.YtfcpmcdlgkfolaaDoor.Scfq
open Go.RowKit Go.Proofs.YtfcpmcdlgkfolaaDoor.E

/-- Weights that may be. -/
def good (ws : List Int) : Bool := decide (ws.length ≤ 16) && ws.all fun w => decide (1 ≤ w) && decide (w ≤ 12)
theorem w_quo {w : Int} (h : 1 ≤ w ∧ w ≤ 12) : 2310 ≤ 27720 / w ∧ 27720 / w ≤ 27720 ∧ ∀ b : Int, 27720 * b / w = b * (27720 / w) := by
  obtain h | h | h | h | h | h | h | h | h | h | h | h : w = 1 ∨ w = 2 ∨ w = 3 ∨ w = 4 ∨ w = 5 ∨ w = 6 ∨ w = 7 ∨ w = 8 ∨ w = 9 ∨ w = 10 ∨ w = 11 ∨ w = 12 := by omega
  all_goals (subst h; refine ⟨by omega, by omega, fun b => by omega⟩)

/-- What a flow has: bytes, tags, the last tag. -/
structure Q where
  bs : List Int
  ts : List Int
  last : Int
def Q.nil : Q := ⟨[], [], 0⟩
def hd (l : List Int) : Int := l.getD 0 0
structure S where
  fs : List Q
  now : Int
  errs : List Int
  sent : List (Int × Int)
def fq (s : S) (k : Nat) : Q := s.fs.getD k Q.nil
/-- One operation. -/
inductive Stp (ws : List Int) (n : Nat) (s : S) (o : O3) : S → Prop
  | kind (h1 : o.1 ≠ 1) (h2 : o.1 ≠ 2) : Stp ws n s o { s with errs := s.errs ++ [5] }
  | none (h1 : o.1 = 1) (h2 : o.2.1 < 0 ∨ (n : Int) ≤ o.2.1) : Stp ws n s o { s with errs := s.errs ++ [3] }
  | range (h1 : o.1 = 1) (h2 : 0 ≤ o.2.1 ∧ o.2.1 < n) (h3 : o.2.2 < 1 ∨ 1500 < o.2.2) : Stp ws n s o { s with errs := s.errs ++ [2] }
  | inn (k : Nat) (h1 : o.1 = 1) (h2 : o.2.1 = k) (hk : k < n) (h3 : 1 ≤ o.2.2 ∧ o.2.2 ≤ 1500) : Stp ws n s o { s with errs := s.errs ++ [0], fs := s.fs.set k ⟨(fq s k).bs ++ [o.2.2], (fq s k).ts ++ [max (fq s k).last s.now + o.2.2 * (27720 / ws.getD k 0)], max (fq s k).last s.now + o.2.2 * (27720 / ws.getD k 0)⟩ }
  | nought (h1 : o.1 = 2) (h2 : ∀ k, k < n → (fq s k).ts = []) : Stp ws n s o { s with errs := s.errs ++ [3] }
  | out (k : Nat) (h1 : o.1 = 2) (hk : k < n) (h2 : (fq s k).ts ≠ []) (h3 : ∀ j, j < n → (fq s j).ts ≠ [] → hd (fq s k).ts < hd (fq s j).ts ∨ (hd (fq s k).ts = hd (fq s j).ts ∧ k ≤ j)) :
      Stp ws n s o ⟨s.fs.set k ⟨(fq s k).bs.drop 1, (fq s k).ts.drop 1, (fq s k).last⟩, hd (fq s k).ts, s.errs ++ [0], s.sent ++ [((k : Int), hd (fq s k).bs)]⟩
theorem Stp.uniq {ws : List Int} {n : Nat} {s : S} {o : O3} {a b : S} (h : Stp ws n s o a) (h' : Stp ws n s o b) : a = b := by
  cases h with
  | kind h1 h2 => cases h' <;> first | rfl | (exfalso; omega)
  | none h1 h2 => cases h' <;> first | rfl | (exfalso; omega)
  | range h1 h2 h3 => cases h' <;> first | rfl | (exfalso; omega)
  | inn k h1 h2 hk h3 =>
    cases h' with
    | inn j g1 g2 gk g3 =>
      obtain rfl : k = j := by omega
      rfl
    | _ => exfalso; omega
  | nought h1 h2 =>
    cases h' with
    | nought => rfl
    | out j g1 gk g2 g3 => exact absurd (h2 j gk) g2
    | _ => exfalso; omega
  | out k h1 hk h2 h3 =>
    cases h' with
    | nought g1 g2 => exact absurd (g2 k hk) h2
    | out j g1 gk g2 g3 =>
      have e1 := h3 j gk g2
      have e2 := g3 k hk h2
      obtain rfl : k = j := by omega
      rfl
    | _ => exfalso; omega
/-- The first i operations. -/
def Run (ws : List Int) (os : List O3) (n : Nat) : Nat → S → Prop
  | 0, s => s = ⟨List.replicate n Q.nil, 0, [], []⟩
  | i + 1, s => ∃ s0, Run ws os n i s0 ∧ Stp ws n s0 (os.getD i (0, 0, 0)) s
/-- What holds all the time. -/
structure Wf (n i : Nat) (s : S) : Prop where
  len : s.fs.length = n
  same : ∀ k, (fq s k).bs.length = (fq s k).ts.length
  up : ∀ k, (fq s k).ts.Pairwise (· < ·)
  le : ∀ k, ∀ t ∈ (fq s k).ts, 0 ≤ t ∧ t ≤ (fq s k).last
  last : ∀ k, 0 ≤ (fq s k).last ∧ (fq s k).last ≤ i * 41580000
  now : 0 ≤ s.now ∧ s.now ≤ i * 41580000
  errs : s.errs.length = i
  sent : s.sent.length ≤ i
  cnt : ∀ k, (fq s k).ts.length ≤ i
theorem fq_nil {n k : Nat} {now : Int} {errs : List Int} {sent : List (Int × Int)} : fq ⟨List.replicate n Q.nil, now, errs, sent⟩ k = Q.nil := by
  unfold fq
  simp only [List.getD_eq_getElem?_getD, List.getElem?_replicate]
  split <;> rfl
theorem wf_zero (n : Nat) : Wf n 0 ⟨List.replicate n Q.nil, 0, [], []⟩ := by
  refine ⟨by simp, fun k => ?_, fun k => ?_, fun k => ?_, fun k => ?_, by simp, rfl, Nat.le_refl _, fun k => ?_⟩ <;> rw [fq_nil] <;> simp [Q.nil]
theorem wf_err {n i : Nat} {s : S} (h : Wf n i s) (e : Int) : Wf n (i + 1) { s with errs := s.errs ++ [e] } :=
  ⟨h.len, h.same, h.up, h.le, fun k => by have := h.last k; show 0 ≤ (fq s k).last ∧ (fq s k).last ≤ _; omega, by have := h.now; show 0 ≤ s.now ∧ s.now ≤ _; omega, by simp [h.errs], by have := h.sent; show s.sent.length ≤ _; omega, fun k => by have := h.cnt k; show (fq s k).ts.length ≤ _; omega⟩
theorem fq_set {s : S} {k j : Nat} {x : Q} {now : Int} {errs : List Int} {sent : List (Int × Int)} (h : k < s.fs.length) : fq ⟨s.fs.set k x, now, errs, sent⟩ j = if j = k then x else fq s j := getD_set h
theorem hd_mem {l : List Int} (h : l ≠ []) : hd l ∈ l := by cases l with | nil => exact absurd rfl h | cons a l => exact List.mem_cons_self ..
theorem Wf.step {ws : List Int} {n i : Nat} {s s' : S} {o : O3} (h : Wf n i s) (hw : ∀ k, k < n → 1 ≤ ws.getD k 0 ∧ ws.getD k 0 ≤ 12) (hs : Stp ws n s o s') : Wf n (i + 1) s' := by
  cases hs with
  | kind => exact wf_err h 5
  | none => exact wf_err h 3
  | range => exact wf_err h 2
  | nought => exact wf_err h 3
  | inn k h1 h2 hk h3 =>
    have hkl : k < s.fs.length := by rw [h.len]; exact hk
    obtain ⟨q1, q2, _⟩ := w_quo (hw k hk)
    have hlk := h.last k
    have hn := h.now
    generalize 27720 / ws.getD k 0 = c at *
    have hp : 0 < o.2.2 * c ∧ o.2.2 * c ≤ 41580000 := by
      have a1 : 1 * 2310 ≤ o.2.2 * c := Int.mul_le_mul h3.1 q1 (by omega) (by omega)
      have a2 : o.2.2 * c ≤ 1500 * 27720 := Int.mul_le_mul h3.2 q2 (by omega) (by omega)
      omega
    generalize o.2.2 * c = p at *
    refine ⟨by simp [h.len], fun j => ?_, fun j => ?_, fun j => ?_, fun j => ?_, by show 0 ≤ s.now ∧ s.now ≤ _; omega, by simp [h.errs], by have := h.sent; show s.sent.length ≤ _; omega, fun j => ?_⟩ <;> rw [fq_set hkl] <;> split
    · simp [h.same k]
    · exact h.same j
    · refine List.pairwise_append.2 ⟨h.up k, by simp, fun a ha b hb => ?_⟩
      simp only [List.mem_singleton] at hb
      have := h.le k a ha
      omega
    · exact h.up j
    · intro t ht
      simp only [List.mem_append, List.mem_singleton] at ht ⊢
      rcases ht with ht | rfl
      · have := h.le k t ht; omega
      · omega
    · exact h.le j
    · simp only; omega
    · have := h.last j; omega
    · have := h.cnt k; simp; omega
    · have := h.cnt j; omega
  | out k h1 hk h2 h3 =>
    have hkl : k < s.fs.length := by rw [h.len]; exact hk
    have hlk := h.last k
    have hh := h.le k _ (hd_mem h2)
    refine ⟨by simp [h.len], fun j => ?_, fun j => ?_, fun j => ?_, fun j => ?_, by show 0 ≤ hd (fq s k).ts ∧ hd (fq s k).ts ≤ _; omega, by simp [h.errs], by have := h.sent; simp; omega, fun j => ?_⟩ <;> (try rw [fq_set hkl]) <;> (try split)
    · simp [h.same k]
    · exact h.same j
    · exact (h.up k).sublist (List.drop_sublist _ _)
    · exact h.up j
    · exact fun t ht => h.le k t (List.mem_of_mem_drop ht)
    · exact h.le j
    · simp only; omega
    · have := h.last j; omega
    · have := h.cnt k; simp; omega
    · have := h.cnt j; omega
theorem run_wf {ws : List Int} {os : List O3} {n : Nat} (hw : ∀ k, k < n → 1 ≤ ws.getD k 0 ∧ ws.getD k 0 ≤ 12) : ∀ {i : Nat} {s : S}, Run ws os n i s → Wf n i s
  | 0, _, h => by rw [h]; exact wf_zero n
  | _ + 1, _, ⟨_, h1, h2⟩ => (run_wf hw h1).step hw h2
/-- How many are left. -/
def left (s : S) : List Int := s.fs.map fun q => (q.ts.length : Int)
end Go.Proofs.YtfcpmcdlgkfolaaDoor.Scfq

namespace Go.Proofs.YtfcpmcdlgkfolaaDoor.Wfq
open Go.RowKit Go.Proofs.YtfcpmcdlgkfolaaDoor.E Go.Proofs.YtfcpmcdlgkfolaaDoor.Scfq

/-- What a flow has: bytes, when its first packet should begin, and end. -/
structure Q where
  bs : List Int
  bg : Int
  en : Int
def Q.nil : Q := ⟨[], 0, 0⟩
structure S where
  fs : List Q
  time : Int
  errs : List Int
  sent : List (Int × Int)
def gq (fs : List Q) (k : Nat) : Q := fs.getD k Q.nil
def sumw : List Int → Int
  | [] => 0
  | w :: l => w + sumw l
/-- What a byte of flow k takes. -/
def cost (ws : List Int) (k : Nat) : Int := 27720 / ws.getD k 0 * sumw ws
/-- A packet comes. -/
def inQ (c : Int) (q : Q) (b t : Int) : Q := bif decide (q.bs.length = 0) then ⟨q.bs ++ [b], max q.en t, max q.en t + b * c⟩ else ⟨q.bs ++ [b], q.bg, q.en⟩
/-- The first packet goes. -/
def outQ (c : Int) (q : Q) : Q := bif decide (q.bs.length = 1) then ⟨q.bs.drop 1, q.bg, q.en⟩ else ⟨q.bs.drop 1, q.en, q.en + hd (q.bs.drop 1) * c⟩
/-- The least begin of those that have something. -/
def Least (fs : List Q) (n : Nat) (b : Int) : Prop := (∃ j, j < n ∧ 0 < (gq fs j).bs.length ∧ (gq fs j).bg = b) ∧ ∀ j, j < n → 0 < (gq fs j).bs.length → b ≤ (gq fs j).bg
/-- The first one of those that may begin and end the soonest. -/
def May (fs : List Q) (n : Nat) (t : Int) (k : Nat) : Prop := k < n ∧ 0 < (gq fs k).bs.length ∧ (gq fs k).bg ≤ t ∧ ∀ j, j < n → 0 < (gq fs j).bs.length → (gq fs j).bg ≤ t → (gq fs k).en < (gq fs j).en ∨ ((gq fs k).en = (gq fs j).en ∧ k ≤ j)
theorem Least.uniq {fs : List Q} {n : Nat} {a b : Int} (h : Least fs n a) (h' : Least fs n b) : a = b := by
  obtain ⟨⟨j, h1, h2, h3⟩, h4⟩ := h
  obtain ⟨⟨i, g1, g2, g3⟩, g4⟩ := h'
  have := h4 i g1 g2
  have := g4 j h1 h2
  omega
theorem May.uniq {fs : List Q} {n : Nat} {t : Int} {k j : Nat} (h : May fs n t k) (h' : May fs n t j) : k = j := by
  obtain ⟨h1, h2, h3, h4⟩ := h
  obtain ⟨g1, g2, g3, g4⟩ := h'
  have := h4 j g1 g2 g3
  have := g4 k h1 h2 h3
  omega
inductive Stp (ws : List Int) (n : Nat) (s : S) (o : O3) : S → Prop
  | kind (h1 : o.1 ≠ 1) (h2 : o.1 ≠ 2) : Stp ws n s o { s with errs := s.errs ++ [5] }
  | none (h1 : o.1 = 1) (h2 : o.2.1 < 0 ∨ (n : Int) ≤ o.2.1) : Stp ws n s o { s with errs := s.errs ++ [3] }
  | range (h1 : o.1 = 1) (h2 : 0 ≤ o.2.1 ∧ o.2.1 < n) (h3 : o.2.2 < 1 ∨ 1500 < o.2.2) : Stp ws n s o { s with errs := s.errs ++ [2] }
  | inn (k : Nat) (h1 : o.1 = 1) (h2 : o.2.1 = k) (hk : k < n) (h3 : 1 ≤ o.2.2 ∧ o.2.2 ≤ 1500) : Stp ws n s o { s with errs := s.errs ++ [0], fs := s.fs.set k (inQ (cost ws k) (gq s.fs k) o.2.2 s.time) }
  | nought (h1 : o.1 = 2) (h2 : ∀ k, k < n → (gq s.fs k).bs.length = 0) : Stp ws n s o { s with errs := s.errs ++ [3] }
  | out (k : Nat) (b : Int) (h1 : o.1 = 2) (hb : Least s.fs n b) (hk : May s.fs n (max s.time b) k) :
      Stp ws n s o ⟨s.fs.set k (outQ (cost ws k) (gq s.fs k)), max s.time b + hd (gq s.fs k).bs * 27720, s.errs ++ [0], s.sent ++ [((k : Int), hd (gq s.fs k).bs)]⟩
theorem Stp.uniq {ws : List Int} {n : Nat} {s : S} {o : O3} {a b : S} (h : Stp ws n s o a) (h' : Stp ws n s o b) : a = b := by
  cases h with
  | kind h1 h2 => cases h' <;> first | rfl | (exfalso; omega)
  | none h1 h2 => cases h' <;> first | rfl | (exfalso; omega)
  | range h1 h2 h3 => cases h' <;> first | rfl | (exfalso; omega)
  | inn k h1 h2 hk h3 =>
    cases h' with
    | inn j g1 g2 gk g3 =>
      obtain rfl : k = j := by omega
      rfl
    | _ => exfalso; omega
  | nought h1 h2 =>
    cases h' with
    | nought => rfl
    | out j b g1 gb gk => exfalso; have := h2 j gk.1; have := gk.2.1; omega
    | _ => exfalso; omega
  | out k b h1 hb hk =>
    cases h' with
    | nought g1 g2 => exfalso; have := g2 k hk.1; have := hk.2.1; omega
    | out j b' g1 gb gk =>
      obtain rfl := hb.uniq gb
      obtain rfl := hk.uniq gk
      rfl
    | _ => exfalso; omega
def Run (ws : List Int) (os : List O3) (n : Nat) : Nat → S → Prop
  | 0, s => s = ⟨List.replicate n Q.nil, 0, [], []⟩
  | i + 1, s => ∃ s0, Run ws os n i s0 ∧ Stp ws n s0 (os.getD i (0, 0, 0)) s
/-- A flow's numbers are so great at most. -/
def Okq (B : Int) (q : Q) : Prop := (0 ≤ q.bg ∧ q.bg ≤ B) ∧ (0 ≤ q.en ∧ q.en ≤ B) ∧ ∀ x ∈ q.bs, 1 ≤ x ∧ x ≤ 1500
structure Wf (n i : Nat) (s : S) : Prop where
  len : s.fs.length = n
  ok : ∀ k, Okq (i * 8000000000) (gq s.fs k)
  time : 0 ≤ s.time ∧ s.time ≤ i * 8000000000
  errs : s.errs.length = i
  sent : s.sent.length ≤ i
  cnt : ∀ k, (gq s.fs k).bs.length ≤ i
theorem okq_mono {B C : Int} {q : Q} (h : Okq B q) (hc : B ≤ C) : Okq C q := by
  obtain ⟨h1, h2, h3⟩ := h
  exact ⟨by omega, by omega, h3⟩
theorem gq_nil {n k : Nat} : gq (List.replicate n Q.nil) k = Q.nil := by
  unfold gq
  simp only [List.getD_eq_getElem?_getD, List.getElem?_replicate]
  split <;> rfl
theorem gq_set {fs : List Q} {k j : Nat} {x : Q} (h : k < fs.length) : gq (fs.set k x) j = if j = k then x else gq fs j := getD_set h
theorem wf_zero (n : Nat) : Wf n 0 ⟨List.replicate n Q.nil, 0, [], []⟩ := by
  refine ⟨by simp, fun k => ?_, by simp, rfl, Nat.le_refl _, fun k => ?_⟩ <;> simp only [gq_nil]
  · exact ⟨by simp [Q.nil], by simp [Q.nil], by simp [Q.nil]⟩
  · simp [Q.nil]
theorem wf_err {n i : Nat} {s : S} (h : Wf n i s) (e : Int) : Wf n (i + 1) { s with errs := s.errs ++ [e] } :=
  ⟨h.len, fun k => okq_mono (h.ok k) (by omega), by have := h.time; show 0 ≤ s.time ∧ s.time ≤ _; omega, by simp [h.errs], by have := h.sent; show s.sent.length ≤ _; omega, fun k => by have := h.cnt k; show (gq s.fs k).bs.length ≤ _; omega⟩
theorem sumw_bd : ∀ {ws : List Int}, (∀ k, k < ws.length → 1 ≤ ws.getD k 0 ∧ ws.getD k 0 ≤ 12) → (ws.length : Int) ≤ sumw ws ∧ sumw ws ≤ 12 * ws.length
  | [], _ => by simp [sumw]
  | w :: l, h => by
    have h1 := h 0 (by simp)
    have h2 := sumw_bd (ws := l) (fun k hk => by have := h (k + 1) (by simp; omega); simpa using this)
    simp only [List.getD_cons_zero] at h1
    simp only [sumw, List.length_cons]
    omega
theorem cost_bd {ws : List Int} {n k : Nat} (hn : ws.length = n) (h16 : n ≤ 16) (hw : ∀ k, k < n → 1 ≤ ws.getD k 0 ∧ ws.getD k 0 ≤ 12) (hk : k < n) : 0 ≤ cost ws k ∧ cost ws k ≤ 5322240 ∧ 1 ≤ sumw ws ∧ sumw ws ≤ 192 := by
  have h1 := sumw_bd (ws := ws) (fun j hj => hw j (by omega))
  obtain ⟨q1, q2, _⟩ := w_quo (hw k hk)
  have h2 : 0 ≤ 27720 / ws.getD k 0 * sumw ws := Int.mul_nonneg (by omega) (by omega)
  have h3 : 27720 / ws.getD k 0 * sumw ws ≤ 27720 * 192 := Int.mul_le_mul q2 (by omega) (by omega) (by omega)
  unfold cost
  omega
theorem pay_bd {b c : Int} (hb : 1 ≤ b ∧ b ≤ 1500) (hc : 0 ≤ c ∧ c ≤ 5322240) : 0 ≤ b * c ∧ b * c ≤ 7983360000 := by
  have h2 : 0 ≤ b * c := Int.mul_nonneg (by omega) (by omega)
  have h3 : b * c ≤ 1500 * 5322240 := Int.mul_le_mul hb.2 hc.2 (by omega) (by omega)
  omega
theorem hd_ok {q : Q} {B : Int} (h : Okq B q) (hl : 0 < q.bs.length) : 1 ≤ hd q.bs ∧ hd q.bs ≤ 1500 := h.2.2 _ (hd_mem (by intro e; rw [e] at hl; simp at hl))
theorem Wf.step {ws : List Int} {n i : Nat} {s s' : S} {o : O3} (h : Wf n i s) (hn : ws.length = n) (h16 : n ≤ 16) (hw : ∀ k, k < n → 1 ≤ ws.getD k 0 ∧ ws.getD k 0 ≤ 12) (hs : Stp ws n s o s') : Wf n (i + 1) s' := by
  have ht := h.time
  cases hs with
  | kind => exact wf_err h 5
  | none => exact wf_err h 3
  | range => exact wf_err h 2
  | nought => exact wf_err h 3
  | inn k h1 h2 hk h3 =>
    have hkl : k < s.fs.length := by rw [h.len]; exact hk
    have hc := cost_bd hn h16 hw hk
    have hp := pay_bd h3 ⟨hc.1, hc.2.1⟩
    obtain ⟨g1, g2, g3⟩ := h.ok k
    have hin : Okq ((i + 1 : Nat) * 8000000000) (inQ (cost ws k) (gq s.fs k) o.2.2 s.time) := by
      have hb : ∀ x ∈ (gq s.fs k).bs ++ [o.2.2], 1 ≤ x ∧ x ≤ 1500 := fun x hx => by
        rcases List.mem_append.1 hx with hx | hx
        · exact g3 x hx
        · simp only [List.mem_singleton] at hx; subst hx; exact h3
      unfold inQ
      cases decide ((gq s.fs k).bs.length = 0)
      · exact ⟨by simp only [cond_false]; omega, by simp only [cond_false]; omega, hb⟩
      · exact ⟨by simp only [cond_true]; omega, by simp only [cond_true]; omega, hb⟩
    refine ⟨by simp [h.len], fun j => ?_, by show 0 ≤ s.time ∧ s.time ≤ _; omega, by simp [h.errs], by have := h.sent; show s.sent.length ≤ _; omega, fun j => ?_⟩ <;> simp only [gq_set hkl] <;> split
    · exact hin
    · exact okq_mono (h.ok j) (by omega)
    · have := h.cnt k
      unfold inQ
      cases decide ((gq s.fs k).bs.length = 0) <;> simp <;> omega
    · have := h.cnt j; omega
  | out k b h1 hb hk =>
    have hkn := hk.1
    have hkl : k < s.fs.length := by rw [h.len]; exact hkn
    have hc := cost_bd hn h16 hw hkn
    obtain ⟨g1, g2, g3⟩ := h.ok k
    have hh := hd_ok (h.ok k) hk.2.1
    obtain ⟨⟨j0, j1, j2, j3⟩, _⟩ := hb
    have hb0 := (h.ok j0).1
    rw [j3] at hb0
    have hout : Okq ((i + 1 : Nat) * 8000000000) (outQ (cost ws k) (gq s.fs k)) := by
      have hd3 : ∀ x ∈ (gq s.fs k).bs.drop 1, 1 ≤ x ∧ x ≤ 1500 := fun x hx => g3 x (List.mem_of_mem_drop hx)
      unfold outQ
      by_cases e : (gq s.fs k).bs.length = 1
      · simp only [e, decide_true, cond_true]
        exact ⟨by simp only; omega, by simp only; omega, hd3⟩
      · have hl := hk.2.1
        have hp := pay_bd (hd3 _ (hd_mem (by intro q; have := congrArg List.length q; simp at this; omega))) ⟨hc.1, hc.2.1⟩
        simp only [e, decide_false, cond_false]
        exact ⟨by simp only; omega, by simp only; omega, hd3⟩
    refine ⟨by simp [h.len], fun j => ?_, by simp only; omega, by simp [h.errs], by have := h.sent; simp; omega, fun j => ?_⟩ <;> simp only [gq_set hkl] <;> split
    · exact hout
    · exact okq_mono (h.ok j) (by omega)
    · have := h.cnt k
      unfold outQ
      cases decide ((gq s.fs k).bs.length = 1) <;> simp <;> omega
    · have := h.cnt j; omega
theorem run_wf {ws : List Int} {os : List O3} {n : Nat} (hn : ws.length = n) (h16 : n ≤ 16) (hw : ∀ k, k < n → 1 ≤ ws.getD k 0 ∧ ws.getD k 0 ≤ 12) : ∀ {i : Nat} {s : S}, Run ws os n i s → Wf n i s
  | 0, _, h => by rw [h]; exact wf_zero n
  | _ + 1, _, ⟨_, h1, h2⟩ => (run_wf hn h16 hw h1).step hn h16 hw h2
def left (s : S) : List Int := s.fs.map fun q => (q.bs.length : Int)
end Go.Proofs.YtfcpmcdlgkfolaaDoor.Wfq

namespace Go.Proofs.YtfcpmcdlgkfolaaDoor.Wfq
open Go.RowKit Go.Proofs.YtfcpmcdlgkfolaaDoor.E Go.Proofs.YtfcpmcdlgkfolaaDoor.Scfq

section
variable {P : Program} {N : Nat} {w0 : World} {F : Frm} {L : List Res}
theorem res0 {fn : Func} (hf : fn.results = #[]) : ∀ a w, Fr N a F → St w0 w L → (results fn a.tmps).run P w = .ok (.tuple #[]) w := fun a w _ _ => by
  simp [results, hf]
theorem St.as {w : World} {i : Nat} {r r' : Res} (h : St w0 w L) (hi : lget L i = some r) (he : r = r') : St w0 w (lset L i r') := by
  subst he
  have hl : lset L i r = L := by
    clear h
    induction L generalizing i with
    | nil => rfl
    | cons a L ih => cases i with
      | zero => simp only [lget, Option.some.injEq] at hi; simp [lset, hi]
      | succ i => simp only [lset]; rw [ih hi]
  rwa [hl]
end
/-- The least begin of the first k. -/
def Lb (fs : List Q) (k : Nat) (b : Int) : Prop := (b = -1 ∧ ∀ j, j < k → (gq fs j).bs.length = 0) ∨ (0 ≤ b ∧ (∃ j, j < k ∧ 0 < (gq fs j).bs.length ∧ (gq fs j).bg = b) ∧ ∀ j, j < k → 0 < (gq fs j).bs.length → b ≤ (gq fs j).bg)
theorem lb_zero (fs : List Q) : Lb fs 0 (-1) := .inl ⟨rfl, fun j h => by omega⟩
theorem Lb.cases {fs : List Q} {k : Nat} {b : Int} (h : Lb fs k b) : b = -1 ∨ 0 ≤ b := h.elim (fun h => .inl h.1) (fun h => .inr h.1)
theorem Lb.skip {fs : List Q} {k : Nat} {b : Int} (h : Lb fs k b) (h0 : (gq fs k).bs.length = 0) : Lb fs (k + 1) b := by
  rcases h with ⟨h1, h2⟩ | ⟨h1, ⟨i, h2, h3, h4⟩, h5⟩
  · refine .inl ⟨h1, fun j hj => ?_⟩
    by_cases e : j = k
    · subst e; exact h0
    · exact h2 j (by omega)
  · refine .inr ⟨h1, ⟨i, by omega, h3, h4⟩, fun j hj hp => ?_⟩
    by_cases e : j = k
    · subst e; omega
    · exact h5 j (by omega) hp
theorem Lb.take {fs : List Q} {k : Nat} {b : Int} (h : Lb fs k b) (h0 : 0 < (gq fs k).bs.length) (hg : 0 ≤ (gq fs k).bg) (hb : b < 0 ∨ (gq fs k).bg < b) : Lb fs (k + 1) (gq fs k).bg := by
  refine .inr ⟨hg, ⟨k, by omega, h0, rfl⟩, fun j hj hp => ?_⟩
  by_cases e : j = k
  · subst e; exact Int.le_refl _
  · rcases h with ⟨h1, h2⟩ | ⟨h1, _, h5⟩
    · have := h2 j (by omega); omega
    · have := h5 j (by omega) hp; omega
theorem Lb.keep {fs : List Q} {k : Nat} {b : Int} (h : Lb fs k b) (h0 : 0 ≤ b) (hb : b ≤ (gq fs k).bg) : Lb fs (k + 1) b := by
  rcases h with ⟨h1, _⟩ | ⟨h1, ⟨i, h2, h3, h4⟩, h5⟩
  · omega
  · refine .inr ⟨h1, ⟨i, by omega, h3, h4⟩, fun j hj hp => ?_⟩
    by_cases e : j = k
    · subst e; exact hb
    · exact h5 j (by omega) hp
/-- The first of the soonest ends of the first k that may begin. -/
def Mb (fs : List Q) (t : Int) (k : Nat) (b : Int) : Prop := (b = -1 ∧ ∀ j, j < k → 0 < (gq fs j).bs.length → t < (gq fs j).bg) ∨ (0 ≤ b ∧ b.toNat < k ∧ 0 < (gq fs b.toNat).bs.length ∧ (gq fs b.toNat).bg ≤ t ∧ ∀ j, j < k → 0 < (gq fs j).bs.length → (gq fs j).bg ≤ t → (gq fs b.toNat).en < (gq fs j).en ∨ ((gq fs b.toNat).en = (gq fs j).en ∧ b.toNat ≤ j))
theorem mb_zero (fs : List Q) (t : Int) : Mb fs t 0 (-1) := .inl ⟨rfl, fun j h => by omega⟩
theorem Mb.cases {fs : List Q} {t : Int} {k : Nat} {b : Int} (h : Mb fs t k b) : b = -1 ∨ (0 ≤ b ∧ b.toNat < k) := h.elim (fun h => .inl h.1) (fun h => .inr ⟨h.1, h.2.1⟩)
theorem Mb.skip {fs : List Q} {t : Int} {k : Nat} {b : Int} (h : Mb fs t k b) (h0 : (gq fs k).bs.length = 0 ∨ t < (gq fs k).bg) : Mb fs t (k + 1) b := by
  rcases h with ⟨h1, h2⟩ | ⟨h1, h2, h3, h4, h5⟩
  · refine .inl ⟨h1, fun j hj hp => ?_⟩
    by_cases e : j = k
    · subst e; omega
    · exact h2 j (by omega) hp
  · refine .inr ⟨h1, by omega, h3, h4, fun j hj hp hg => ?_⟩
    by_cases e : j = k
    · subst e; omega
    · exact h5 j (by omega) hp hg
theorem Mb.take {fs : List Q} {t : Int} {k : Nat} {b : Int} (h : Mb fs t k b) (h0 : 0 < (gq fs k).bs.length) (hg : (gq fs k).bg ≤ t) (hb : b < 0 ∨ (gq fs k).en < (gq fs b.toNat).en) : Mb fs t (k + 1) (k : Int) := by
  refine .inr ⟨by omega, by omega, by simpa using h0, by simpa using hg, fun j hj hp hj2 => ?_⟩
  simp only [Int.toNat_natCast]
  by_cases e : j = k
  · subst e; exact .inr ⟨rfl, Nat.le_refl _⟩
  · rcases h with ⟨h1, h2⟩ | ⟨h1, h2, h3, h4, h5⟩
    · have := h2 j (by omega) hp; omega
    · have := h5 j (by omega) hp hj2; omega
theorem Mb.keep {fs : List Q} {t : Int} {k : Nat} {b : Int} (h : Mb fs t k b) (h0 : 0 ≤ b) (hb : (gq fs b.toNat).en ≤ (gq fs k).en) : Mb fs t (k + 1) b := by
  rcases h with ⟨h1, _⟩ | ⟨h1, h2, h3, h4, h5⟩
  · omega
  · refine .inr ⟨h1, by omega, h3, h4, fun j hj hp hj2 => ?_⟩
    by_cases e : j = k
    · subst e; omega
    · exact h5 j (by omega) hp hj2
theorem mb_may {fs : List Q} {n : Nat} {t b : Int} (h : Mb fs (max t b) n (-1 : Int)) (hl : Least fs n b) : False := by
  obtain ⟨⟨j, h1, h2, h3⟩, _⟩ := hl
  rcases h with ⟨_, h⟩ | ⟨h, _⟩
  · have := h j h1 h2; omega
  · omega
structure Fl where
  A1 : Option Addr
  c1 : Nat
  bs : List Int
  bg : Int
  en : Int
def Fl.nil : Fl := ⟨none, 0, [], 0, 0⟩
def Fl.q (f : Fl) : Q := ⟨f.bs, f.bg, f.en⟩
theorem hdI {ts : List Int} (h : 0 < ts.length) : (cI ts)[0]? = some (.int .i64 (hd ts)) := by
  cases ts with
  | nil => simp at h
  | cons a l => rfl
theorem lb_none {fs : List Q} {n k : Nat} {b : Int} (hk : k = n) (h : Lb fs k b) (hb : b < 0) : ∀ j, j < n → (gq fs j).bs.length = 0 := by
  subst hk
  rcases h with ⟨_, h⟩ | ⟨h, _⟩
  · exact h
  · omega
theorem lb_some {fs : List Q} {n k : Nat} {b : Int} (hk : k = n) (h : Lb fs k b) (hb : ¬ b < 0) : 0 ≤ b ∧ Least fs n b := by
  subst hk
  rcases h with ⟨h, _⟩ | ⟨h, h1, h2⟩
  · omega
  · exact ⟨h, h1, h2⟩
theorem mb_some {fs : List Q} {n k : Nat} {t b m : Int} (hk : k = n) (h : Mb fs (max t b) k m) (hl : Least fs n b) : ∃ q : Nat, m = q ∧ May fs n (max t b) q := by
  subst hk
  have h0 : m ≠ -1 := fun e => by subst e; exact mb_may h hl
  rcases h with ⟨h, _⟩ | ⟨h1, h2, h3, h4, h5⟩
  · exact absurd h h0
  · exact ⟨m.toNat, by omega, h2, h3, h4, h5⟩
end Go.Proofs.YtfcpmcdlgkfolaaDoor.Wfq

namespace Go.Proofs.YtfcpmcdlgkfolaaDoor.Wfq
open Go.RowKit Go.Proofs.YtfcpmcdlgkfolaaDoor.E Go.Proofs.YtfcpmcdlgkfolaaDoor.Scfq

theorem getW {zs : List Int} {j : Nat} (h : j < zs.length) : (zs.map (Value.int .i64))[j]? = some (.int .i64 (zs.getD j 0)) := by simp [h]
end Go.Proofs.YtfcpmcdlgkfolaaDoor.Wfq
