/- Ways in a tree, plain: the way from the first node, its share, where two ways part. -/
import Derived.Test.YtcpdelkamckmfaaHrW
import Derived.Test.YtcpdelkamckmfaaFrA
namespace Go.Proofs.Ytcpdelkamckmfaa.Hier
open Go.RowKit Go.Proofs.Ytcpdelkamckmfaa.E Go.Proofs.Ytcpdelkamckmfaa.Frac

def pathF (t : Tr) : Nat → Nat → List Nat
  | 0, k => [k]
  | f + 1, k => if t.u k < 0 then [k] else pathF t f (t.u k).toNat ++ [k]
def path (t : Tr) (k : Nat) : List Nat := pathF t k k
theorem pathF_eq {t : Tr} (g : t.Good) : ∀ (f k : Nat), k ≤ f → k < t.n → pathF t f k = pathF t k k
  | 0, k, h, _ => by obtain rfl : k = 0 := by omega
                     rfl
  | f + 1, k, h, hk => by
    cases k with
    | zero => show (if t.u 0 < 0 then [0] else pathF t f (t.u 0).toNat ++ [0]) = [0]; rw [if_pos (by have := g.u0; omega)]
    | succ k =>
      have hu := g.u (k + 1) (by omega) hk
      rw [pathF, pathF, if_neg (by omega), if_neg (by omega), pathF_eq g f _ (by omega) (by omega), pathF_eq g k _ (by omega) (by omega)]
theorem path_zero {t : Tr} : path t 0 = [0] := rfl
theorem path_step {t : Tr} (g : t.Good) {k p : Nat} (hk : k < t.n) (hu : t.u k = p) : path t k = path t p ++ [k] := by
  have hlt := (g.lt hk).1
  obtain ⟨j, rfl⟩ : ∃ j, k = j + 1 := ⟨k - 1, by omega⟩
  unfold path
  rw [pathF, if_neg (by omega), hu, Int.toNat_natCast, pathF_eq g j p (by omega) (by omega)]
theorem path_ind {t : Tr} (g : t.Good) {P : Nat → Prop} (h0 : P 0) (hs : ∀ k p : Nat, k < t.n → t.u k = (p : Int) → p < k → P p → P k) : ∀ k, k < t.n → P k := fun k => by
  induction k using Nat.strongRecOn with
  | _ k ih =>
    intro hk
    by_cases e : k = 0
    · subst e; exact h0
    · have hu := g.u k (by omega) hk
      exact hs k (t.u k).toNat hk (by omega) (by omega) (ih _ (by omega) (by omega))
theorem path_len {t : Tr} (g : t.Good) : ∀ k, k < t.n → 1 ≤ (path t k).length ∧ (path t k).length ≤ k + 1 :=
  path_ind g (by simp [path_zero]) fun k p hk hu hp ih => by rw [path_step g hk hu]; simp; omega
theorem path_first {t : Tr} (g : t.Good) : ∀ k, k < t.n → (path t k).getD 0 0 = 0 :=
  path_ind g rfl fun k p hk hu hp ih => by
    have := path_len g p (by omega)
    rw [path_step g hk hu]
    simp only [List.getD_eq_getElem?_getD] at ih ⊢
    rw [List.getElem?_append_left (by omega)]
    exact ih
theorem path_lt {t : Tr} (g : t.Good) : ∀ k, k < t.n → ∀ i, i < (path t k).length → (path t k).getD i 0 < t.n :=
  path_ind g (fun i hi => by simp [path_zero] at hi; subst hi; exact g.n1) fun k p hk hu hp ih i hi => by
    rw [path_step g hk hu] at hi ⊢
    simp only [List.length_append, List.length_singleton] at hi
    by_cases e : i < (path t p).length
    · have := ih i e
      simp only [List.getD_eq_getElem?_getD] at this ⊢
      rw [List.getElem?_append_left e]
      exact this
    · simp only [List.getD_eq_getElem?_getD]
      rw [List.getElem?_append_right (by omega), show i - (path t p).length = 0 by omega]
      exact hk
theorem path_last {t : Tr} (g : t.Good) : ∀ k, k < t.n → (path t k).getD ((path t k).length - 1) 0 = k :=
  path_ind g rfl fun k p hk hu hp ih => by
    rw [path_step g hk hu]
    simp [List.getD_eq_getElem?_getD]
theorem path_take {t : Tr} (g : t.Good) : ∀ k, k < t.n → ∀ i, i < (path t k).length → path t ((path t k).getD i 0) = (path t k).take (i + 1) :=
  path_ind g (fun i hi => by simp [path_zero] at hi; subst hi; rfl) fun k p hk hu hp ih i hi => by
    have hl := path_len g p (by omega)
    have e0 := path_step g hk hu
    by_cases e : i < (path t p).length
    · have h1 := ih i e
      have h2 : (path t k).getD i 0 = (path t p).getD i 0 := by
        rw [e0]
        simp only [List.getD_eq_getElem?_getD]
        rw [List.getElem?_append_left e]
      rw [h2, h1, e0, List.take_append_of_le_length (by omega)]
    · have hi2 : i = (path t p).length := by rw [e0] at hi; simp at hi; omega
      have h2 : (path t k).getD i 0 = k := by
        have := path_last g k hk
        rwa [show (path t k).length - 1 = i by rw [e0]; simp; omega] at this
      rw [h2, List.take_of_length_le (by rw [e0]; simp; omega)]
theorem path_prev {t : Tr} (g : t.Good) {k i : Nat} (hk : k < t.n) (h0 : 0 < i) (hi : i < (path t k).length) : t.u ((path t k).getD i 0) = ((path t k).getD (i - 1) 0 : Nat) := by
  have h1 := path_take g k hk i hi
  have hq := path_lt g k hk i hi
  generalize hj : (path t k).getD i 0 = j at h1 hq
  have hl : (path t j).length = i + 1 := by rw [h1, List.length_take]; omega
  have hj0 : j ≠ 0 := fun e => by subst e; rw [path_zero] at hl; simp at hl; omega
  have hu := g.u j (by omega) hq
  obtain ⟨p, hp⟩ : ∃ p : Nat, t.u j = p := ⟨(t.u j).toNat, by omega⟩
  have e0 := path_step g hq hp
  have hpl : (path t p).length = i := by rw [e0] at hl; simp at hl; omega
  have hp2 := path_last g p (by omega)
  rw [hp]
  have h3 : (path t k).getD (i - 1) 0 = (path t j).getD (i - 1) 0 := by
    rw [h1]
    simp only [List.getD_eq_getElem?_getD, List.getElem?_take]
    rw [if_pos (by omega)]
  rw [h3, e0]
  simp only [List.getD_eq_getElem?_getD] at hp2 ⊢
  rw [List.getElem?_append_left (by omega), ← hpl, hp2]
/-- What is still above. -/
def upTo (t : Tr) (c : Int) : List Nat := if c < 0 then [] else path t c.toNat
theorem upTo_neg {t : Tr} {c : Int} (h : c < 0) : upTo t c = [] := if_pos h
theorem upTo_step {t : Tr} (g : t.Good) {p : Nat} (hp : p < t.n) : upTo t (p : Int) = upTo t (t.u p) ++ [p] := by
  unfold upTo
  rw [if_neg (by omega), Int.toNat_natCast]
  by_cases e : p = 0
  · subst e; rw [if_pos (by have := g.u0; omega)]; rfl
  · have hu := g.u p (by omega) hp
    rw [if_neg (by omega)]
    exact path_step g hp (by omega)
/-- Two ways are the same up to m. -/
structure MeetAt (x y : List Nat) (m : Nat) : Prop where
  pos : 1 ≤ m
  le : m ≤ min x.length y.length
  same : ∀ i, i < m → x.getD i 0 = y.getD i 0
  stop : m = min x.length y.length ∨ x.getD m 0 ≠ y.getD m 0
theorem meet_not {t : Tr} (g : t.Good) {a b m i : Nat} (ha : a < t.n) (hb : b < t.n) (h : MeetAt (path t a) (path t b) m) (hm : m ≤ i) (hi : i < (path t a).length) : (path t a).getD i 0 ∉ path t b := fun hc => by
  obtain ⟨j, hj, he⟩ := List.getElem_of_mem hc
  have he2 : (path t b).getD j 0 = (path t a).getD i 0 := by rw [getD_lt hj]; exact he
  have h1 := path_take g a ha i hi
  have h2 := path_take g b hb j hj
  rw [he2, h1] at h2
  have hij : i = j := by
    have := congrArg List.length h2
    rw [List.length_take, List.length_take] at this
    omega
  subst hij
  have hall : ∀ q, q ≤ i → (path t a).getD q 0 = (path t b).getD q 0 := fun q hq => by
    have := congrArg (fun l => l.getD q 0) h2
    simp only [List.getD_eq_getElem?_getD, List.getElem?_take] at this ⊢
    rwa [if_pos (by omega), if_pos (by omega)] at this
  rcases h.stop with h3 | h3
  · omega
  · exact h3 (hall m hm)
theorem MeetAt.uniq {x y : List Nat} {m k : Nat} (h : MeetAt x y m) (h' : MeetAt x y k) : m = k := by
  have key : ∀ {m k}, MeetAt x y m → MeetAt x y k → ¬ m < k := fun {m k} h h' hlt => by
    rcases h.stop with h3 | h3
    · have := h'.le; omega
    · exact h3 (h'.same m hlt)
  have := key h h'
  have := key h' h
  omega
theorem mem_path {t : Tr} {b i : Nat} (hi : i < (path t b).length) : (path t b).getD i 0 ∈ path t b := by
  rw [getD_lt hi]; exact List.getElem_mem _
/-- A node's part of the one above it. -/
def prt (t : Tr) (k : Nat) : Int × Int := if t.u k < 0 then (1, 1) else (t.w k, t.sum (t.u k).toNat)
def shareF (t : Tr) : Nat → Nat → Int × Int × Int
  | 0, _ => (1, 1, 0)
  | f + 1, k => if t.u k < 0 then (1, 1, 0) else if (shareF t f (t.u k).toNat).2.2 = 0 then lo ((shareF t f (t.u k).toNat).1 * (prt t k).1) ((shareF t f (t.u k).toNat).2.1 * (prt t k).2) else (0, 0, (shareF t f (t.u k).toNat).2.2)
def share (t : Tr) (k : Nat) : Int × Int × Int := shareF t k k
theorem shareF_eq {t : Tr} (g : t.Good) : ∀ (f k : Nat), k ≤ f → k < t.n → shareF t f k = shareF t k k
  | 0, k, h, _ => by obtain rfl : k = 0 := by omega
                     rfl
  | f + 1, k, h, hk => by
    cases k with
    | zero => rw [shareF.eq_2, if_pos (by have := g.u0; omega)]; rfl
    | succ k =>
      have hu := g.u (k + 1) (by omega) hk
      have hn : ¬ t.u (k + 1) < 0 := by omega
      rw [shareF.eq_2 t (k + 1) f, shareF.eq_2 t (k + 1) k]
      simp only [if_neg hn]
      rw [shareF_eq g f _ (by omega) (by omega), shareF_eq g k _ (by omega) (by omega)]
theorem share_zero {t : Tr} : share t 0 = (1, 1, 0) := rfl
theorem share_step {t : Tr} (g : t.Good) {k p : Nat} (hk : k < t.n) (hu : t.u k = p) : share t k = if (share t p).2.2 = 0 then lo ((share t p).1 * (prt t k).1) ((share t p).2.1 * (prt t k).2) else (0, 0, (share t p).2.2) := by
  have hlt := (g.lt hk).1
  obtain ⟨j, rfl⟩ : ∃ j, k = j + 1 := ⟨k - 1, by omega⟩
  unfold share
  rw [shareF, if_neg (by omega), hu, Int.toNat_natCast, shareF_eq g j p (by omega) (by omega)]
theorem lo_cases (n d : Int) : ((lo n d).2.2 = 0 ∧ bright (lo n d).1 (lo n d).2.1 = true ∧ lo n d = (n.tdiv (Int.gcd n d : Int), d.tdiv (Int.gcd n d : Int), 0)) ∨ lo n d = (0, 0, 4) := by
  unfold lo
  split
  · rename_i h; exact .inl ⟨rfl, h, rfl⟩
  · exact .inr rfl
theorem lo_rat {n d : Int} (hd : 0 < d) (h : (lo n d).2.2 = 0) : mkRat (lo n d).1 (lo n d).2.1.toNat = mkRat n d.toNat ∧ bright (lo n d).1 (lo n d).2.1 = true := by
  rcases lo_cases n d with ⟨_, h1, h2⟩ | h1
  · refine ⟨?_, h1⟩
    rw [h2]
    have hg : 0 < (Int.gcd n d : Int) := by
      have := Int.gcd_pos_of_ne_zero_right n (show d ≠ 0 by omega)
      omega
    have hdv := Int.gcd_dvd_right n d
    have hnv := Int.gcd_dvd_left n d
    obtain ⟨a, ha⟩ := hnv
    obtain ⟨b, hb⟩ := hdv
    generalize hG : (Int.gcd n d : Int) = G at *
    have hb0 : 0 < b := by
      rcases Int.lt_or_le 0 b with h | h
      · exact h
      · have := Int.mul_nonpos_of_nonneg_of_nonpos (Int.le_of_lt hg) h
        omega
    dsimp only
    rw [ha, hb, Int.mul_tdiv_cancel_left _ (by omega), Int.mul_tdiv_cancel_left _ (by omega)]
    rw [Rat.mkRat_eq_iff (by omega) (by have := Int.mul_pos hg hb0; omega)]
    rw [Int.toNat_of_nonneg (Int.le_of_lt (Int.mul_pos hg hb0)), Int.toNat_of_nonneg (by omega)]
    rw [← Int.mul_assoc, Int.mul_comm a G]
  · rw [h1] at h
    cases h
theorem share_ok {t : Tr} (g : t.Good) : ∀ k, k < t.n → (share t k).2.2 = 0 → bright (share t k).1 (share t k).2.1 = true :=
  path_ind g (fun _ => rfl) fun k p hk hu hp ih h => by
    rw [share_step g hk hu] at h ⊢
    split at h
    · rename_i h1
      rw [if_pos h1]
      rcases lo_cases ((share t p).1 * (prt t k).1) ((share t p).2.1 * (prt t k).2) with ⟨_, h2, _⟩ | h2
      · exact h2
      · rw [h2] at h; cases h
    · rename_i h1; exact absurd h h1
theorem share_bad {t : Tr} (g : t.Good) : ∀ k, k < t.n → ¬ (share t k).2.2 = 0 → share t k = (0, 0, (share t k).2.2) :=
  path_ind g (fun h => absurd rfl h) fun k p hk hu hp ih h => by
    rw [share_step g hk hu] at h ⊢
    split at h
    · rename_i h1
      rw [if_pos h1]
      rcases lo_cases ((share t p).1 * (prt t k).1) ((share t p).2.1 * (prt t k).2) with ⟨h2, _⟩ | h2
      · exact absurd h2 h
      · rw [h2]
    · rename_i h1; rw [if_neg h1]
theorem share_err {t : Tr} (g : t.Good) : ∀ k, k < t.n → ∀ i, i < (path t k).length → ¬ (share t ((path t k).getD i 0)).2.2 = 0 → share t k = (0, 0, (share t ((path t k).getD i 0)).2.2) :=
  path_ind g (fun i hi h => by simp [path_zero] at hi; subst hi; exact absurd rfl h) fun k p hk hu hp ih i hi h => by
    have e0 := path_step g hk hu
    by_cases e : i < (path t p).length
    · have h2 : (path t k).getD i 0 = (path t p).getD i 0 := by
        rw [e0]
        simp only [List.getD_eq_getElem?_getD]
        rw [List.getElem?_append_left e]
      rw [h2] at h ⊢
      have h3 := ih i e h
      have h4 : (share t p).2.2 = (share t ((path t p).getD i 0)).2.2 := by rw [h3]
      rw [share_step g hk hu, if_neg (by rw [h4]; exact h), h4]
    · have h2 : (path t k).getD i 0 = k := by
        have := path_last g k hk
        rwa [show (path t k).length - 1 = i by rw [e0] at hi ⊢; simp at hi ⊢; omega] at this
      rw [h2] at h ⊢
      exact share_bad g k hk h
/-- The share of the first i of a way. -/
def shP (t : Tr) (x : List Nat) (i : Nat) : Int × Int × Int := if i = 0 then (1, 1, 0) else share t (x.getD (i - 1) 0)
theorem sumTo_pos {t : Tr} (g : t.Good) {k : Nat} {p : Nat} (hu : t.u k = p) : ∀ {m : Nat}, k < m → m ≤ t.n → 1 ≤ t.sumTo m p
  | m + 1, h, hm => by
    have h1 := sumTo_bd g (k := p) (n := m) (by omega)
    have h2 := g.w m (by omega)
    rw [Tr.sumTo]
    by_cases e : k = m
    · subst e; rw [decide_eq_true hu, cond_true]; omega
    · have := sumTo_pos g hu (m := m) (by omega) (by omega)
      cases decide (t.u m = p) <;> simp only [cond_true, cond_false] <;> omega
theorem sum_pos {t : Tr} (g : t.Good) {k : Nat} (hk : k < t.n) (hu : ¬ t.u k < 0) : 1 ≤ t.sum (t.u k).toNat := sumTo_pos g (k := k) (by omega) hk (Nat.le_refl _)
theorem prt_bright {t : Tr} (g : t.Good) {k : Nat} (hk : k < t.n) : bright (prt t k).1 (prt t k).2 = true := by
  unfold prt
  split
  · rfl
  · have h1 := g.w k hk
    have h2 := sum_bd g (t.u k).toNat
    have h3 : 1 ≤ t.sum (t.u k).toNat := sum_pos g hk (by omega)
    exact bright_iff.2 (by dsimp only; omega)
theorem shP_step {t : Tr} (g : t.Good) {a i : Nat} (ha : a < t.n) (hi : i < (path t a).length) (h : (shP t (path t a) i).2.2 = 0) : shP t (path t a) (i + 1) = lo ((shP t (path t a) i).1 * (prt t ((path t a).getD i 0)).1) ((shP t (path t a) i).2.1 * (prt t ((path t a).getD i 0)).2) := by
  unfold shP at h ⊢
  rw [if_neg (by omega), Nat.add_sub_cancel]
  by_cases e : i = 0
  · subst e
    rw [if_pos rfl, path_first g a ha, share_zero]
    have : prt t 0 = (1, 1) := by unfold prt; rw [if_pos (by have := g.u0; omega)]
    rw [this]
    rfl
  · rw [if_neg e] at h ⊢
    rw [share_step g (path_lt g a ha i hi) (path_prev g ha (by omega) hi), if_pos h]
theorem shP_end {t : Tr} (g : t.Good) {a : Nat} (ha : a < t.n) : shP t (path t a) (path t a).length = share t a := by
  unfold shP
  rw [if_neg (by have := path_len g a ha; omega), path_last g a ha]
theorem shP_ok {t : Tr} (g : t.Good) {a i : Nat} {x y : Int} (ha : a < t.n) (hi : i ≤ (path t a).length) (h : shP t (path t a) i = (x, y, 0)) : bright x y = true := by
  unfold shP at h
  by_cases e : i = 0
  · rw [if_pos e] at h
    injection h with h1 h2
    injection h2 with h2
    subst h1 h2
    rfl
  · rw [if_neg e] at h
    have h1 := share_ok g _ (path_lt g a ha (i - 1) (by omega)) (by rw [h])
    rw [h] at h1
    exact h1
theorem shP_err {t : Tr} (g : t.Good) {a i : Nat} (ha : a < t.n) (hi : i < (path t a).length) (h : ¬ (shP t (path t a) (i + 1)).2.2 = 0) : share t a = (0, 0, (shP t (path t a) (i + 1)).2.2) := by
  unfold shP at h ⊢
  rw [if_neg (by omega), Nat.add_sub_cancel] at h ⊢
  exact share_err g a ha i hi h
end Go.Proofs.Ytcpdelkamckmfaa.Hier
