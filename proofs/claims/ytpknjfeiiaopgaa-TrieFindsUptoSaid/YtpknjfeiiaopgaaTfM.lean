/- Prefixes, plain: what is wrong with them, and the longest one of an address. -/
import Derived.Test.YtpknjfeiiaopgaaTrieA
namespace Go.Proofs.Ytpknjfeiiaopgaa.Trie
open Go.RowKit

/-- An address, byte by byte. -/
structure Ad where
  a : Int
  b : Int
  c : Int
  d : Int
  deriving DecidableEq
def Ad.v (x : Ad) : Int := n4 x.a x.b x.c x.d
def Ad.ok (x : Ad) : Prop := By x.a ∧ By x.b ∧ By x.c ∧ By x.d
structure Pfx where
  x : Ad
  n : Int
  to : Int
abbrev Pfx.v (p : Pfx) : Int := p.x.v
theorem Ad.bd {x : Ad} (h : x.ok) : 0 ≤ x.v ∧ x.v < 4294967296 := n4_bd h.1 h.2.1 h.2.2.1 h.2.2.2
theorem Ad.inj {x y : Ad} (h : x.ok) (h' : y.ok) : x.v = y.v ↔ x = y := by
  obtain ⟨⟨a0, a1⟩, ⟨b0, b1⟩, ⟨c0, c1⟩, d0, d1⟩ := h
  obtain ⟨⟨e0, e1⟩, ⟨f0, f1⟩, ⟨g0, g1⟩, i0, i1⟩ := h'
  constructor
  · intro e
    simp only [Ad.v, n4] at e
    have h1 : x.a = y.a := by omega
    have h2 : x.b = y.b := by omega
    have h3 : x.c = y.c := by omega
    have h4 : x.d = y.d := by omega
    cases x; cases y; simp_all
  · rintro rfl; rfl

theorem pre_full (v : Int) : pre v 32 = v := by simp [pre]
/-- All bits from n on, below j, are nought. -/
def noz (v : Int) (n j : Nat) : Prop := pre v j = pre v n * 2 ^ (j - n)
theorem noz_zero (v : Int) (n : Nat) : noz v n n := by simp [noz]
theorem noz_next {v : Int} {n j : Nat} (h : noz v n j) (hn : n ≤ j) (hj : j < 32) (hb : abit v j = 0) : noz v n (j + 1) := by
  unfold noz at h ⊢
  rw [pre_succ v j hj, h, hb, show j + 1 - n = (j - n) + 1 by omega, Int.pow_succ]
  generalize (2 : Int) ^ (j - n) = q
  rw [show pre v n * (q * 2) = pre v n * q * 2 from (Int.mul_assoc _ _ _).symm]
  generalize pre v n * q = r
  omega
theorem noz_ge {v : Int} {n : Nat} : ∀ (m : Nat) (j : Nat), n ≤ j → j + m ≤ 32 → pre v n * 2 ^ (j - n) < pre v j → pre v n * 2 ^ (j + m - n) < pre v (j + m)
  | 0, _, _, _, h => h
  | m + 1, j, h1, h2, h => by
    have ih := noz_ge m j h1 (by omega) h
    rw [← Nat.add_assoc, pre_succ v (j + m) (by omega), show j + m + 1 - n = (j + m - n) + 1 by omega, Int.pow_succ, ← Int.mul_assoc]
    have := abit_bd v (j + m)
    generalize pre v n * (2 : Int) ^ (j + m - n) = q at ih ⊢
    omega
theorem noz_one {v : Int} {n j : Nat} (h : noz v n j) (hn : n ≤ j) (hj : j < 32) (hb : abit v j = 1) : pre v n * 2 ^ (32 - n) ≠ v := by
  have h1 : pre v n * 2 ^ (j + 1 - n) < pre v (j + 1) := by
    unfold noz at h
    rw [pre_succ v j hj, h, hb, show j + 1 - n = (j - n) + 1 by omega, Int.pow_succ, ← Int.mul_assoc]
    generalize pre v n * (2 : Int) ^ (j - n) = q
    omega
  have h2 := noz_ge (31 - j) (j + 1) (by omega) (by omega) h1
  rw [show j + 1 + (31 - j) = 32 by omega, pre_full] at h2
  omega
theorem noz_all {v : Int} {n : Nat} (h : noz v n 32) : pre v n * 2 ^ (32 - n) = v := by
  unfold noz at h
  rw [pre_full] at h
  exact h.symm

/-- What is wrong with the prefix at k, by those ahead of it. -/
def dup (l : List Pfx) (k i : Nat) : Bool := match l[i]?, l[k]? with | some q, some p => decide (q.n = p.n ∧ q.v = p.v) | _, _ => false
def chk (l : List Pfx) (k : Nat) : Int :=
  match l[k]? with
  | none => 0
  | some p => if p.n < 0 ∨ 32 < p.n then 2 else if pre p.v p.n.toNat * 2 ^ (32 - p.n.toNat) ≠ p.v then 1 else if (List.range k).any (dup l k) then 6 else 0
def first (f : Nat → Int) : Nat → Nat → Int
  | 0, _ => 0
  | m + 1, k => if f k = 0 then first f m (k + 1) else f k
theorem first_go {f : Nat → Int} {n k : Nat} (h : ∀ i, i < k → f i = 0) (hk : k ≤ n) : first f n 0 = first f (n - k) k := by
  induction k with
  | zero => rfl
  | succ k ih =>
    rw [ih (fun i hi => h i (by omega)) (by omega), show n - k = (n - (k + 1)) + 1 by omega, first, if_pos (h k (by omega))]
def wrong (l : List Pfx) : Int := if 400 < l.length then 2 else first (chk l) l.length 0
theorem wrong_at {l : List Pfx} {k : Nat} (h : ∀ i, i < k → chk l i = 0) (hk : k < l.length) (hl : l.length ≤ 400) (hc : chk l k ≠ 0) : wrong l = chk l k := by
  unfold wrong
  rw [if_neg (by omega), first_go h (by omega), show l.length - k = (l.length - (k + 1)) + 1 by omega, first, if_neg hc]
theorem wrong_no {l : List Pfx} {k : Nat} (h : ∀ i, i < k → chk l i = 0) (hk : l.length ≤ k) (hl : l.length ≤ 400) : wrong l = 0 := by
  unfold wrong
  rw [if_neg (by omega), first_go (k := l.length) (fun i hi => h i (by omega)) (by omega), Nat.sub_self]; rfl
theorem first_zero {f : Nat → Int} : ∀ n k, first f n k = 0 → ∀ i, i < n → f (k + i) = 0
  | 0, _, _, _, hi => absurd hi (Nat.not_lt_zero _)
  | n + 1, k, h, i, hi => by
    unfold first at h
    by_cases h0 : f k = 0
    · rw [if_pos h0] at h
      cases i with
      | zero => exact h0
      | succ i => have := first_zero n (k + 1) h i (by omega); rwa [Nat.add_assoc, Nat.add_comm 1 i] at this
    · rw [if_neg h0] at h; exact absurd h h0
/-- Prefixes that may be. -/
structure Fine (l : List Pfx) : Prop where
  len : l.length ≤ 400
  bits : ∀ p ∈ l, 0 ≤ p.n ∧ p.n ≤ 32
  form : ∀ p ∈ l, pre p.v p.n.toNat * 2 ^ (32 - p.n.toNat) = p.v
  once : ∀ i k (hi : i < k) (hk : k < l.length), ¬ ((l[i]'(by omega)).n = l[k].n ∧ (l[i]'(by omega)).v = l[k].v)
theorem fine_of {l : List Pfx} (h : wrong l = 0) : Fine l := by
  unfold wrong at h
  split at h
  · cases h
  rename_i hl
  have h0 := first_zero _ _ h
  have h1 : ∀ k (hk : k < l.length), ¬ (l[k].n < 0 ∨ 32 < l[k].n) ∧ pre l[k].v l[k].n.toNat * 2 ^ (32 - l[k].n.toNat) = l[k].v ∧ (List.range k).any (dup l k) = false := fun k hk => by
    have := h0 k hk
    rw [Nat.zero_add] at this
    unfold chk at this
    rw [List.getElem?_eq_getElem hk] at this
    simp only at this
    split at this
    · cases this
    · rename_i a1
      split at this
      · cases this
      · rename_i a2
        split at this
        · cases this
        · rename_i a3
          exact ⟨a1, Decidable.not_not.1 a2, by simpa using a3⟩
  refine ⟨by omega, fun p hp => ?_, fun p hp => ?_, fun i k hi hk hd => ?_⟩
  · obtain ⟨k, hk, rfl⟩ := List.mem_iff_getElem.1 hp
    have := (h1 k hk).1
    omega
  · obtain ⟨k, hk, rfl⟩ := List.mem_iff_getElem.1 hp
    exact (h1 k hk).2.1
  · have h3 := (h1 k hk).2.2
    rw [List.any_eq_false] at h3
    have := h3 i (List.mem_range.2 hi)
    simp only [dup, List.getElem?_eq_getElem hk, List.getElem?_eq_getElem (show i < l.length by omega)] at this
    exact this (decide_eq_true hd)

/-- Does p stand for an address v? -/
def Fits (p : Pfx) (v : Int) : Prop := pre p.v p.n.toNat = pre v p.n.toNat
/-- The longest of those of less than k bits. -/
def Best (l : List Pfx) (v : Int) (k : Int) (to : Int) (ok : Bool) : Prop :=
  (ok = true ∧ ∃ p ∈ l, p.n < k ∧ Fits p v ∧ p.to = to ∧ ∀ q ∈ l, q.n < k → Fits q v → q.n ≤ p.n) ∨ (ok = false ∧ to = 0 ∧ ∀ q ∈ l, q.n < k → ¬ Fits q v)
theorem Fine.eq {l : List Pfx} (h : Fine l) {v : Int} {p q : Pfx} (hp : p ∈ l) (hq : q ∈ l) (hn : p.n = q.n) (fp : Fits p v) (fq : Fits q v) : p = q := by
  have e : p.v = q.v := by
    rw [← h.form p hp, ← h.form q hq, ← hn]
    unfold Fits at fp fq
    rw [fp, hn, fq]
  obtain ⟨i, hi, rfl⟩ := List.mem_iff_getElem.1 hp
  obtain ⟨j, hj, rfl⟩ := List.mem_iff_getElem.1 hq
  rcases Nat.lt_trichotomy i j with h1 | h1 | h1
  · exact absurd ⟨hn, e⟩ (h.once i j h1 hj)
  · subst h1; rfl
  · exact absurd ⟨hn.symm, e.symm⟩ (h.once j i h1 hi)
theorem Best.uniq {l : List Pfx} (h : Fine l) {v : Int} {k t t' : Int} {o o' : Bool} (h1 : Best l v k t o) (h2 : Best l v k t' o') : t = t' ∧ o = o' := by
  rcases h1 with ⟨rfl, p, hp, pk, fp, rfl, hm⟩ | ⟨rfl, rfl, hn⟩
  · rcases h2 with ⟨rfl, q, hq, qk, fq, rfl, hm'⟩ | ⟨rfl, rfl, hn'⟩
    · have := hm q hq qk fq
      have := hm' p hp pk fp
      rw [h.eq hp hq (by omega) fp fq]
      exact ⟨rfl, rfl⟩
    · exact absurd fp (hn' p hp pk)
  · rcases h2 with ⟨rfl, q, hq, qk, fq, rfl, hm'⟩ | ⟨rfl, rfl, hn'⟩
    · exact absurd fq (hn q hq qk)
    · exact ⟨rfl, rfl⟩
theorem Best.zero {l : List Pfx} (h : Fine l) (v : Int) : Best l v 0 0 false := .inr ⟨rfl, rfl, fun q hq hk _ => by have := (h.bits q hq).1; omega⟩
/-- One bit more: with one that stands there. -/
theorem Best.hit {l : List Pfx} {v : Int} {k : Int} {t : Int} {o : Bool} (_ : Best l v k t o) {p : Pfx} (hp : p ∈ l) (hk : p.n = k) (fp : Fits p v) : Best l v (k + 1) p.to true :=
  .inl ⟨rfl, p, hp, by omega, fp, rfl, fun q _ hq _ => by omega⟩
theorem Best.miss {l : List Pfx} {v : Int} {k : Int} {t : Int} {o : Bool} (h : Best l v k t o) (hno : ∀ p ∈ l, p.n = k → ¬ Fits p v) : Best l v (k + 1) t o := by
  rcases h with ⟨ho, p, hp, pk, fp, ht, hm⟩ | ⟨ho, ht, hn⟩
  · refine .inl ⟨ho, p, hp, by omega, fp, ht, fun q hq hk fq => ?_⟩
    by_cases e : q.n = k
    · exact absurd fq (hno q hq e)
    · exact hm q hq (by omega) fq
  · refine .inr ⟨ho, ht, fun q hq hk fq => ?_⟩
    by_cases e : q.n = k
    · exact hno q hq e fq
    · exact hn q hq (by omega) fq
theorem pre_up {v u : Int} {k m : Nat} (hk : k ≤ m) (hm : m ≤ 32) (h : pre v m = pre u m) : pre v k = pre u k := by
  apply Classical.byContradiction
  intro hne
  have := pre_other v u k (m - k) (by omega) hne
  rw [show k + (m - k) = m by omega] at this
  exact this h
/-- No path goes on. -/
theorem Best.stop {l : List Pfx} {v : Int} {k : Nat} {t : Int} {o : Bool} (hf : Fine l) (h : Best l v k t o) (hno : ∀ p ∈ l, (k : Int) ≤ p.n → pre p.v k ≠ pre v k) : Best l v 33 t o := by
  have key : ∀ q ∈ l, Fits q v → q.n < k := fun q hq fq => by
    have h1 := hf.bits q hq
    apply Classical.byContradiction
    intro hge
    exact hno q hq (by omega) (pre_up (by omega) (by omega) fq)
  rcases h with ⟨ho, p, hp, pk, fp, ht, hm⟩ | ⟨ho, ht, hn⟩
  · exact .inl ⟨ho, p, hp, by have := hf.bits p hp; omega, fp, ht, fun q hq _ fq => hm q hq (key q hq fq) fq⟩
  · exact .inr ⟨ho, ht, fun q hq _ fq => hn q hq (key q hq fq) fq⟩

/-- The best of the first i, as the document finds it: -1 bits, none. -/
def BestF (l : List Pfx) (v : Int) (i : Nat) (bn bt : Int) : Prop :=
  (bn = -1 ∧ bt = 0 ∧ ∀ q ∈ l.take i, ¬ Fits q v) ∨ ∃ p ∈ l.take i, Fits p v ∧ bn = p.n ∧ bt = p.to ∧ ∀ q ∈ l.take i, Fits q v → q.n ≤ p.n
theorem BestF.zero (l : List Pfx) (v : Int) : BestF l v 0 (-1) 0 := .inl ⟨rfl, rfl, by simp⟩
theorem mem_take_succ {l : List Pfx} {i : Nat} (hi : i < l.length) {q : Pfx} : q ∈ l.take (i + 1) ↔ q ∈ l.take i ∨ q = l[i] := by
  rw [List.take_succ_eq_append_getElem hi, List.mem_append, List.mem_singleton]
theorem BestF.take {l : List Pfx} {v : Int} {i : Nat} {bn bt : Int} (h : BestF l v i bn bt) (hi : i < l.length) (h1 : bn < l[i].n) (h2 : Fits l[i] v) : BestF l v (i + 1) l[i].n l[i].to := by
  refine .inr ⟨l[i], (mem_take_succ hi).2 (.inr rfl), h2, rfl, rfl, fun q hq fq => ?_⟩
  rcases (mem_take_succ hi).1 hq with h3 | rfl
  · rcases h with ⟨_, _, hn⟩ | ⟨p, _, _, hb, _, hm⟩
    · exact absurd fq (hn q h3)
    · have := hm q h3 fq; omega
  · exact Int.le_refl _
theorem BestF.leave {l : List Pfx} {v : Int} {i : Nat} {bn bt : Int} (hf : Fine l) (h : BestF l v i bn bt) (hi : i < l.length) (h1 : ¬ (bn < l[i].n ∧ Fits l[i] v)) : BestF l v (i + 1) bn bt := by
  rcases h with ⟨hb, ht, hn⟩ | ⟨p, hp, fp, hb, ht, hm⟩
  · refine .inl ⟨hb, ht, fun q hq fq => ?_⟩
    rcases (mem_take_succ hi).1 hq with h3 | rfl
    · exact hn q h3 fq
    · have := hf.bits _ (List.getElem_mem hi)
      exact h1 ⟨by omega, fq⟩
  · refine .inr ⟨p, (mem_take_succ hi).2 (.inl hp), fp, hb, ht, fun q hq fq => ?_⟩
    rcases (mem_take_succ hi).1 hq with h3 | rfl
    · exact hm q h3 fq
    · apply Classical.byContradiction
      intro hlt
      exact h1 ⟨by omega, fq⟩
theorem BestF.best {l : List Pfx} {v : Int} {i : Nat} {bn bt : Int} (hf : Fine l) (h : BestF l v i bn bt) (hi : l.length ≤ i) : Best l v 33 bt (decide (0 ≤ bn)) := by
  unfold BestF at h
  rw [List.take_of_length_le hi] at h
  rcases h with ⟨rfl, rfl, hn⟩ | ⟨p, hp, fp, rfl, rfl, hm⟩
  · exact .inr ⟨by simp, rfl, fun q hq _ => hn q hq⟩
  · have := hf.bits p hp
    exact .inl ⟨by simp; omega, p, hp, by omega, fp, rfl, fun q hq _ fq => hm q hq fq⟩
end Go.Proofs.Ytpknjfeiiaopgaa.Trie
