/- Side by side: who is done when, plain; a sort that takes the next one down. -/
import Derived.Test.YtpknjfeiiaopgaaMem
namespace Go.Proofs.Ytpknjfeiiaopgaa.Gps

def gI (l : List Int) (k : Nat) : Int := l.getD k 0
theorem gI_lt {l : List Int} {k : Nat} (h : k < l.length) : gI l k = l[k] := by simp [gI, List.getD_eq_getElem?_getD, h]
def okk (bs ws : List Int) (k : Nat) : Prop := (0 ≤ gI bs k ∧ gI bs k ≤ 1048576) ∧ 1 ≤ gI ws k ∧ gI ws k ≤ 1000
open Classical in
/-- What is wrong. -/
noncomputable def wr (bs ws : List Int) : Int := if bs.length ≠ ws.length then 1 else if bs.length ≤ 16 ∧ ∀ k, k < bs.length → okk bs ws k then 0 else 2
variable {bs ws : List Int}
theorem wr_len (h : bs.length ≠ ws.length) : wr bs ws = 1 := by unfold wr; rw [if_pos h]
theorem wr_long (h : bs.length = ws.length) (h2 : 16 < bs.length) : wr bs ws = 2 := by unfold wr; rw [if_neg (fun h9 => h9 h), if_neg (fun h9 => by omega)]
theorem wr_bad (h : bs.length = ws.length) {k : Nat} (hk : k < bs.length) (h2 : ¬ okk bs ws k) : wr bs ws = 2 := by unfold wr; rw [if_neg (fun h9 => h9 h), if_neg (fun h9 => h2 (h9.2 k hk))]
theorem wr_ok (h : bs.length = ws.length) (h2 : bs.length ≤ 16) (h3 : ∀ k, k < bs.length → okk bs ws k) : wr bs ws = 0 := by unfold wr; rw [if_neg (fun h9 => h9 h), if_pos ⟨h2, h3⟩]
structure Rg (n : Nat) (bs ws : List Int) : Prop where
  bl : bs.length = n
  wl : ws.length = n
  n16 : n ≤ 16
  ok : ∀ k, k < n → okk bs ws k
theorem wr_rg (h : wr bs ws = 0) : Rg bs.length bs ws := by
  unfold wr at h
  split at h
  · cases h
  · rename_i h1
    split at h
    · rename_i h2
      exact ⟨rfl, (Decidable.not_not.1 h1).symm, h2.1, h2.2⟩
    · cases h
theorem wr_iff {k : Nat} {b : Bool} (h : bs.length = ws.length) (hk : bs.length ≤ k) (hb : b = true ↔ bs.length ≤ 16 ∧ ∀ j, j < k → j < bs.length → okk bs ws j) : (b = true → wr bs ws = 0) ∧ (b = false → wr bs ws = 2) := by
  refine ⟨fun h1 => ?_, fun h1 => ?_⟩
  · have := hb.1 h1
    exact wr_ok h this.1 (fun k hk => this.2 k (by omega) hk)
  · unfold wr
    rw [if_neg (fun h9 => h9 h), if_neg (fun h9 => by
      have := hb.2 ⟨h9.1, fun j _ hj => h9.2 j hj⟩
      rw [h1] at this; cases this)]

def sm (f : Nat → Int) : Nat → Int
  | 0 => 0
  | n + 1 => sm f n + f n
theorem sm_bd {f : Nat → Int} {B : Int} : ∀ {n : Nat}, (∀ i, i < n → 0 ≤ f i ∧ f i ≤ B) → 0 ≤ sm f n ∧ sm f n ≤ n * B
  | 0, _ => by simp [sm]
  | n + 1, h => by
    have h1 := sm_bd (n := n) (fun i hi => h i (by omega))
    have h2 := h n (by omega)
    have : ((n + 1 : Nat) : Int) * B = n * B + B := by rw [Int.natCast_succ, Int.add_mul, Int.one_mul]
    simp only [sm]
    omega
theorem sm_congr {f g : Nat → Int} : ∀ {n : Nat}, (∀ i, i < n → f i = g i) → sm f n = sm g n
  | 0, _ => rfl
  | n + 1, h => by simp only [sm]; rw [sm_congr (n := n) (fun i hi => h i (by omega)), h n (by omega)]
theorem sm_mul (c : Int) (f : Nat → Int) : ∀ n : Nat, c * sm f n = sm (fun i => c * f i) n
  | 0 => by simp [sm]
  | n + 1 => by simp only [sm]; rw [Int.mul_add, sm_mul c f n]
theorem sm_add (f g : Nat → Int) : ∀ n : Nat, sm f n + sm g n = sm (fun i => f i + g i) n
  | 0 => by simp [sm]
  | n + 1 => by simp only [sm]; rw [← sm_add f g n]; omega
/-- When each flow is done, times its weight. -/
def eN (bs ws : List Int) (n k : Nat) : Int := sm (fun i => min (gI bs i * gI ws k) (gI bs k * gI ws i)) n
theorem mul_in {a b A B : Int} (h0 : 0 ≤ a) (h1 : a ≤ A) (h2 : 0 ≤ b) (h3 : b ≤ B) : 0 ≤ a * b ∧ a * b ≤ A * B := ⟨Int.mul_nonneg h0 h2, Int.mul_le_mul h1 h3 h2 (by omega)⟩
theorem Rg.mb {n i k : Nat} (h : Rg n bs ws) (hi : i < n) (hk : k < n) : 0 ≤ gI bs i * gI ws k ∧ gI bs i * gI ws k ≤ 1048576000 := by
  have h1 := (h.ok i hi).1
  have h2 := (h.ok k hk).2
  exact mul_in h1.1 h1.2 (by omega) h2.2
theorem eN_bd {n m k : Nat} (h : Rg n bs ws) (hm : m ≤ n) (hk : k < n) : 0 ≤ eN bs ws m k ∧ eN bs ws m k ≤ 16777216000 := by
  have h1 := sm_bd (f := fun i => min (gI bs i * gI ws k) (gI bs k * gI ws i)) (B := 1048576000) (n := m) (fun i hi => by
    have := h.mb (i := i) (k := k) (by omega) hk
    have := h.mb (i := k) (k := i) hk (by omega)
    omega)
  have h2 := h.n16
  have : (m : Int) * 1048576000 ≤ 16 * 1048576000 := Int.mul_le_mul_of_nonneg_right (by omega) (by decide)
  unfold eN
  omega

/-- Who is done first: of several the first one. -/
def Lt (e w : Nat → Int) (a c : Nat) : Prop := e a * w c < e c * w a ∨ (e a * w c = e c * w a ∧ a < c)
theorem Lt.trans {e w : Nat → Int} {a b c : Nat} (ha : 0 < w a) (hb : 0 < w b) (hc : 0 < w c) (h1 : Lt e w a b) (h2 : Lt e w b c) : Lt e w a c := by
  have k1 : e a * w b ≤ e b * w a := by unfold Lt at h1; omega
  have k2 : e b * w c ≤ e c * w b := by unfold Lt at h2; omega
  have m1 := Int.mul_le_mul_of_nonneg_right k1 (Int.le_of_lt hc)
  have m2 := Int.mul_le_mul_of_nonneg_right k2 (Int.le_of_lt ha)
  have e1 : e a * w b * w c = w b * (e a * w c) := by grind
  have e2 : e b * w a * w c = e b * w c * w a := by grind
  have e3 : e c * w b * w a = w b * (e c * w a) := by grind
  have m3 : w b * (e a * w c) ≤ w b * (e c * w a) := by omega
  have m4 := Int.le_of_mul_le_mul_left m3 hb
  by_cases h : e a * w c = e c * w a
  · refine .inr ⟨h, ?_⟩
    have m5 : w b * (e a * w c) = w b * (e c * w a) := by rw [h]
    have q1 : e a * w b * w c = e b * w a * w c := by omega
    have q2 : e b * w c * w a = e c * w b * w a := by omega
    have q3 := Int.eq_of_mul_eq_mul_right (by omega) q1
    have q4 := Int.eq_of_mul_eq_mul_right (by omega) q2
    unfold Lt at h1 h2
    omega
  · exact .inl (by omega)
def gN (l : List Nat) (i : Nat) : Nat := l.getD i 0
theorem gN_set {l : List Nat} {i j v : Nat} (hi : i < l.length) : gN (l.set i v) j = if j = i then v else gN l j := by
  unfold gN
  rw [List.getD_eq_getElem?_getD, List.getElem?_set]
  by_cases h : j = i
  · subst h; simp [hi]
  · rw [if_neg (fun e => h e.symm), if_neg h]; simp [List.getD_eq_getElem?_getD]
/-- A list that is sorted up to i. -/
structure Srt (L : Nat → Nat → Prop) (n i : Nat) (l : List Nat) : Prop where
  len : l.length = n
  rng : ∀ x, x < i → gN l x < i
  inj : ∀ x y, x < i → y < i → gN l x = gN l y → x = y
  ord : ∀ x y, x < y → y < i → L (gN l x) (gN l y)
  rest : ∀ x, i ≤ x → x < n → gN l x = x
  sur : ∀ v, v < i → ∃ x, x < i ∧ gN l x = v
/-- The one at j is still on its way. -/
structure Ins (L : Nat → Nat → Prop) (n i j : Nat) (l : List Nat) : Prop where
  len : l.length = n
  ji : j ≤ i
  lt : i < n
  at_ : gN l j = i
  rng : ∀ x, x ≤ i → gN l x ≤ i
  inj : ∀ x y, x ≤ i → y ≤ i → gN l x = gN l y → x = y
  ord : ∀ x y, x < y → y ≤ i → x ≠ j → y ≠ j → L (gN l x) (gN l y)
  up : ∀ y, j < y → y ≤ i → L i (gN l y)
  rest : ∀ x, i < x → x < n → gN l x = x
  sur : ∀ v, v ≤ i → ∃ x, x ≤ i ∧ gN l x = v
variable {L : Nat → Nat → Prop} {n i j : Nat} {l : List Nat}
theorem Srt.ins (h : Srt L n i l) (hi : i < n) : Ins L n i i l := by
  have hg : gN l i = i := h.rest i (Nat.le_refl _) hi
  refine ⟨h.len, Nat.le_refl _, hi, hg, fun x hx => ?_, fun x y hx hy e => ?_, fun x y hxy hy h1 h2 => h.ord x y hxy (by omega), fun y h1 h2 => by omega, fun x hx hn => h.rest x (by omega) hn, fun v hv => ?_⟩
  · by_cases e : x = i
    · rw [e, hg]; omega
    · have := h.rng x (by omega); omega
  · by_cases e1 : x = i <;> by_cases e2 : y = i
    · omega
    · have := h.rng y (by omega); rw [e1, hg] at e; omega
    · have := h.rng x (by omega); rw [e2, hg] at e; omega
    · exact h.inj x y (by omega) (by omega) e
  · by_cases e : v = i
    · exact ⟨i, Nat.le_refl _, by rw [hg, e]⟩
    · obtain ⟨x, h1, h2⟩ := h.sur v (by omega)
      exact ⟨x, by omega, h2⟩
theorem Ins.prev (h : Ins L n i j l) (hj : 0 < j) : gN l (j - 1) < i := by
  have h1 := h.rng (j - 1) (by have := h.ji; omega)
  have h2 : gN l (j - 1) ≠ i := fun e => by
    have := h.inj (j - 1) j (by have := h.ji; omega) h.ji (by rw [e, h.at_])
    omega
  omega
theorem Ins.step (h : Ins L n i j l) (hj : 0 < j) (hl : L i (gN l (j - 1))) : Ins L n i (j - 1) ((l.set j (gN l (j - 1))).set (j - 1) (gN l j)) := by
  rw [h.at_]
  have hln := h.len
  have hji := h.ji
  have hlt := h.lt
  have hg : ∀ x, gN ((l.set j (gN l (j - 1))).set (j - 1) i) x = if x = j - 1 then i else if x = j then gN l (j - 1) else gN l x := fun x => by
    rw [gN_set (by rw [List.length_set]; omega), gN_set (by omega)]
  have hpv := h.prev hj
  refine ⟨by simp [hln], by omega, hlt, by rw [hg, if_pos rfl], fun x hx => ?_, fun x y hx hy e => ?_, fun x y hxy hy h1 h2 => ?_, fun y h1 h2 => ?_, fun x hx hn => ?_, fun v hv => ?_⟩
  · rw [hg]
    split
    · omega
    · split
      · omega
      · exact h.rng x hx
  · have key : ∀ x, x ≤ i → gN ((l.set j (gN l (j - 1))).set (j - 1) i) x = gN l (if x = j - 1 then j else if x = j then j - 1 else x) := fun x hx => by
      rw [hg]
      split
      · rw [h.at_]
      · split <;> rfl
    rw [key x hx, key y hy] at e
    have := h.inj _ _ (by split <;> (try split) <;> omega) (by split <;> (try split) <;> omega) e
    (repeat' split at this) <;> omega
  · rw [hg, hg, if_neg h1, if_neg h2]
    by_cases e1 : x = j <;> by_cases e2 : y = j
    · omega
    · rw [if_pos e1, if_neg e2]
      exact h.ord (j - 1) y (by omega) hy (by omega) e2
    · rw [if_neg e1, if_pos e2]
      exact h.ord x (j - 1) (by omega) (by omega) e1 (by omega)
    · rw [if_neg e1, if_neg e2]
      exact h.ord x y hxy hy e1 e2
  · rw [hg, if_neg (by omega)]
    split
    · exact hl
    · exact h.up y (by omega) h2
  · rw [hg, if_neg (by omega), if_neg (by omega)]
    exact h.rest x hx hn
  · obtain ⟨x, h1, h2⟩ := h.sur v hv
    by_cases e1 : x = j
    · exact ⟨j - 1, by omega, by rw [hg, if_pos rfl, ← h.at_, ← e1]; exact h2⟩
    · by_cases e2 : x = j - 1
      · exact ⟨j, by omega, by rw [hg, if_neg (by omega), if_pos rfl, ← e2]; exact h2⟩
      · exact ⟨x, h1, by rw [hg, if_neg e2, if_neg e1]; exact h2⟩
theorem Ins.done (h : Ins L n i j l) (ht : ∀ a b c, a ≤ i → b ≤ i → c ≤ i → L a b → L b c → L a c) (hd : 0 < j → L (gN l (j - 1)) i) : Srt L n (i + 1) l := by
  have hji := h.ji
  refine ⟨h.len, fun x hx => by have := h.rng x (by omega); omega, fun x y hx hy e => h.inj x y (by omega) (by omega) e, fun x y hxy hy => ?_, fun x hx hn => h.rest x (by omega) hn, fun v hv => by
    obtain ⟨x, h1, h2⟩ := h.sur v (by omega)
    exact ⟨x, by omega, h2⟩⟩
  by_cases e1 : x = j
  · rw [e1, h.at_]
    exact h.up y (by omega) (by omega)
  · by_cases e2 : y = j
    · rw [e2, h.at_]
      have h1 := hd (by omega)
      by_cases e3 : x = j - 1
      · rw [e3]; exact h1
      · exact ht _ (gN l (j - 1)) _ (h.rng x (by omega)) (h.rng (j - 1) (by omega)) (Nat.le_refl _) (h.ord x (j - 1) (by omega) (by omega) e1 (by omega)) h1
    · exact h.ord x y hxy (by omega) e1 e2
theorem gN_range {n x : Nat} (h : x < n) : gN (List.range n) x = x := by simp [gN, List.getD_eq_getElem?_getD, h]
theorem Srt.one (n : Nat) : Srt L n 1 (List.range n) := by
  have h0 : gN (List.range n) 0 = 0 := by
    by_cases h : 0 < n
    · exact gN_range h
    · rw [show n = 0 by omega]; rfl
  refine ⟨by simp, fun x h => ?_, fun x y h1 h2 _ => by omega, fun x y h1 h2 => by omega, fun x _ h => gN_range h, fun v hv => ⟨0, by omega, by rw [h0]; omega⟩⟩
  rw [show x = 0 by omega, h0]; omega
theorem Srt.fin (h : Srt L n i l) (h1 : n ≤ i) (h2 : i ≤ n ∨ n = 0) : Srt L n n l := by
  by_cases e : i = n
  · rw [← e]; rw [← e] at h; exact h
  · have : n = 0 := by omega
    subst this
    exact ⟨h.len, fun x h => by omega, fun x y h => by omega, fun x y _ h => by omega, fun x _ h => by omega, fun v h => by omega⟩
/-- There is but one order. -/
theorem Srt.uniq {l' : List Nat} (h : Srt L n n l) (h' : Srt L n n l') (ha : ∀ a b, L a b → ¬ L b a) : l = l' := by
  have key : ∀ i, i < n → gN l i = gN l' i := by
    intro i
    induction i using Nat.strongRecOn with
    | ind i ih =>
      intro hi
      obtain ⟨y, y1, y2⟩ := h'.sur (gN l i) (h.rng i hi)
      obtain ⟨x, x1, x2⟩ := h.sur (gN l' i) (h'.rng i hi)
      have hy : i ≤ y := Nat.le_of_not_lt fun h9 => by
        have := ih y h9 y1
        rw [y2] at this
        have := h.inj _ _ y1 hi this
        omega
      have hx : i ≤ x := Nat.le_of_not_lt fun h9 => by
        have := ih x h9 x1
        rw [x2] at this
        have := h'.inj _ _ hi x1 this
        omega
      by_cases e1 : y = i
      · rw [← y2, e1]
      · by_cases e2 : x = i
        · rw [← x2, e2]
        · have g1 := h'.ord i y (by omega) y1
          have g2 := h.ord i x (by omega) x1
          rw [y2] at g1
          rw [x2] at g2
          exact absurd g1 (ha _ _ g2)
  apply List.ext_getElem (by rw [h.len, h'.len])
  intro i h1 h2
  have := key i (by rw [← h.len]; exact h1)
  simpa [gN, List.getD_eq_getElem?_getD, h1, h2] using this
theorem Lt.asym {e w : Nat → Int} (a b : Nat) (h : Lt e w a b) : ¬ Lt e w b a := by unfold Lt at *; omega
theorem lt_of {e w : Nat → Int} {x i : Nat} (h : ¬ e i * w x - e x * w i < 0) (hx : x < i) : Lt e w x i := by unfold Lt; omega
theorem lt_if {e w : Nat → Int} {x i : Nat} (h : e i * w x - e x * w i < 0) : Lt e w i x := .inl (by omega)
/-- By now all have had so much of what is theirs: bv / wv for each weight. -/
def fin (b w : Nat → Int) (bv wv : Int) (i : Nat) : Prop := b i * wv ≤ w i * bv
instance (b w : Nat → Int) (bv wv : Int) (i : Nat) : Decidable (fin b w bv wv i) := by unfold fin; infer_instance
def had (b w : Nat → Int) (bv wv : Int) (n : Nat) : Int := sm (fun i => min (b i * wv) (w i * bv)) n
def wsum (b w : Nat → Int) (bv wv : Int) (n : Nat) : Int := sm (fun i => if fin b w bv wv i then 0 else w i) n
def open_ (b w : Nat → Int) (bv wv : Int) : Nat → Nat
  | 0 => 0
  | n + 1 => open_ b w bv wv n + if fin b w bv wv n then 0 else 1
section
variable {b w : Nat → Int} {bv wv : Int} {q : Nat}
/-- Of those that are not done q is the first one. -/
structure Nxt (b w : Nat → Int) (bv wv : Int) (n q : Nat) : Prop where
  lt : q < n
  no : ¬ fin b w bv wv q
  le : ∀ i, i < n → ¬ fin b w bv wv i → b q * w i ≤ b i * w q
theorem fin_next (hw : ∀ i, i < n → 0 < w i) (hv : 0 < wv) (h : Nxt b w bv wv n q) {i : Nat} (hi : i < n) (hf : fin b w bv wv i) : fin b w (b q) (w q) i := by
  have h1 := h.no
  have hq := hw q h.lt
  have hwi := hw i hi
  unfold fin at *
  have m1 := Int.mul_le_mul_of_nonneg_right hf (Int.le_of_lt hq)
  have m2 := Int.mul_le_mul_of_nonneg_right (show w q * bv ≤ b q * wv by omega) (Int.le_of_lt hwi)
  have e1 : b i * wv * w q = b i * w q * wv := by grind
  have e2 : w i * bv * w q = w q * bv * w i := by grind
  have e3 : b q * wv * w i = w i * b q * wv := by grind
  exact Int.le_of_mul_le_mul_right (by omega) hv
theorem had_next (hw : ∀ i, i < n → 0 < w i) (hv : 0 < wv) (h : Nxt b w bv wv n q) : wv * had b w (b q) (w q) n = w q * had b w bv wv n + (b q * wv - w q * bv) * wsum b w bv wv n := by
  unfold had wsum
  rw [sm_mul, sm_mul, sm_mul, sm_add]
  refine sm_congr fun i hi => ?_
  by_cases hf : fin b w bv wv i
  · have h2 := fin_next hw hv h hi hf
    rw [if_pos hf]
    unfold fin at hf h2
    rw [Int.min_eq_left h2, Int.min_eq_left hf]
    grind
  · have h2 := h.le i hi hf
    rw [if_neg hf]
    unfold fin at hf
    rw [Int.min_eq_right (show w i * b q ≤ b i * w q by rw [Int.mul_comm]; exact h2), Int.min_eq_right (by omega)]
    grind
theorem min_mul {a c k : Int} (hk : 0 < k) : k * min a c = min (k * a) (k * c) := by
  rcases Int.le_total a c with h | h
  · rw [Int.min_eq_left h, Int.min_eq_left (Int.mul_le_mul_of_nonneg_left h (by omega))]
  · rw [Int.min_eq_right h, Int.min_eq_right (Int.mul_le_mul_of_nonneg_left h (by omega))]
theorem had_at {k : Nat} (hk : 0 < w k) (hv : 0 < wv) (he : b k * wv = w k * bv) : w k * had b w bv wv n = wv * sm (fun i => min (b i * w k) (b k * w i)) n := by
  unfold had
  rw [sm_mul, sm_mul]
  refine sm_congr fun i _ => ?_
  rw [min_mul hk, min_mul hv]
  congr 1
  · grind
  · grind
theorem open_le {bv' wv' : Int} : ∀ {n : Nat}, (∀ i, i < n → fin b w bv wv i → fin b w bv' wv' i) → open_ b w bv' wv' n ≤ open_ b w bv wv n
  | 0, _ => Nat.le_refl _
  | n + 1, h => by
    have h1 := open_le (n := n) (fun i hi => h i (by omega))
    have h2 := h n (by omega)
    simp only [open_]
    split <;> split <;> first | omega | (exfalso; rename_i g1 g2; exact g1 (h2 g2))
theorem open_lt {bv' wv' : Int} : ∀ {n : Nat}, (∀ i, i < n → fin b w bv wv i → fin b w bv' wv' i) → q < n → ¬ fin b w bv wv q → fin b w bv' wv' q → open_ b w bv' wv' n < open_ b w bv wv n
  | 0, _, hq, _, _ => by omega
  | n + 1, h, hq, h3, h4 => by
    by_cases e : q = n
    · subst e
      have h1 := open_le (n := q) (fun i hi => h i (by omega))
      simp only [open_]
      rw [if_pos h4, if_neg h3]
      omega
    · have h1 := open_lt (n := n) (fun i hi => h i (by omega)) (by omega) h3 h4
      have h2 := h n (by omega)
      simp only [open_]
      split <;> split <;> first | omega | (exfalso; rename_i g1 g2; exact g1 (h2 g2))
theorem Nxt.less (hw : ∀ i, i < n → 0 < w i) (hv : 0 < wv) (h : Nxt b w bv wv n q) : open_ b w (b q) (w q) n < open_ b w bv wv n :=
  open_lt (fun i hi hf => fin_next hw hv h hi hf) h.lt h.no (by unfold fin; rw [Int.mul_comm]; exact Int.le_refl _)
end
end Go.Proofs.Ytpknjfeiiaopgaa.Gps
