/- Side by side: who is done when, plain; a sort that takes the next one down. -/
import Derived.Test.YtfcpmcdlgkfolaaDoorZsMem
import Derived.Test.YtfcpmcdlgkfolaaDoorZsFlO
import Derived.Test.YtfcpmcdlgkfolaaDoorZsEU
import Derived.Test.YtfcpmcdlgkfolaaDoorZsEF
namespace Go.Proofs.YtfcpmcdlgkfolaaDoor.Gps

/-- The address of a block. -/
abbrev P (b : Nat) : Value := .pointer (some ⟨b, 0, none⟩)
def gI (l : List Int) (k : Nat) : Int := l.getD k 0
theorem gI_lt {l : List Int} {k : Nat} (h : k < l.length) : gI l k = l[k] := by simp [gI, List.getD_eq_getElem?_getD, h]
def okk (bs ws : List Int) (k : Nat) : Prop := (0 ≤ gI bs k ∧ gI bs k ≤ 1048576) ∧ 1 ≤ gI ws k ∧ gI ws k ≤ 1000
open Classical in
/-- What is wrong. -/
noncomputable def wr (bs ws : List Int) : Int := if bs.length ≠ ws.length then 1 else if bs.length ≤ 16 ∧ ∀ k, k < bs.length → okk bs ws k then 0 else 2
variable {bs ws : List Int}
theorem wr_len (h : bs.length ≠ ws.length) : wr bs ws = 1 := by unfold wr; rw [if_pos h]
theorem wr_long (h : bs.length = ws.length) (h2 : 16 < bs.length) : wr bs ws = 2 := by unfold wr; rw [if_neg (fun h9 => h9 h), if_neg (fun h9 => by omega)]
theorem wr_bad (h : bs.length = ws.length) {k : Nat} (hk : k < bs.length) (h2 : ¬ okk bs ws k) : wr bs ws = 2 := by unfold wr; rw [if_neg (fun h9 => h9 h), if_neg (fun h9 => h2 (h9.2 k hk))]
theorem wr_ok (h : bs.length = ws.length) (h2 : bs.length ≤ 16) (h3 : ∀ k, k < bs.length → okk bs ws k) : wr bs ws = 0 := by unfold wr; rw [if_neg (fun h9 => h9 h), if_pos ⟨h2, h3⟩]
structure Rg (n : Nat) (bs ws : List Int) : Prop where
  bl : bs.length = n
  wl : ws.length = n
  n16 : n ≤ 16
  ok : ∀ k, k < n → okk bs ws k
theorem wr_rg (h : wr bs ws = 0) : Rg bs.length bs ws := by
  unfold wr at h
  split at h
  · cases h
  · rename_i h1
    split at h
    · rename_i h2
      exact ⟨rfl, (Decidable.not_not.1 h1).symm, h2.1, h2.2⟩
    · cases h
def sm (f : Nat → Int) : Nat → Int
  | 0 => 0
  | n + 1 => sm f n + f n
theorem sm_bd {f : Nat → Int} {B : Int} : ∀ {n : Nat}, (∀ i, i < n → 0 ≤ f i ∧ f i ≤ B) → 0 ≤ sm f n ∧ sm f n ≤ n * B
  | 0, _ => by simp [sm]
  | n + 1, h => by
    have h1 := sm_bd (n := n) (fun i hi => h i (by omega))
    have h2 := h n (by omega)
    have : ((n + 1 : Nat) : Int) * B = n * B + B := by rw [Int.natCast_succ, Int.add_mul, Int.one_mul]
    simp only [sm]
    omega
theorem sm_congr {f g : Nat → Int} : ∀ {n : Nat}, (∀ i, i < n → f i = g i) → sm f n = sm g n
  | 0, _ => rfl
  | n + 1, h => by simp only [sm]; rw [sm_congr (n := n) (fun i hi => h i (by omega)), h n (by omega)]
theorem sm_mul (c : Int) (f : Nat → Int) : ∀ n : Nat, c * sm f n = sm (fun i => c * f i) n
  | 0 => by simp [sm]
  | n + 1 => by simp only [sm]; rw [Int.mul_add, sm_mul c f n]
/-- When each flow is done, times its weight. -/
def eN (bs ws : List Int) (n k : Nat) : Int := sm (fun i => min (gI bs i * gI ws k) (gI bs k * gI ws i)) n
theorem mul_in {a b A B : Int} (h0 : 0 ≤ a) (h1 : a ≤ A) (h2 : 0 ≤ b) (h3 : b ≤ B) : 0 ≤ a * b ∧ a * b ≤ A * B := ⟨Int.mul_nonneg h0 h2, Int.mul_le_mul h1 h3 h2 (by omega)⟩
theorem Rg.mb {n i k : Nat} (h : Rg n bs ws) (hi : i < n) (hk : k < n) : 0 ≤ gI bs i * gI ws k ∧ gI bs i * gI ws k ≤ 1048576000 := by
  have h1 := (h.ok i hi).1
  have h2 := (h.ok k hk).2
  exact mul_in h1.1 h1.2 (by omega) h2.2
theorem eN_bd {n m k : Nat} (h : Rg n bs ws) (hm : m ≤ n) (hk : k < n) : 0 ≤ eN bs ws m k ∧ eN bs ws m k ≤ 16777216000 := by
  have h1 := sm_bd (f := fun i => min (gI bs i * gI ws k) (gI bs k * gI ws i)) (B := 1048576000) (n := m) (fun i hi => by
    have := h.mb (i := i) (k := k) (by omega) hk
    have := h.mb (i := k) (k := i) hk (by omega)
    omega)
  have h2 := h.n16
  have : (m : Int) * 1048576000 ≤ 16 * 1048576000 := Int.mul_le_mul_of_nonneg_right (by omega) (by decide)
  unfold eN
  omega

/-- Who is done first: of several the first one. -/
def Lt (e w : Nat → Int) (a c : Nat) : Prop := e a * w c < e c * w a ∨ (e a * w c = e c * w a ∧ a < c)
theorem Lt.trans {e w : Nat → Int} {a b c : Nat} (ha : 0 < w a) (hb : 0 < w b) (hc : 0 < w c) (h1 : Lt e w a b) (h2 : Lt e w b c) : Lt e w a c := by
  have k1 : e a * w b ≤ e b * w a := by unfold Lt at h1; omega
  have k2 : e b * w c ≤ e c * w b := by unfold Lt at h2; omega
  have m1 := Int.mul_le_mul_of_nonneg_right k1 (Int.le_of_lt hc)
  have m2 := Int.mul_le_mul_of_nonneg_right k2 (Int.le_of_lt ha)
  have e1 : e a * w b * w c = w b * (e a * w c) := by grind
  have e2 : e b * w a * w c = e b * w c * w a := by grind
  have e3 : e c * w b * w a = w b * (e c * w a) := by grind
  have m3 : w b * (e a * w c) ≤ w b * (e c * w a) := by omega
  have m4 := Int.le_of_mul_le_mul_left m3 hb
  by_cases h : e a * w c = e c * w a
  · refine .inr ⟨h, ?_⟩
    have m5 : w b * (e a * w c) = w b * (e c * w a) := by rw [h]
    have q1 : e a * w b * w c = e b * w a * w c := by omega
    have q2 : e b * w c * w a = e c * w b * w a := by omega
    have q3 := Int.eq_of_mul_eq_mul_right (by omega) q1
    have q4 := Int.eq_of_mul_eq_mul_right (by omega) q2
    unfold Lt at h1 h2
    omega
  · exact .inl (by omega)
def gN (l : List Nat) (i : Nat) : Nat := l.getD i 0
theorem gN_set {l : List Nat} {i j v : Nat} (hi : i < l.length) : gN (l.set i v) j = if j = i then v else gN l j := by
  unfold gN
  rw [List.getD_eq_getElem?_getD, List.getElem?_set]
  by_cases h : j = i
  · subst h; simp [hi]
  · rw [if_neg (fun e => h e.symm), if_neg h]; simp [List.getD_eq_getElem?_getD]
/-- A list that is sorted up to i. -/
structure Srt (L : Nat → Nat → Prop) (n i : Nat) (l : List Nat) : Prop where
  len : l.length = n
  rng : ∀ x, x < i → gN l x < i
  inj : ∀ x y, x < i → y < i → gN l x = gN l y → x = y
  ord : ∀ x y, x < y → y < i → L (gN l x) (gN l y)
  rest : ∀ x, i ≤ x → x < n → gN l x = x
  sur : ∀ v, v < i → ∃ x, x < i ∧ gN l x = v
/-- The one at j is still on its way. -/
structure Ins (L : Nat → Nat → Prop) (n i j : Nat) (l : List Nat) : Prop where
  len : l.length = n
  ji : j ≤ i
  lt : i < n
  at_ : gN l j = i
  rng : ∀ x, x ≤ i → gN l x ≤ i
  inj : ∀ x y, x ≤ i → y ≤ i → gN l x = gN l y → x = y
  ord : ∀ x y, x < y → y ≤ i → x ≠ j → y ≠ j → L (gN l x) (gN l y)
  up : ∀ y, j < y → y ≤ i → L i (gN l y)
  rest : ∀ x, i < x → x < n → gN l x = x
  sur : ∀ v, v ≤ i → ∃ x, x ≤ i ∧ gN l x = v
variable {L : Nat → Nat → Prop} {n i j : Nat} {l : List Nat}
theorem Srt.ins (h : Srt L n i l) (hi : i < n) : Ins L n i i l := by
  have hg : gN l i = i := h.rest i (Nat.le_refl _) hi
  refine ⟨h.len, Nat.le_refl _, hi, hg, fun x hx => ?_, fun x y hx hy e => ?_, fun x y hxy hy h1 h2 => h.ord x y hxy (by omega), fun y h1 h2 => by omega, fun x hx hn => h.rest x (by omega) hn, fun v hv => ?_⟩
  · by_cases e : x = i
    · rw [e, hg]; omega
    · have := h.rng x (by omega); omega
  · by_cases e1 : x = i <;> by_cases e2 : y = i
    · omega
    · have := h.rng y (by omega); rw [e1, hg] at e; omega
    · have := h.rng x (by omega); rw [e2, hg] at e; omega
    · exact h.inj x y (by omega) (by omega) e
  · by_cases e : v = i
    · exact ⟨i, Nat.le_refl _, by rw [hg, e]⟩
    · obtain ⟨x, h1, h2⟩ := h.sur v (by omega)
      exact ⟨x, by omega, h2⟩
theorem Ins.prev (h : Ins L n i j l) (hj : 0 < j) : gN l (j - 1) < i := by
  have h1 := h.rng (j - 1) (by have := h.ji; omega)
  have h2 : gN l (j - 1) ≠ i := fun e => by
    have := h.inj (j - 1) j (by have := h.ji; omega) h.ji (by rw [e, h.at_])
    omega
  omega
theorem Ins.step (h : Ins L n i j l) (hj : 0 < j) (hl : L i (gN l (j - 1))) : Ins L n i (j - 1) ((l.set j (gN l (j - 1))).set (j - 1) (gN l j)) := by
  rw [h.at_]
  have hln := h.len
  have hji := h.ji
  have hlt := h.lt
  have hg : ∀ x, gN ((l.set j (gN l (j - 1))).set (j - 1) i) x = if x = j - 1 then i else if x = j then gN l (j - 1) else gN l x := fun x => by
    rw [gN_set (by rw [List.length_set]; omega), gN_set (by omega)]
  have hpv := h.prev hj
  refine ⟨by simp [hln], by omega, hlt, by rw [hg, if_pos rfl], fun x hx => ?_, fun x y hx hy e => ?_, fun x y hxy hy h1 h2 => ?_, fun y h1 h2 => ?_, fun x hx hn => ?_, fun v hv => ?_⟩
  · rw [hg]
    split
    · omega
    · split
      · omega
      · exact h.rng x hx
  · have key : ∀ x, x ≤ i → gN ((l.set j (gN l (j - 1))).set (j - 1) i) x = gN l (if x = j - 1 then j else if x = j then j - 1 else x) := fun x hx => by
      rw [hg]
      split
      · rw [h.at_]
      · split <;> rfl
    rw [key x hx, key y hy] at e
    have := h.inj _ _ (by split <;> (try split) <;> omega) (by split <;> (try split) <;> omega) e
    (repeat' split at this) <;> omega
  · rw [hg, hg, if_neg h1, if_neg h2]
    by_cases e1 : x = j <;> by_cases e2 : y = j
    · omega
    · rw [if_pos e1, if_neg e2]
      exact h.ord (j - 1) y (by omega) hy (by omega) e2
    · rw [if_neg e1, if_pos e2]
      exact h.ord x (j - 1) (by omega) (by omega) e1 (by omega)
    · rw [if_neg e1, if_neg e2]
      exact h.ord x y hxy hy e1 e2
  · rw [hg, if_neg (by omega)]
    split
    · exact hl
    · exact h.up y (by omega) h2
  · rw [hg, if_neg (by omega), if_neg (by omega)]
    exact h.rest x hx hn
  · obtain ⟨x, h1, h2⟩ := h.sur v hv
    by_cases e1 : x = j
    · exact ⟨j - 1, by omega, by rw [hg, if_pos rfl, ← h.at_, ← e1]; exact h2⟩
    · by_cases e2 : x = j - 1
      · exact ⟨j, by omega, by rw [hg, if_neg (by omega), if_pos rfl, ← e2]; exact h2⟩
      · exact ⟨x, h1, by rw [hg, if_neg e2, if_neg e1]; exact h2⟩
theorem Ins.done (h : Ins L n i j l) (ht : ∀ a b c, a ≤ i → b ≤ i → c ≤ i → L a b → L b c → L a c) (hd : 0 < j → L (gN l (j - 1)) i) : Srt L n (i + 1) l := by
  have hji := h.ji
  refine ⟨h.len, fun x hx => by have := h.rng x (by omega); omega, fun x y hx hy e => h.inj x y (by omega) (by omega) e, fun x y hxy hy => ?_, fun x hx hn => h.rest x (by omega) hn, fun v hv => by
    obtain ⟨x, h1, h2⟩ := h.sur v (by omega)
    exact ⟨x, by omega, h2⟩⟩
  by_cases e1 : x = j
  · rw [e1, h.at_]
    exact h.up y (by omega) (by omega)
  · by_cases e2 : y = j
    · rw [e2, h.at_]
      have h1 := hd (by omega)
      by_cases e3 : x = j - 1
      · rw [e3]; exact h1
      · exact ht _ (gN l (j - 1)) _ (h.rng x (by omega)) (h.rng (j - 1) (by omega)) (Nat.le_refl _) (h.ord x (j - 1) (by omega) (by omega) e1 (by omega)) h1
    · exact h.ord x y hxy (by omega) e1 e2
theorem gN_range {n x : Nat} (h : x < n) : gN (List.range n) x = x := by simp [gN, List.getD_eq_getElem?_getD, h]
theorem Srt.one (n : Nat) : Srt L n 1 (List.range n) := by
  have h0 : gN (List.range n) 0 = 0 := by
    by_cases h : 0 < n
    · exact gN_range h
    · rw [show n = 0 by omega]; rfl
  refine ⟨by simp, fun x h => ?_, fun x y h1 h2 _ => by omega, fun x y h1 h2 => by omega, fun x _ h => gN_range h, fun v hv => ⟨0, by omega, by rw [h0]; omega⟩⟩
  rw [show x = 0 by omega, h0]; omega
theorem Srt.fin (h : Srt L n i l) (h1 : n ≤ i) (h2 : i ≤ n ∨ n = 0) : Srt L n n l := by
  by_cases e : i = n
  · rw [← e]; rw [← e] at h; exact h
  · have : n = 0 := by omega
    subst this
    exact ⟨h.len, fun x h => by omega, fun x y h => by omega, fun x y _ h => by omega, fun x _ h => by omega, fun v h => by omega⟩
/-- There is but one order. -/
theorem Srt.uniq {l' : List Nat} (h : Srt L n n l) (h' : Srt L n n l') (ha : ∀ a b, L a b → ¬ L b a) : l = l' := by
  have key : ∀ i, i < n → gN l i = gN l' i := by
    intro i
    induction i using Nat.strongRecOn with
    | ind i ih =>
      intro hi
      obtain ⟨y, y1, y2⟩ := h'.sur (gN l i) (h.rng i hi)
      obtain ⟨x, x1, x2⟩ := h.sur (gN l' i) (h'.rng i hi)
      have hy : i ≤ y := Nat.le_of_not_lt fun h9 => by
        have := ih y h9 y1
        rw [y2] at this
        have := h.inj _ _ y1 hi this
        omega
      have hx : i ≤ x := Nat.le_of_not_lt fun h9 => by
        have := ih x h9 x1
        rw [x2] at this
        have := h'.inj _ _ hi x1 this
        omega
      by_cases e1 : y = i
      · rw [← y2, e1]
      · by_cases e2 : x = i
        · rw [← x2, e2]
        · have g1 := h'.ord i y (by omega) y1
          have g2 := h.ord i x (by omega) x1
          rw [y2] at g1
          rw [x2] at g2
          exact absurd g1 (ha _ _ g2)
  apply List.ext_getElem (by rw [h.len, h'.len])
  intro i h1 h2
  have := key i (by rw [← h.len]; exact h1)
  simpa [gN, List.getD_eq_getElem?_getD, h1, h2] using this
theorem lt_of {e w : Nat → Int} {x i : Nat} (h : ¬ e i * w x - e x * w i < 0) (hx : x < i) : Lt e w x i := by unfold Lt; omega
theorem lt_if {e w : Nat → Int} {x i : Nat} (h : e i * w x - e x * w i < 0) : Lt e w i x := .inl (by omega)
/-- By now all have had so much of what is theirs: bv / wv for each weight. -/
def fin (b w : Nat → Int) (bv wv : Int) (i : Nat) : Prop := b i * wv ≤ w i * bv
instance (b w : Nat → Int) (bv wv : Int) (i : Nat) : Decidable (fin b w bv wv i) := by unfold fin; infer_instance
def had (b w : Nat → Int) (bv wv : Int) (n : Nat) : Int := sm (fun i => min (b i * wv) (w i * bv)) n
def open_ (b w : Nat → Int) (bv wv : Int) : Nat → Nat
  | 0 => 0
  | n + 1 => open_ b w bv wv n + if fin b w bv wv n then 0 else 1
section
variable {b w : Nat → Int} {bv wv : Int} {q : Nat}
/-- Of those that are not done q is the first one. -/
structure Nxt (b w : Nat → Int) (bv wv : Int) (n q : Nat) : Prop where
  lt : q < n
  no : ¬ fin b w bv wv q
  le : ∀ i, i < n → ¬ fin b w bv wv i → b q * w i ≤ b i * w q
theorem fin_next (hw : ∀ i, i < n → 0 < w i) (hv : 0 < wv) (h : Nxt b w bv wv n q) {i : Nat} (hi : i < n) (hf : fin b w bv wv i) : fin b w (b q) (w q) i := by
  have h1 := h.no
  have hq := hw q h.lt
  have hwi := hw i hi
  unfold fin at *
  have m1 := Int.mul_le_mul_of_nonneg_right hf (Int.le_of_lt hq)
  have m2 := Int.mul_le_mul_of_nonneg_right (show w q * bv ≤ b q * wv by omega) (Int.le_of_lt hwi)
  have e1 : b i * wv * w q = b i * w q * wv := by grind
  have e2 : w i * bv * w q = w q * bv * w i := by grind
  have e3 : b q * wv * w i = w i * b q * wv := by grind
  exact Int.le_of_mul_le_mul_right (by omega) hv
theorem min_mul {a c k : Int} (hk : 0 < k) : k * min a c = min (k * a) (k * c) := by
  rcases Int.le_total a c with h | h
  · rw [Int.min_eq_left h, Int.min_eq_left (Int.mul_le_mul_of_nonneg_left h (by omega))]
  · rw [Int.min_eq_right h, Int.min_eq_right (Int.mul_le_mul_of_nonneg_left h (by omega))]
theorem open_le {bv' wv' : Int} : ∀ {n : Nat}, (∀ i, i < n → fin b w bv wv i → fin b w bv' wv' i) → open_ b w bv' wv' n ≤ open_ b w bv wv n
  | 0, _ => Nat.le_refl _
  | n + 1, h => by
    have h1 := open_le (n := n) (fun i hi => h i (by omega))
    have h2 := h n (by omega)
    simp only [open_]
    split <;> split <;> first | omega | (exfalso; rename_i g1 g2; exact g1 (h2 g2))
theorem open_lt {bv' wv' : Int} : ∀ {n : Nat}, (∀ i, i < n → fin b w bv wv i → fin b w bv' wv' i) → q < n → ¬ fin b w bv wv q → fin b w bv' wv' q → open_ b w bv' wv' n < open_ b w bv wv n
  | 0, _, hq, _, _ => by omega
  | n + 1, h, hq, h3, h4 => by
    by_cases e : q = n
    · subst e
      have h1 := open_le (n := q) (fun i hi => h i (by omega))
      simp only [open_]
      rw [if_pos h4, if_neg h3]
      omega
    · have h1 := open_lt (n := n) (fun i hi => h i (by omega)) (by omega) h3 h4
      have h2 := h n (by omega)
      simp only [open_]
      split <;> split <;> first | omega | (exfalso; rename_i g1 g2; exact g1 (h2 g2))
theorem Nxt.less (hw : ∀ i, i < n → 0 < w i) (hv : 0 < wv) (h : Nxt b w bv wv n q) : open_ b w (b q) (w q) n < open_ b w bv wv n :=
  open_lt (fun i hi hf => fin_next hw hv h hi hf) h.lt h.no (by unfold fin; rw [Int.mul_comm]; exact Int.le_refl _)
end
end Go.Proofs.YtfcpmcdlgkfolaaDoor.Gps

namespace Go.Proofs.YtfcpmcdlgkfolaaDoor.Gps
open Go.RowKit Go.Proofs.YtfcpmcdlgkfolaaDoor.E

theorem res0 {P : Program} {N : Nat} {w0 : World} {F : Frm} {L : List Res} {fn : Func} (hf : fn.results = #[]) : ∀ a w, Fr N a F → St w0 w L → (results fn a.tmps).run P w = .ok (.tuple #[]) w := fun a w _ _ => by
  simp [results, hf]
theorem getG {zs : List Int} {i : Nat} (h : i < zs.length) : (zs.map (Value.int .i64))[i]? = some (.int .i64 (gI zs i)) := by
  rw [List.getElem?_map, List.getElem?_eq_getElem h, gI_lt h]; rfl
theorem okk_succ {bs ws : List Int} {i : Nat} : (∀ j, j < i + 1 → okk bs ws j) ↔ (∀ j, j < i → okk bs ws j) ∧ okk bs ws i := by
  constructor
  · intro h
    exact ⟨fun j hj => h j (by omega), h i (by omega)⟩
  · rintro ⟨h1, h2⟩ j hj
    by_cases e : j = i
    · rw [e]; exact h2
    · exact h1 j (by omega)
def eL (bs ws : List Int) (n i : Nat) : List Int := (List.range i).map (eN bs ws n)
theorem eL_succ {bs ws : List Int} {n i : Nat} : eL bs ws n (i + 1) = eL bs ws n i ++ [eN bs ws n i] := by simp [eL, List.range_succ]
theorem eL_len {bs ws : List Int} {n i : Nat} : (eL bs ws n i).length = i := by simp [eL]
theorem gI_eL {bs ws : List Int} {n i k : Nat} (h : k < i) : gI (eL bs ws n i) k = eN bs ws n k := by
  rw [gI_lt (by rw [eL_len]; exact h)]
  simp [eL]
theorem cI_app (l : List Int) (x : Int) : cI l ++ [(.int .i64 x)] = cI (l ++ [x]) := by simp [cI]
/-- Numbers of flows. -/
def cN (l : List Nat) : List Value := l.map fun (k : Nat) => (.int .i64 ((k : Int)))
theorem cN_len {l : List Nat} : (cN l).length = l.length := by simp [cN]
theorem cN_set {l : List Nat} {i v : Nat} : (cN l).set i (.int .i64 ((v : Int))) = cN (l.set i v) := by simp [cN, List.map_set]
theorem getN {l : List Nat} {i : Nat} (h : i < l.length) : (cN l)[i]? = some (.int .i64 ((gN l i : Int))) := by
  simp [cN, gN, List.getD_eq_getElem?_getD, h]
def fillN (n k : Nat) : List Value := (List.range n).map fun (j : Nat) => if j < k then (.int .i64 ((j : Int))) else (.int .i64 0)
theorem fillN_zero {n : Nat} : List.replicate n (.int .i64 0) = fillN n 0 := by
  apply List.ext_getElem
  · simp [fillN]
  · intro k h1 h2
    simp [fillN]
theorem fillN_all {n : Nat} : fillN n n = cN (List.range n) := List.map_congr_left fun k hk => by
  have := List.mem_range.1 hk
  rw [if_pos this]
theorem fillN_set {n i : Nat} (hi : i < n) : (fillN n i).set i (.int .i64 ((i : Int))) = fillN n (i + 1) := by
  apply List.ext_getElem
  · simp [fillN]
  · intro k h1 h2
    simp only [fillN, List.getElem_set, List.getElem_map, List.getElem_range]
    by_cases e : i = k
    · subst e
      rw [if_pos rfl, if_pos (by omega)]
    · rw [if_neg e]
      by_cases h : k < i
      · rw [if_pos h, if_pos (by omega)]
      · rw [if_neg h, if_neg (by omega)]
end Go.Proofs.YtfcpmcdlgkfolaaDoor.Gps

namespace Go.Proofs.YtfcpmcdlgkfolaaDoor.Gps
open Go.RowKit Go.Proofs.YtfcpmcdlgkfolaaDoor.E

set_option maxRecDepth 100000 in
set_option maxHeartbeats 2000000 in
theorem wrongE (A B : Option Addr) (n m c d : Nat) (bs ws : List Int) (w : World) (hb : Rd w A (bs.map (.int .i64))) (hw : Rd w B (ws.map (.int .i64))) (hbl : bs.length = n) (hwl : ws.length = m) (hn : n ≤ 140737488355328) (hm : m ≤ 140737488355328) :
    Calls Tryd.prog 29 #[.slice A n c, .slice B m d] w fun e w' => e = .returned ((.int .i64 (wr bs ws))) ∧ St w w' [] := by
  refine calls_tr Tryd.func29 Tryd.ntmps29 rfl rfl (St.refl _) ?_
  refine tr_seq ?_
  refine tr_region ?_
  refine tl_step rfl (oj_val (y_assign fe_c) ?_)
  refine tl_nil ?_
  refine tx_then ?_
  refine tr_seq ?_
  refine tr_block ?_
  refine tr_seq ?_
  refine tr_region ?_
  refine tl_step rfl (oj_val (y_move (fe_t rfl)) ?_)
  refine tl_step rfl (oj_val (y_len Tryd.underlying39 (fe_t rfl)) ?_)
  refine tl_step rfl (oj_val (y_move (fe_t rfl)) ?_)
  refine tl_step rfl (oj_val (y_len Tryd.underlying39 (fe_t rfl)) ?_)
  refine tl_step rfl (oj_val (y_neq (fe_t rfl) (fe_t rfl)) ?_)
  refine tl_step rfl (oj_val (y_assign (fe_t rfl)) ?_)
  refine tl_nil ?_
  refine tx_then ?_
  refine tr_condp (fe_t rfl) (fun hq1 => ?_) (fun hq2 => ?_)
  · try (exfalso; omega)
    all_goals
      refine tr_seq ?_
      refine tr_region ?_
      refine tl_step rfl (oj_val (y_assign fe_c) ?_)
      refine tl_nil ?_
      refine tx_then ?_
      refine tr_ret ?_
      refine tx_in_ret ?_
      refine tx_then_ret ?_
      refine tx_ret (res1 Tryd.results29 (rok_t rfl)) (fun w' hS => ?_)
      exact ⟨by rw [wr_len (by omega)], hS.pick [] _ rfl (by decide)⟩
  · try (exfalso; omega)
    all_goals
      refine tr_seq ?_
      refine tr_region ?_
      refine tl_step rfl (oj_val (y_move (fe_t rfl)) ?_)
      refine tl_step rfl (oj_val (y_len Tryd.underlying39 (fe_t rfl)) ?_)
      refine tl_step rfl (oj_val (y_gtr (fe_t rfl) fe_c) ?_)
      refine tl_step rfl (oj_val (y_assign (fe_t rfl)) ?_)
      refine tl_nil ?_
      refine tx_then ?_
      refine tr_condp (fe_t rfl) (fun hq3 => ?_) (fun hq4 => ?_)
      · try (exfalso; omega)
        all_goals
          refine tr_seq ?_
          refine tr_region ?_
          refine tl_step rfl (oj_val (y_assign fe_c) ?_)
          refine tl_nil ?_
          refine tx_then ?_
          refine tr_ret ?_
          refine tx_in_ret ?_
          refine tx_then_ret ?_
          refine tx_ret (res1 Tryd.results29 (rok_t rfl)) (fun w' hS => ?_)
          exact ⟨by rw [wr_long (by omega) (by omega)], hS.pick [] _ rfl (by decide)⟩
      · try (exfalso; omega)
        all_goals
          refine tr_skip ?_
          refine tx_in ?_
          refine tx_then ?_
          refine tr_seq ?_
          refine tr_seq ?_
          refine tr_region ?_
          refine tl_step rfl (oj_val (y_move (fe_t rfl)) ?_)
          refine tl_step rfl (oj_val (y_len Tryd.underlying39 (fe_t rfl)) ?_)
          refine tl_step rfl (oj_val (y_move fe_c) ?_)
          refine tl_nil ?_
          refine tx_then ?_
          refine tr_block ?_
          refine tr_loop1 [4, 5, 6, 19, 20, 21, 22, 23, 24, 25, 26, 27, 28, 29, 30, 31, 32, 33, 34, 35, 36, 37, 38, 39, 40, 41, 42, 43, 44] (fun (i : Nat) => [(19, .int .i64 (i : Int))]) 0 (fun (i : Nat) => []) (fun (i : Nat) => i ≤ n ∧ ∀ j, j < i → okk bs ws j) (fun (i : Nat) => n - i) (0) (cov_cons (by first | rfl | exact v_int (by omega) | exact v_bool (by simp [*])) (cov_nil)) (fun w h => h) ?_ ?_
          · try dsimp only
            exact ⟨by omega, fun k h => by omega⟩
          intro i hp
          obtain ⟨hi, hok⟩ := hp
          refine tr_seq ?_
          refine tr_region ?_
          refine tl_step rfl (oj_val (y_lss (fe_t rfl) (fe_t rfl)) ?_)
          refine tl_nil ?_
          refine tx_then ?_
          refine tr_seq ?_
          refine tr_condp (fe_t rfl) (fun hq5 => ?_) (fun hq6 => ?_)
          · try (exfalso; omega)
            all_goals
              refine tr_skip ?_
              refine tx_then ?_
              refine tr_seq ?_
              refine tr_block ?_
              refine tr_seq ?_
              refine tr_region ?_
              refine tl_step rfl (oj_val (y_move (fe_t rfl)) ?_)
              refine tl_step rfl (oj_val (y_index Tryd.underlying39 Tryd.sizeOf3 (fe_t rfl) (fe_t rfl) (rdl_out hb) (by simp; omega) (by decide) (by omega) (Nat.mul_one _)) ?_)
              refine tl_step rfl (oj_val (y_ld Tryd.isAgg3 (fe_t rfl) (rdl_out hb) (getG (zs := bs) (by omega))) ?_)
              refine tl_step rfl (oj_val (y_assign (fe_t rfl)) ?_)
              refine tl_step rfl (oj_val (y_assign (fe_t rfl)) ?_)
              refine tl_nil ?_
              refine tx_then ?_
              refine tr_seq ?_
              refine tr_region ?_
              refine tl_step rfl (oj_val (y_move (fe_t rfl)) ?_)
              refine tl_step rfl (oj_val (y_lss (fe_t rfl) fe_c) ?_)
              refine tl_step rfl (oj_val (y_move (fe_t rfl)) ?_)
              refine tl_splitp (d := 26) rfl (fun hq7 => ?_) (fun hq8 => ?_)
              · try (exfalso; omega)
                all_goals
                  refine tl_skip rfl rfl rfl rfl ?_
                  refine tl_skip rfl rfl rfl rfl ?_
                  refine tl_step rfl (oj_val (y_pickt (fe_t rfl) fe_c) ?_)
                  refine tl_step rfl (oj_val (y_move (fe_t rfl)) ?_)
                  refine tl_skip rfl rfl rfl rfl ?_
                  refine tl_skip rfl rfl rfl rfl ?_
                  refine tl_skip rfl rfl rfl rfl ?_
                  refine tl_skip rfl rfl rfl rfl ?_
                  refine tl_skip rfl rfl rfl rfl ?_
                  refine tl_step rfl (oj_val (y_pickt (fe_t rfl) fe_c) ?_)
                  refine tl_step rfl (oj_val (y_move (fe_t rfl)) ?_)
                  refine tl_skip rfl rfl rfl rfl ?_
                  refine tl_skip rfl rfl rfl rfl ?_
                  refine tl_skip rfl rfl rfl rfl ?_
                  refine tl_skip rfl rfl rfl rfl ?_
                  refine tl_skip rfl rfl rfl rfl ?_
                  refine tl_step rfl (oj_val (y_pickt (fe_t rfl) fe_c) ?_)
                  refine tl_nil ?_
                  refine tx_then ?_
                  refine tr_condt (fe_t rfl) ?_
                  refine tr_seq ?_
                  refine tr_region ?_
                  refine tl_step rfl (oj_val (y_assign fe_c) ?_)
                  refine tl_nil ?_
                  refine tx_then ?_
                  refine tr_ret ?_
                  refine tx_in_ret ?_
                  refine tx_then_ret ?_
                  refine tx_then_ret ?_
                  refine tx_in_ret ?_
                  refine tx_then_ret ?_
                  refine tx_ret (res1 Tryd.results29 (rok_t rfl)) (fun w' hS => ?_)
                  exact ⟨by rw [wr_bad (by omega) (k := i) (by omega) (fun h => by unfold okk at h; omega)], hS.pick [] _ rfl (by decide)⟩
              · try (exfalso; omega)
                all_goals
                  refine tl_want rfl rfl rfl (oj_val (y_move (fe_t rfl)) ?_)
                  refine tl_want rfl rfl rfl (oj_val (y_gtr (fe_t rfl) fe_c) ?_)
                  refine tl_step rfl (oj_val (y_pickf (fe_t rfl) (fe_t rfl)) ?_)
                  refine tl_step rfl (oj_val (y_move (fe_t rfl)) ?_)
                  refine tl_splitp (d := 30) rfl (fun hq9 => ?_) (fun hq10 => ?_)
                  · try (exfalso; omega)
                    all_goals
                      refine tl_skip rfl rfl rfl rfl ?_
                      refine tl_skip rfl rfl rfl rfl ?_
                      refine tl_skip rfl rfl rfl rfl ?_
                      refine tl_skip rfl rfl rfl rfl ?_
                      refine tl_skip rfl rfl rfl rfl ?_
                      refine tl_step rfl (oj_val (y_pickt (fe_t rfl) fe_c) ?_)
                      refine tl_step rfl (oj_val (y_move (fe_t rfl)) ?_)
                      refine tl_skip rfl rfl rfl rfl ?_
                      refine tl_skip rfl rfl rfl rfl ?_
                      refine tl_skip rfl rfl rfl rfl ?_
                      refine tl_skip rfl rfl rfl rfl ?_
                      refine tl_skip rfl rfl rfl rfl ?_
                      refine tl_step rfl (oj_val (y_pickt (fe_t rfl) fe_c) ?_)
                      refine tl_nil ?_
                      refine tx_then ?_
                      refine tr_condt (fe_t rfl) ?_
                      refine tr_seq ?_
                      refine tr_region ?_
                      refine tl_step rfl (oj_val (y_assign fe_c) ?_)
                      refine tl_nil ?_
                      refine tx_then ?_
                      refine tr_ret ?_
                      refine tx_in_ret ?_
                      refine tx_then_ret ?_
                      refine tx_then_ret ?_
                      refine tx_in_ret ?_
                      refine tx_then_ret ?_
                      refine tx_ret (res1 Tryd.results29 (rok_t rfl)) (fun w' hS => ?_)
                      exact ⟨by rw [wr_bad (by omega) (k := i) (by omega) (fun h => by unfold okk at h; omega)], hS.pick [] _ rfl (by decide)⟩
                  · try (exfalso; omega)
                    all_goals
                      refine tl_want rfl rfl rfl (oj_val (y_move (fe_t rfl)) ?_)
                      refine tl_want rfl rfl rfl (oj_val (y_move (fe_t rfl)) ?_)
                      refine tl_want rfl rfl rfl (oj_val (y_index Tryd.underlying39 Tryd.sizeOf3 (fe_t rfl) (fe_t rfl) (rdl_out hw) (by simp; omega) (by decide) (by omega) (Nat.mul_one _)) ?_)
                      refine tl_want rfl rfl rfl (oj_val (y_ld Tryd.isAgg3 (fe_t rfl) (rdl_out hw) (getG (zs := ws) (by omega))) ?_)
                      refine tl_want rfl rfl rfl (oj_val (y_lss (fe_t rfl) fe_c) ?_)
                      refine tl_step rfl (oj_val (y_pickf (fe_t rfl) (fe_t rfl)) ?_)
                      refine tl_step rfl (oj_val (y_move (fe_t rfl)) ?_)
                      refine tl_splitp (d := 37) rfl (fun hq11 => ?_) (fun hq12 => ?_)
                      · try (exfalso; omega)
                        all_goals
                          refine tl_skip rfl rfl rfl rfl ?_
                          refine tl_skip rfl rfl rfl rfl ?_
                          refine tl_skip rfl rfl rfl rfl ?_
                          refine tl_skip rfl rfl rfl rfl ?_
                          refine tl_skip rfl rfl rfl rfl ?_
                          refine tl_step rfl (oj_val (y_pickt (fe_t rfl) fe_c) ?_)
                          refine tl_nil ?_
                          refine tx_then ?_
                          refine tr_condt (fe_t rfl) ?_
                          refine tr_seq ?_
                          refine tr_region ?_
                          refine tl_step rfl (oj_val (y_assign fe_c) ?_)
                          refine tl_nil ?_
                          refine tx_then ?_
                          refine tr_ret ?_
                          refine tx_in_ret ?_
                          refine tx_then_ret ?_
                          refine tx_then_ret ?_
                          refine tx_in_ret ?_
                          refine tx_then_ret ?_
                          refine tx_ret (res1 Tryd.results29 (rok_t rfl)) (fun w' hS => ?_)
                          exact ⟨by rw [wr_bad (by omega) (k := i) (by omega) (fun h => by unfold okk at h; omega)], hS.pick [] _ rfl (by decide)⟩
                      · try (exfalso; omega)
                        all_goals
                          refine tl_want rfl rfl rfl (oj_val (y_move (fe_t rfl)) ?_)
                          refine tl_want rfl rfl rfl (oj_val (y_move (fe_t rfl)) ?_)
                          refine tl_want rfl rfl rfl (oj_val (y_index Tryd.underlying39 Tryd.sizeOf3 (fe_t rfl) (fe_t rfl) (rdl_out hw) (by simp; omega) (by decide) (by omega) (Nat.mul_one _)) ?_)
                          refine tl_want rfl rfl rfl (oj_val (y_ld Tryd.isAgg3 (fe_t rfl) (rdl_out hw) (getG (zs := ws) (by omega))) ?_)
                          refine tl_want rfl rfl rfl (oj_val (y_gtr (fe_t rfl) fe_c) ?_)
                          refine tl_step rfl (oj_val (y_pickf (fe_t rfl) (fe_t rfl)) ?_)
                          refine tl_nil ?_
                          refine tx_then ?_
                          refine tr_condp (fe_t rfl) (fun hq13 => ?_) (fun hq14 => ?_)
                          · try (exfalso; omega)
                            all_goals
                              refine tr_seq ?_
                              refine tr_region ?_
                              refine tl_step rfl (oj_val (y_assign fe_c) ?_)
                              refine tl_nil ?_
                              refine tx_then ?_
                              refine tr_ret ?_
                              refine tx_in_ret ?_
                              refine tx_then_ret ?_
                              refine tx_then_ret ?_
                              refine tx_in_ret ?_
                              refine tx_then_ret ?_
                              refine tx_ret (res1 Tryd.results29 (rok_t rfl)) (fun w' hS => ?_)
                              exact ⟨by rw [wr_bad (by omega) (k := i) (by omega) (fun h => by unfold okk at h; omega)], hS.pick [] _ rfl (by decide)⟩
                          · try (exfalso; omega)
                            all_goals
                              refine tr_skip ?_
                              refine tx_in ?_
                              refine tx_then ?_
                              refine tr_region ?_
                              refine tl_step rfl (oj_val (y_inc (fe_t rfl) fe_c (by omega)) ?_)
                              refine tl_step rfl (oj_val (y_move (fe_t rfl)) ?_)
                              refine tl_nil ?_
                              apply tx_back1 (i + 1)
                              · exact (cov_cons (by first | rfl | exact v_int (by omega) | exact v_bool (by simp [*])) (cov_nil))
                              · repeat (first | exact over_nil | refine over_put rfl ?_ | refine over_drop rfl ?_)
                              · exact fun w h => h.pick [] _ rfl (by decide)
                              · exact ⟨⟨by omega, okk_succ.2 ⟨hok, by unfold okk; omega⟩⟩, by omega⟩
          · try (exfalso; omega)
            all_goals
              refine tr_exit ?_
              refine tx_then_exit ?_
              refine tx_then_exit ?_
              refine tx_in_exit ?_
              refine tx_then ?_
              refine tr_seq ?_
              refine tr_region ?_
              refine tl_step rfl (oj_val (y_assign fe_c) ?_)
              refine tl_nil ?_
              refine tx_then ?_
              refine tr_ret ?_
              refine tx_ret (res1 Tryd.results29 (rok_t rfl)) (fun w' hS => ?_)
              exact ⟨by rw [wr_ok (by omega) (by omega) (fun k hk => hok k (by omega))], hS.pick [] _ rfl (by decide)⟩

set_option maxRecDepth 100000 in
set_option maxHeartbeats 4000000 in
theorem end_ok (A B : Option Addr) (n m c d : Nat) (bs ws : List Int) (w : World) (hb : Rd w A (bs.map (.int .i64))) (hw : Rd w B (ws.map (.int .i64))) (hbl : bs.length = n) (hwl : ws.length = m) (hn : n ≤ 140737488355328) (hm : m ≤ 140737488355328) (hz : wr bs ws = 0) :
    Calls Tryd.prog 59 #[.slice A n c, .slice B m d] w fun e w' => ∃ r : Vs, (r.n = n ∧ r.xs = cI (eL bs ws n n)) ∧ e = .returned (.tuple #[.slice r.A r.n r.c, (.int .i64 0)]) ∧ St w w' [vec 3 1 (.slice r.A r.n r.c) r.n r.xs] := by
  refine calls_tr Tryd.func59 Tryd.ntmps59 rfl rfl (St.refl _) ?_
  refine tr_seq ?_
  refine tr_region ?_
  refine tl_step rfl (oj_val (y_assign fe_c) ?_)
  refine tl_step rfl (oj_val (y_assign fe_c) ?_)
  refine tl_nil ?_
  refine tx_then ?_
  refine tr_seq ?_
  refine tr_seq ?_
  refine tr_region ?_
  refine tl_step rfl (oj_val (y_move (fe_t rfl)) ?_)
  refine tl_step rfl (oj_val (y_move (fe_t rfl)) ?_)
  refine tl_step rfl (oj_callv Tryd.call29 fe_f (fel_cons (fe_t rfl) (fel_cons (fe_t rfl) fel_nil)) (fun w' hS => wrongE A B n m c d bs ws w' (Rd.below hb hS.below) (Rd.below hw hS.below) hbl hwl hn hm) ?_)
  refine tl_step rfl (oj_val (y_assign (fe_t rfl)) ?_)
  refine tl_nil ?_
  refine tx_then ?_
  refine tr_seq ?_
  refine tr_region ?_
  refine tl_step rfl (oj_val (y_move (fe_t rfl)) ?_)
  refine tl_step rfl (oj_val (y_neq (fe_t rfl) fe_c) ?_)
  refine tl_nil ?_
  refine tx_then ?_
  refine tr_condp (fe_t rfl) (fun hq1 => ?_) (fun hq2 => ?_)
  · exfalso; omega
  · try (exfalso; omega)
    all_goals
      refine tr_skip ?_
      refine tx_then ?_
      refine tr_seq ?_
      have hrg := wr_rg hz
      rw [hbl] at hrg
      have hn16 := hrg.n16
      have hwl2 := hrg.wl
      refine tr_region ?_
      refine tl_step rfl (oj_val (y_assign fe_c) ?_)
      refine tl_nil ?_
      refine tx_then ?_
      refine tr_seq ?_
      refine tr_seq ?_
      refine tr_region ?_
      refine tl_step rfl (oj_val (y_move (fe_t rfl)) ?_)
      refine tl_step rfl (oj_val (y_len Tryd.underlying39 (fe_t rfl)) ?_)
      refine tl_step rfl (oj_val (y_move fe_c) ?_)
      refine tl_nil ?_
      refine tx_then ?_
      refine tr_block ?_
      refine tr_add (r := vec 3 1 (.slice none 0 0) 0 []) vec_nil rfl ?_
      refine tr_loop2 [7, 8, 9, 10, 11, 12, 21, 22, 23, 24, 25, 26, 27, 28, 29, 30, 31, 32, 33, 34, 35, 36, 37, 38, 39, 40, 41, 42, 43, 44, 45, 46, 47, 48, 49, 50, 51, 52, 53] (fun (i : Nat) (z1 : Vs) => [(21, .int .i64 (i : Int)), (7, .slice z1.A z1.n z1.c)]) 0 (fun (i : Nat) (z1 : Vs) => [(0, vec 3 1 (.slice z1.A z1.n z1.c) z1.n z1.xs)]) (fun (i : Nat) (z1 : Vs) => i ≤ n ∧ z1.n = i ∧ z1.xs = cI (eL bs ws n i)) (fun (i : Nat) (z1 : Vs) => n - i) (0) (⟨none, 0, 0, []⟩ : Vs) (cov_cons (by first | rfl | exact v_int (by omega) | exact v_bool (by simp [*])) (cov_cons (by first | rfl | exact v_int (by omega) | exact v_bool (by simp [*])) (cov_nil))) (fun w h => h) ?_ ?_
      · try dsimp only
        exact ⟨by omega, rfl, rfl⟩
      intro i z1 hp
      obtain ⟨hi, hzn, hzx⟩ := hp
      refine tr_seq ?_
      refine tr_region ?_
      refine tl_step rfl (oj_val (y_lss (fe_t rfl) (fe_t rfl)) ?_)
      refine tl_nil ?_
      refine tx_then ?_
      refine tr_seq ?_
      refine tr_condp (fe_t rfl) (fun hq3 => ?_) (fun hq4 => ?_)
      · try (exfalso; omega)
        all_goals
          refine tr_skip ?_
          refine tx_then ?_
          refine tr_seq ?_
          refine tr_block ?_
          refine tr_seq ?_
          refine tr_region ?_
          refine tl_step rfl (oj_val (y_move (fe_t rfl)) ?_)
          refine tl_step rfl (oj_val (y_index Tryd.underlying39 Tryd.sizeOf3 (fe_t rfl) (fe_t rfl) (rdl_out hb) (by simp; omega) (by decide) (by omega) (Nat.mul_one _)) ?_)
          refine tl_step rfl (oj_val (y_ld Tryd.isAgg3 (fe_t rfl) (rdl_out hb) (getG (zs := bs) (by omega))) ?_)
          refine tl_step rfl (oj_val (y_assign (fe_t rfl)) ?_)
          refine tl_step rfl (oj_val (y_assign (fe_t rfl)) ?_)
          refine tl_nil ?_
          refine tx_then ?_
          refine tr_seq ?_
          refine tr_region ?_
          refine tl_step rfl (oj_val (y_assign fe_c) ?_)
          refine tl_nil ?_
          refine tx_then ?_
          refine tr_seq ?_
          refine tr_seq ?_
          refine tr_region ?_
          refine tl_step rfl (oj_val (y_move (fe_t rfl)) ?_)
          refine tl_step rfl (oj_val (y_len Tryd.underlying39 (fe_t rfl)) ?_)
          refine tl_step rfl (oj_val (y_move fe_c) ?_)
          refine tl_nil ?_
          refine tx_then ?_
          refine tr_block ?_
          refine tr_loop1 [10, 11, 12, 28, 29, 30, 31, 32, 33, 34, 35, 36, 37, 38, 39, 40, 41, 42, 43, 44, 45, 46, 47, 48] (fun (k : Nat) => [(28, .int .i64 (k : Int)), (10, .int .i64 (eN bs ws k i))]) 0 (fun (k : Nat) => []) (fun (k : Nat) => k ≤ n) (fun (k : Nat) => n - k) (0) (cov_cons (by first | rfl | exact v_int (by omega) | exact v_bool (by simp [*])) (cov_cons (by first | rfl | exact v_int (by omega) | exact v_bool (by simp [*])) (cov_nil))) (fun w h => h) ?_ ?_
          · try dsimp only
            omega
          intro k hp
          have hk := hp
          refine tr_seq ?_
          refine tr_region ?_
          refine tl_step rfl (oj_val (y_lss (fe_t rfl) (fe_t rfl)) ?_)
          refine tl_nil ?_
          refine tx_then ?_
          refine tr_seq ?_
          refine tr_condp (fe_t rfl) (fun hq5 => ?_) (fun hq6 => ?_)
          · try (exfalso; omega)
            all_goals
              refine tr_skip ?_
              refine tx_then ?_
              refine tr_seq ?_
              refine tr_block ?_
              refine tr_seq ?_
              refine tr_region ?_
              refine tl_step rfl (oj_val (y_move (fe_t rfl)) ?_)
              refine tl_step rfl (oj_val (y_index Tryd.underlying39 Tryd.sizeOf3 (fe_t rfl) (fe_t rfl) (rdl_out hb) (by simp; omega) (by decide) (by omega) (Nat.mul_one _)) ?_)
              refine tl_step rfl (oj_val (y_ld Tryd.isAgg3 (fe_t rfl) (rdl_out hb) (getG (zs := bs) (by omega))) ?_)
              refine tl_step rfl (oj_val (y_assign (fe_t rfl)) ?_)
              refine tl_step rfl (oj_val (y_assign (fe_t rfl)) ?_)
              refine tl_nil ?_
              refine tx_then ?_
              have g1 := hrg.mb (i := k) (k := i) (by omega) (by omega)
              have g2 := hrg.mb (i := i) (k := k) (by omega) (by omega)
              have g3 := eN_bd (m := k) (k := i) hrg (by omega) (by omega)
              refine tb_draw 16 (sel _ [0]) (fun w h => h.sel _ rfl (by decide)) rfl ?_
              refine tb_float (i := 0) rfl (by kernel_rfl) rfl (wants_none rfl) (yq_of (y_move (fe_t rfl))) ?_
              refine tb_float (i := 1) rfl (by kernel_rfl) rfl (wants_none rfl) (yq_of (y_move (fe_t rfl))) ?_
              refine tb_float (i := 2) rfl (by kernel_rfl) rfl (wants_none rfl) (yq_of (y_move (fe_t rfl))) ?_
              refine tb_float (i := 3) rfl (by kernel_rfl) rfl (wants_none rfl) (yq_of (y_move (fe_t rfl))) ?_
              refine tb_float (i := 4) rfl (by kernel_rfl) rfl (wants_none rfl) (yq_of (y_index Tryd.underlying39 Tryd.sizeOf3 (fe_t rfl) (fe_t rfl) (rdl_out hw) (by simp; omega) (by decide) (by omega) (Nat.mul_one _))) ?_
              refine tb_float (i := 5) rfl (by kernel_rfl) rfl (wants_none rfl) (yq_of (y_ld Tryd.isAgg3 (fe_t rfl) (rdl_out hw) (getG (zs := ws) (by omega)))) ?_
              refine tb_float (i := 6) rfl (by kernel_rfl) rfl (wants_none rfl) (yq_of (y_mul (fe_t rfl) (fe_t rfl) (by omega))) ?_
              refine tb_float (i := 7) rfl (by kernel_rfl) rfl (wants_none rfl) (yq_of (y_move (fe_t rfl))) ?_
              refine tb_float (i := 8) rfl (by kernel_rfl) rfl (wants_none rfl) (yq_of (y_move (fe_t rfl))) ?_
              refine tb_float (i := 9) rfl (by kernel_rfl) rfl (wants_none rfl) (yq_of (y_move (fe_t rfl))) ?_
              refine tb_float (i := 10) rfl (by kernel_rfl) rfl (wants_none rfl) (yq_of (y_index Tryd.underlying39 Tryd.sizeOf3 (fe_t rfl) (fe_t rfl) (rdl_out hw) (by simp; omega) (by decide) (by omega) (Nat.mul_one _))) ?_
              refine tb_float (i := 11) rfl (by kernel_rfl) rfl (wants_none rfl) (yq_of (y_ld Tryd.isAgg3 (fe_t rfl) (rdl_out hw) (getG (zs := ws) (by omega)))) ?_
              refine tb_float (i := 12) rfl (by kernel_rfl) rfl (wants_none rfl) (yq_of (y_mul (fe_t rfl) (fe_t rfl) (by omega))) ?_
              refine tb_float (i := 13) rfl (by kernel_rfl) rfl (wants_none rfl) (yq_of (y_min (fe_t rfl) (fe_t rfl))) ?_
              refine tb_float (i := 14) rfl (by kernel_rfl) rfl (wants_none rfl) (yq_of (y_add (fe_t rfl) (fe_t rfl) (by omega))) ?_
              refine tb_float (i := 15) rfl (by kernel_rfl) rfl (wants_none rfl) (yq_of (y_assign (fe_t rfl))) ?_
              refine tb_done (by kernel_rfl) ?_
              refine tx_in ?_
              refine tx_then ?_
              refine tr_region ?_
              refine tl_step rfl (oj_val (y_inc (fe_t rfl) fe_c (by omega)) ?_)
              refine tl_step rfl (oj_val (y_move (fe_t rfl)) ?_)
              refine tl_nil ?_
              apply tx_back1 (k + 1)
              · exact (cov_cons (by first | rfl | exact v_int (by omega) | exact v_bool (by simp [*])) (cov_cons (by first | rfl | exact v_int (by omega) | exact v_bool (by simp [*])) (cov_nil)))
              · repeat (first | exact over_nil | refine over_put rfl ?_ | refine over_drop rfl ?_)
              · exact fun w h => h.pick [0] _ rfl (by decide)
              · exact ⟨by omega, by omega⟩
          · try (exfalso; omega)
            all_goals
              refine tr_exit ?_
              refine tx_then_exit ?_
              refine tx_then_exit ?_
              refine tx_in_exit ?_
              refine tx_then ?_
              have hkn : k = n := by omega
              refine tr_region ?_
              refine tl_step rfl (oj_val (y_move (fe_t rfl)) ?_)
              refine tl_step rfl (oj_val (y_move (fe_t rfl)) ?_)
              refine tl_step rfl (oj_slice1 Tryd.underlying39 Tryd.sizeOf3 Tryd.zeroValue3 (fe_t rfl) (by decide) rfl (fun b1 => ?_))
              refine tl_step rfl (oj_append (i := 1) (s := 1) (z := (.int .i64 0)) (bytes := 8) Tryd.underlying39 (by kernel_rfl) (fe_t rfl) (fe_t rfl) rfl (rdl_blk 0 rfl) rfl (by decide) (by first | exact oneI | exact oneF (fun _ => rfl) | exact fun u hu => List.all_eq_true.1 (show List.all _ (fun x => x.oneCell') = true from rfl) u hu | (intro u hu; revert u hu; simp [Value.oneCell'])) (by decide) ⟨by omega, by decide⟩ (fun Aa1 ca1 hca1 => ?_))
              refine tl_step rfl (oj_val (y_assign (fe_t rfl)) ?_)
              refine tl_nil ?_
              refine tx_in ?_
              refine tx_then ?_
              refine tr_region ?_
              refine tl_step rfl (oj_val (y_inc (fe_t rfl) fe_c (by omega)) ?_)
              refine tl_step rfl (oj_val (y_move (fe_t rfl)) ?_)
              refine tl_nil ?_
              apply tx_back2 (i + 1) ((⟨_, _, _, _⟩ : Vs))
              · exact (cov_cons (by first | rfl | exact v_int (by omega) | exact v_bool (by simp [*])) (cov_cons (by first | rfl | exact v_int (by omega) | exact v_bool (by simp [*])) (cov_nil)))
              · repeat (first | exact over_nil | refine over_put rfl ?_ | refine over_drop rfl ?_)
              · exact fun w h => h.pick [1] _ rfl (by decide)
              · exact ⟨⟨by omega, by dsimp only; omega, by
                    have h9 : eN bs ws k i = eN bs ws n i := by rw [hkn]
                    rw [eL_succ, ← cI_app, ← hzx, ← h9]; rfl⟩, by omega⟩
      · try (exfalso; omega)
        all_goals
          refine tr_exit ?_
          refine tx_then_exit ?_
          refine tx_then_exit ?_
          refine tx_in_exit ?_
          refine tx_then ?_
          refine tr_seq ?_
          refine tr_region ?_
          refine tl_step rfl (oj_val (y_move (fe_t rfl)) ?_)
          refine tl_step rfl (oj_val (y_assign (fe_t rfl)) ?_)
          refine tl_step rfl (oj_val (y_assign fe_c) ?_)
          refine tl_nil ?_
          refine tx_then ?_
          refine tr_ret ?_
          refine tx_ret (res2 Tryd.results59 (rok_t rfl) (rok_t rfl)) (fun w' hS => ?_)
          obtain rfl : n = i := by omega
          exact ⟨z1, ⟨hzn, hzx⟩, rfl, hS.pick [0] _ rfl (by decide)⟩

end Go.Proofs.YtfcpmcdlgkfolaaDoor.Gps

namespace Go.Proofs.YtfcpmcdlgkfolaaDoor.Gps
open Go.RowKit Go.Proofs.YtfcpmcdlgkfolaaDoor.E

set_option maxRecDepth 100000 in
set_option maxHeartbeats 4000000 in
theorem cmpE {w0 w : World} {T : List Res} {be bw gd n m d : Nat} {B : Option Addr} {ze : Vs} {l : List Nat} {es ws : List Int} (hS : St w0 w (vec 3 1 (.slice (some ⟨gd, 0, none⟩) n n) n (cN l) :: blk be [.slice ze.A ze.n ze.c] :: blk bw [.slice B m d] :: vec 3 1 (.slice ze.A ze.n ze.c) ze.n ze.xs :: T)) (hw : Rd w0 B (ws.map (.int .i64))) (hwl : ws.length = n) (hmn : m = n) (hzn : ze.n = n) (hzx : ze.xs = cI es) (hel : es.length = n) (heb : ∀ k, k < n → 0 ≤ gI es k ∧ gI es k ≤ 16777216000) (hwb : ∀ k, k < n → 0 < gI ws k ∧ gI ws k ≤ 1000) {a b : Nat} (ha : a < n) (hb : b < n) :
    Calls Tryd.prog 61 #[(.int .i64 ((a : Int))), (.int .i64 ((b : Int))), P be, P bw] w fun e w' => ∃ _q : Unit, True ∧ e = .returned (.int .i64 (gI es a * gI ws b - gI es b * gI ws a)) ∧ St w0 w' (vec 3 1 (.slice (some ⟨gd, 0, none⟩) n n) n (cN l) :: blk be [.slice ze.A ze.n ze.c] :: blk bw [.slice B m d] :: vec 3 1 (.slice ze.A ze.n ze.c) ze.n ze.xs :: T) := by
  refine calls_tr Tryd.func61 Tryd.ntmps61 rfl rfl hS ?_
  refine tr_seq ?_
  refine tr_region ?_
  refine tl_step rfl (oj_val (y_assign fe_c) ?_)
  refine tl_nil ?_
  refine tx_then ?_
  refine tr_seq ?_
  have g1 := heb a ha
  have g2 := heb b hb
  have g3 := hwb a ha
  have g4 := hwb b hb
  have g5 := mul_in g1.1 g1.2 (Int.le_of_lt g4.1) g4.2
  have g6 := mul_in g2.1 g2.2 (Int.le_of_lt g3.1) g3.2
  refine tb_draw 20 (sel _ [0, 1, 2, 3]) (fun w h => h.sel _ rfl (by decide)) rfl ?_
  refine tb_float (i := 0) rfl (by kernel_rfl) rfl (wants_none rfl) (yq_of (y_ldb 1 Tryd.isAgg39 (fe_t rfl) rfl rfl)) ?_
  refine tb_float (i := 1) rfl (by kernel_rfl) rfl (wants_none rfl) (yq_of (y_move (fe_t rfl))) ?_
  refine tb_float (i := 2) rfl (by kernel_rfl) rfl (wants_none rfl) (yq_of (y_index Tryd.underlying39 Tryd.sizeOf3 (fe_t rfl) (fe_t rfl) (rdl_vec 3 rfl) (by rw [hzx]; simp [cI]; omega) (by decide) (by omega) (Nat.mul_one _))) ?_
  refine tb_float (i := 3) rfl (by kernel_rfl) rfl (wants_none rfl) (yq_of (y_ld Tryd.isAgg3 (fe_t rfl) (rdl_vec 3 rfl) (by rw [hzx]; exact getG (zs := es) (by omega)))) ?_
  refine tb_float (i := 4) rfl (by kernel_rfl) rfl (wants_none rfl) (yq_of (y_ldb 2 Tryd.isAgg39 (fe_t rfl) rfl rfl)) ?_
  refine tb_float (i := 5) rfl (by kernel_rfl) rfl (wants_none rfl) (yq_of (y_move (fe_t rfl))) ?_
  refine tb_float (i := 6) rfl (by kernel_rfl) rfl (wants_none rfl) (yq_of (y_index Tryd.underlying39 Tryd.sizeOf3 (fe_t rfl) (fe_t rfl) (rdl_out hw) (by simp; omega) (by decide) (by omega) (Nat.mul_one _))) ?_
  refine tb_float (i := 7) rfl (by kernel_rfl) rfl (wants_none rfl) (yq_of (y_ld Tryd.isAgg3 (fe_t rfl) (rdl_out hw) (getG (zs := ws) (by omega)))) ?_
  refine tb_float (i := 8) rfl (by kernel_rfl) rfl (wants_none rfl) (yq_of (y_mul (fe_t rfl) (fe_t rfl) (by omega))) ?_
  refine tb_float (i := 9) rfl (by kernel_rfl) rfl (wants_none rfl) (yq_of (y_ldb 1 Tryd.isAgg39 (fe_t rfl) rfl rfl)) ?_
  refine tb_float (i := 10) rfl (by kernel_rfl) rfl (wants_none rfl) (yq_of (y_move (fe_t rfl))) ?_
  refine tb_float (i := 11) rfl (by kernel_rfl) rfl (wants_none rfl) (yq_of (y_index Tryd.underlying39 Tryd.sizeOf3 (fe_t rfl) (fe_t rfl) (rdl_vec 3 rfl) (by rw [hzx]; simp [cI]; omega) (by decide) (by omega) (Nat.mul_one _))) ?_
  refine tb_float (i := 12) rfl (by kernel_rfl) rfl (wants_none rfl) (yq_of (y_ld Tryd.isAgg3 (fe_t rfl) (rdl_vec 3 rfl) (by rw [hzx]; exact getG (zs := es) (by omega)))) ?_
  refine tb_float (i := 13) rfl (by kernel_rfl) rfl (wants_none rfl) (yq_of (y_ldb 2 Tryd.isAgg39 (fe_t rfl) rfl rfl)) ?_
  refine tb_float (i := 14) rfl (by kernel_rfl) rfl (wants_none rfl) (yq_of (y_move (fe_t rfl))) ?_
  refine tb_float (i := 15) rfl (by kernel_rfl) rfl (wants_none rfl) (yq_of (y_index Tryd.underlying39 Tryd.sizeOf3 (fe_t rfl) (fe_t rfl) (rdl_out hw) (by simp; omega) (by decide) (by omega) (Nat.mul_one _))) ?_
  refine tb_float (i := 16) rfl (by kernel_rfl) rfl (wants_none rfl) (yq_of (y_ld Tryd.isAgg3 (fe_t rfl) (rdl_out hw) (getG (zs := ws) (by omega)))) ?_
  refine tb_float (i := 17) rfl (by kernel_rfl) rfl (wants_none rfl) (yq_of (y_mul (fe_t rfl) (fe_t rfl) (by omega))) ?_
  refine tb_float (i := 18) rfl (by kernel_rfl) rfl (wants_none rfl) (yq_of (y_sub (fe_t rfl) (fe_t rfl) (by omega))) ?_
  refine tb_float (i := 19) rfl (by kernel_rfl) rfl (wants_none rfl) (yq_of (y_assign (fe_t rfl))) ?_
  refine tb_done (by kernel_rfl) ?_
  refine tx_then ?_
  refine tr_ret ?_
  refine tx_ret (res1 Tryd.results61 (rok_t rfl)) (fun w' hS => ?_)
  have h1 := pickT (l := [_, _, _, _]) hS [0, 1, 2, 3] rfl (by decide)
  exact ⟨(), trivial, rfl, h1⟩

set_option maxRecDepth 100000 in
set_option maxHeartbeats 8000000 in
theorem insertE {w0 w : World} {T : List Res} {be bw gd n m d : Nat} {B : Option Addr} {ze : Vs} {es ws : List Int} (hS : St w0 w (vec 3 1 (.slice (some ⟨gd, 0, none⟩) n n) n (cN (List.range n)) :: blk be [.slice ze.A ze.n ze.c] :: blk bw [.slice B m d] :: vec 3 1 (.slice ze.A ze.n ze.c) ze.n ze.xs :: T)) (hw : Rd w0 B (ws.map (.int .i64))) (hwl : ws.length = n) (hmn : m = n) (hzn : ze.n = n) (hzx : ze.xs = cI es) (hel : es.length = n) (heb : ∀ k, k < n → 0 ≤ gI es k ∧ gI es k ≤ 16777216000) (hwb : ∀ k, k < n → 0 < gI ws k ∧ gI ws k ≤ 1000) (h16 : n ≤ 16) :
    Calls Tryd.prog 108 #[.slice (some ⟨gd, 0, none⟩) n n, (.int .i64 0), (.int .i64 ((n : Int))), .func (.func 61) #[] #[P be, P bw]] w fun e w' => ∃ q : List Nat, Srt (Lt (gI es) (gI ws)) n n q ∧ e = .returned (.tuple #[]) ∧ St w0 w' (vec 3 1 (.slice (some ⟨gd, 0, none⟩) n n) n (cN q) :: blk be [.slice ze.A ze.n ze.c] :: blk bw [.slice B m d] :: vec 3 1 (.slice ze.A ze.n ze.c) ze.n ze.xs :: T) := by
  refine calls_tr Tryd.func108 Tryd.ntmps108 rfl rfl hS ?_
  refine tr_seq ?_
  refine tr_region ?_
  refine tl_step rfl (oj_val (y_move (fe_t rfl)) ?_)
  refine tl_step rfl (oj_val (y_as (b := 1) (y_add (fe_t rfl) fe_c (by omega)) (by omega)) ?_)
  refine tl_step rfl (oj_val (y_assign (fe_t rfl)) ?_)
  refine tl_nil ?_
  refine tx_then ?_
  refine tr_block ?_
  refine tr_loop2 [8, 9, 12, 13, 14, 15, 16, 17, 18, 19, 20, 21, 22, 23, 24, 25, 26, 27, 28, 29, 30, 31, 32, 33, 34, 35, 36, 37, 38, 39, 40, 41, 42, 43, 44, 45, 46, 47, 48, 49, 50, 51, 52] (fun (i : Nat) (l1 : List Nat) => [(8, .int .i64 (i : Int))]) 0 (fun (i : Nat) (l1 : List Nat) => [(0, vec 3 1 (.slice (some ⟨gd, 0, none⟩) n n) n (cN l1))]) (fun (i : Nat) (l1 : List Nat) => Srt (Lt (gI es) (gI ws)) n i l1 ∧ 1 ≤ i ∧ (i ≤ n ∨ n = 0)) (fun (i : Nat) (l1 : List Nat) => n - i) (1) (List.range n) (cov_cons (by first | rfl | exact v_int (by omega) | exact v_bool (by simp [*])) (cov_nil)) (fun w h => h) ?_ ?_
  · try dsimp only
    exact ⟨Srt.one n, Nat.le_refl _, by omega⟩
  intro i l1 hp
  obtain ⟨hsr, hi1, hin2⟩ := hp
  have hl1 := hsr.len
  refine tr_seq ?_
  refine tr_seq ?_
  refine tr_region ?_
  refine tl_step rfl (oj_val (y_move (fe_t rfl)) ?_)
  refine tl_step rfl (oj_val (y_move (fe_t rfl)) ?_)
  refine tl_step rfl (oj_val (y_lss (fe_t rfl) (fe_t rfl)) ?_)
  refine tl_nil ?_
  refine tx_then ?_
  refine tr_condp (fe_t rfl) (fun hq1 => ?_) (fun hq2 => ?_)
  · try (exfalso; omega)
    all_goals
      refine tr_skip ?_
      refine tx_then ?_
      refine tr_seq ?_
      refine tr_block ?_
      refine tr_seq ?_
      refine tr_region ?_
      refine tl_step rfl (oj_val (y_move (fe_t rfl)) ?_)
      refine tl_step rfl (oj_val (y_assign (fe_t rfl)) ?_)
      refine tl_nil ?_
      refine tx_then ?_
      refine tr_block ?_
      refine tr_loop2 [9, 18, 19, 20, 21, 22, 23, 24, 25, 26, 27, 28, 29, 30, 31, 32, 33, 34, 35, 36, 37, 38, 39, 40, 41, 42, 43, 44, 45, 46, 47, 48, 49, 50, 51, 52] (fun (j : Nat) (l2 : List Nat) => [(9, .int .i64 (j : Int))]) 0 (fun (j : Nat) (l2 : List Nat) => [(0, vec 3 1 (.slice (some ⟨gd, 0, none⟩) n n) n (cN l2))]) (fun (j : Nat) (l2 : List Nat) => Ins (Lt (gI es) (gI ws)) n i j l2) (fun (j : Nat) (l2 : List Nat) => j) (i) (l1) (cov_cons (by first | rfl | exact v_int (by omega) | exact v_bool (by simp [*])) (cov_nil)) (fun w h => h) ?_ ?_
      · try dsimp only
        exact hsr.ins (by omega)
      intro j l2 hp
      have hin := hp
      have hl2 := hin.len
      have hji := hin.ji
      have hat := hin.at_
      refine tr_seq ?_
      refine tr_seq ?_
      refine tb_draw 17 (sel _ [0, 1, 2, 3]) (fun w h => h.sel _ rfl (by decide)) rfl ?_
      refine tb_float (i := 0) rfl (by kernel_rfl) rfl (wants_none rfl) (yq_of (y_move (fe_t rfl))) ?_
      refine tb_float (i := 1) rfl (by kernel_rfl) rfl (wants_none rfl) (yq_of (y_move (fe_t rfl))) ?_
      refine tb_float (i := 2) rfl (by kernel_rfl) rfl (wants_none rfl) (yq_of (y_gtr (fe_t rfl) (fe_t rfl))) ?_
      refine tb_float (i := 3) rfl (by kernel_rfl) rfl (wants_none rfl) (yq_of (y_move (fe_t rfl))) ?_
      refine tb_splitp (d := 21) rfl (fun hq3 => ?_) (fun hq4 => ?_)
      · try (exfalso; omega)
        all_goals
          refine tb_float (i := 4) rfl (by kernel_rfl) rfl (wants_t rfl rfl rfl) (yq_of (y_move (fe_t rfl))) ?_
          refine tb_float (i := 5) rfl (by kernel_rfl) rfl (wants_t rfl rfl rfl) (yq_of (y_move (fe_t rfl))) ?_
          refine tb_float (i := 6) rfl (by kernel_rfl) rfl (wants_t rfl rfl rfl) (yq_of (y_move (fe_t rfl))) ?_
          refine tb_float (i := 7) rfl (by kernel_rfl) rfl (wants_t rfl rfl rfl) (yq_of (y_index Tryd.underlying39 Tryd.sizeOf3 (fe_t rfl) (fe_t rfl) (rdl_vec 0 rfl) (by first | (rw [cN_len, hl2]; omega) | (rw [cN_len, hl1]; omega)) (by decide) (by omega) (Nat.mul_one _))) ?_
          refine tb_float (i := 8) rfl (by kernel_rfl) rfl (wants_t rfl rfl rfl) (yq_of (y_ld (v := (.int .i64 ((i : Int)))) Tryd.isAgg3 (fe_t rfl) (rdl_vec 0 rfl) (by rw [← hat]; exact getN (by omega)))) ?_
          refine tb_float (i := 9) rfl (by kernel_rfl) rfl (wants_t rfl rfl rfl) (yq_of (y_move (fe_t rfl))) ?_
          refine tb_float (i := 10) rfl (by kernel_rfl) rfl (wants_t rfl rfl rfl) (yq_of (y_move (fe_t rfl))) ?_
          refine tb_float (i := 11) rfl (by kernel_rfl) rfl (wants_t rfl rfl rfl) (yq_of (y_dec (fe_t rfl) fe_c (by omega))) ?_
          refine tb_float (i := 12) rfl (by kernel_rfl) rfl (wants_t rfl rfl rfl) (yq_of (y_index Tryd.underlying39 Tryd.sizeOf3 (fe_t rfl) (fe_t rfl) (rdl_vec 0 rfl) (by first | (rw [cN_len, hl2]; omega) | (rw [cN_len, hl1]; omega)) (by decide) (by omega) (Nat.mul_one _))) ?_
          refine tb_float (i := 13) rfl (by kernel_rfl) rfl (wants_t rfl rfl rfl) (yq_of (y_ld (v := (.int .i64 ((gN l2 (j - 1) : Int)))) Tryd.isAgg3 (fe_t rfl) (rdl_vec 0 rfl) (getN (by omega)))) ?_
          refine tb_one2 (i := 14) rfl (by kernel_rfl) (by kernel_rfl) (wants_t rfl rfl rfl) (oj_callF Tryd.call61 (fe_t rfl) (fel_cons (fe_t rfl) (fel_cons (fe_t rfl) fel_nil)) (fun w' hS => cmpE (pickT (l := [_, _, _, _]) hS [0, 1, 2, 3] rfl (by decide)) hw hwl hmn hzn hzx hel heb hwb (a := i) (b := gN l2 (j - 1)) (by omega) (by have := hin.prev (by omega); omega)) (fun _ _ => ⟨fun w h => h.pick [0, 1, 2, 3] _ rfl (by decide), ?_⟩))
          refine tb_float (i := 15) rfl (by kernel_rfl) rfl (wants_t rfl rfl rfl) (yq_of (y_lss (fe_t rfl) fe_c)) ?_
          refine tb_float (i := 16) rfl (by kernel_rfl) rfl (wants_none rfl) (yq_of (y_pickt (fe_t rfl) (fe_t rfl))) ?_
          refine tb_done (by kernel_rfl) ?_
          refine tx_then ?_
          refine tr_condp (fe_t rfl) (fun hq5 => ?_) (fun hq6 => ?_)
          · try (exfalso; omega)
            all_goals
              refine tr_skip ?_
              refine tx_then ?_
              refine tr_seq ?_
              refine tr_block ?_
              refine tb_draw1 15 [_, _, _, _] [_, _, _, _] (fun w h => h.pick [0, 1, 2, 3] _ rfl (by decide)) (fun w h => (h.weak (i := 0) rfl).pick [0, 1, 2, 3] _ rfl (by decide)) rfl ?_
              refine tb_float (i := 0) rfl (by kernel_rfl) rfl (wants_none rfl) (yq_of (y_move (fe_t rfl))) ?_
              refine tb_float (i := 1) rfl (by kernel_rfl) rfl (wants_none rfl) (yq_of (y_move (fe_t rfl))) ?_
              refine tb_float (i := 2) rfl (by kernel_rfl) rfl (wants_none rfl) (yq_of (y_move (fe_t rfl))) ?_
              refine tb_float (i := 3) rfl (by kernel_rfl) rfl (wants_none rfl) (yq_of (y_move (fe_t rfl))) ?_
              refine tb_float (i := 4) rfl (by kernel_rfl) rfl (wants_none rfl) (yq_of (y_dec (fe_t rfl) fe_c (by omega))) ?_
              refine tb_float (i := 5) rfl (by kernel_rfl) rfl (wants_none rfl) (yq_of (y_move (fe_t rfl))) ?_
              refine tb_float (i := 6) rfl (by kernel_rfl) rfl (wants_none rfl) (yq_of (y_move (fe_t rfl))) ?_
              refine tb_float (i := 7) rfl (by kernel_rfl) rfl (wants_none rfl) (yq_of (y_dec (fe_t rfl) fe_c (by omega))) ?_
              refine tb_float (i := 8) rfl (by kernel_rfl) rfl (wants_none rfl) (yq_of (y_indexR Tryd.underlying39 Tryd.sizeOf3 (fe_t rfl) (fe_t rfl) (rch_w 0 rfl (by omega)) (by omega) (Nat.mul_one _))) ?_
              refine tb_float1 (i := 9) rfl (by kernel_rfl) (by kernel_rfl) rfl (wants_none rfl) (yq_of (y_ld (v := (.int .i64 ((gN l2 (j - 1) : Int)))) Tryd.isAgg3 (fe_t rfl) (rdl_vec 0 rfl) (getN (by omega)))) ?_
              refine tb_float (i := 10) rfl (by kernel_rfl) rfl (wants_none rfl) (yq_of (y_move (fe_t rfl))) ?_
              refine tb_float (i := 11) rfl (by kernel_rfl) rfl (wants_none rfl) (yq_of (y_move (fe_t rfl))) ?_
              refine tb_float (i := 12) rfl (by kernel_rfl) rfl (wants_none rfl) (yq_of (y_indexR Tryd.underlying39 Tryd.sizeOf3 (fe_t rfl) (fe_t rfl) (rch_w 0 rfl (by omega)) (by omega) (Nat.mul_one _))) ?_
              refine tb_float1 (i := 13) rfl (by kernel_rfl) (by kernel_rfl) rfl (wants_none rfl) (yq_of (y_ld (v := (.int .i64 ((gN l2 j : Int)))) Tryd.isAgg3 (fe_t rfl) (rdl_vec 0 rfl) (getN (by omega)))) ?_
              refine tb_float (i := 14) rfl (by kernel_rfl) rfl (wants_none rfl) (yq_of (y_indexR Tryd.underlying39 Tryd.sizeOf3 (fe_t rfl) (fe_t rfl) (rch_w 0 rfl (by omega)) (by omega) (Nat.mul_one _))) ?_
              refine tb_one2 (i := 15) rfl (by kernel_rfl) (by kernel_rfl) (wants_none rfl) (oj_storeE1 (i := 0) Tryd.sizeOf3 (fe_t rfl) (fe_t rfl) rfl rfl rfl (by omega) (⟨fun w h => (h.weak (i := 0) rfl).pick [0, 1, 2, 3] _ rfl (by decide), ?_⟩))
              refine tb_float (i := 16) rfl (by kernel_rfl) rfl (wants_none rfl) (yq_of (y_indexR Tryd.underlying39 Tryd.sizeOf3 (fe_t rfl) (fe_t rfl) (rch_w 0 rfl (by omega)) (by omega) (Nat.mul_one _))) ?_
              refine tb_one2 (i := 17) rfl (by kernel_rfl) (by kernel_rfl) (wants_none rfl) (oj_storeE1 (i := 0) Tryd.sizeOf3 (fe_t rfl) (fe_t rfl) rfl rfl rfl (by omega) (⟨fun w h => (h.weak (i := 0) rfl).pick [0, 1, 2, 3] _ rfl (by decide), ?_⟩))
              refine tb_done (by kernel_rfl) ?_
              refine tx_in ?_
              refine tx_then ?_
              refine tr_as (r' := vec 3 1 (.slice (some ⟨gd, 0, none⟩) n n) n (cN ((l2.set j (gN l2 (j - 1))).set (j - 1) (gN l2 j)))) 0 rfl (congrArg (vec _ _ _ _) (by rw [cN_set, cN_set])) ?_
              refine tr_region ?_
              refine tl_step rfl (oj_val (y_move (fe_t rfl)) ?_)
              refine tl_step rfl (oj_val (y_dec (fe_t rfl) fe_c (by omega)) ?_)
              refine tl_step rfl (oj_val (y_assign (fe_t rfl)) ?_)
              refine tl_nil ?_
              apply tx_back2 (j - 1) ((l2.set j (gN l2 (j - 1))).set (j - 1) (gN l2 j))
              · exact (cov_cons (by first | rfl | exact v_int (by omega) | exact v_bool (by simp [*])) (cov_nil))
              · repeat (first | exact over_nil | refine over_put rfl ?_ | refine over_drop rfl ?_)
              · exact fun w h => h
              · exact ⟨hin.step (by omega) (lt_if (by assumption)), by omega⟩
          · try (exfalso; omega)
            all_goals
              refine tr_exit ?_
              refine tx_then_exit ?_
              refine tx_then_exit ?_
              refine tx_in_exit ?_
              refine tx_in ?_
              refine tx_then ?_
              have hsr2 := hin.done (fun a b c ha hb hc h1 h2 => Lt.trans (hwb a (by omega)).1 (hwb b (by omega)).1 (hwb c (by omega)).1 h1 h2) (fun h0 => by first | (exfalso; omega) | exact lt_of (by assumption) (hin.prev h0))
              refine tr_region ?_
              refine tl_step rfl (oj_val (y_move (fe_t rfl)) ?_)
              refine tl_step rfl (oj_val (y_inc (fe_t rfl) fe_c (by omega)) ?_)
              refine tl_step rfl (oj_val (y_assign (fe_t rfl)) ?_)
              refine tl_nil ?_
              apply tx_back2 (i + 1) (l2)
              · exact (cov_cons (by first | rfl | exact v_int (by omega) | exact v_bool (by simp [*])) (cov_nil))
              · repeat (first | exact over_nil | refine over_put rfl ?_ | refine over_drop rfl ?_)
              · exact fun w h => h
              · exact ⟨⟨hsr2, by omega, by omega⟩, by omega⟩
      · try (exfalso; omega)
        all_goals
          refine tb_skip (i := 4) rfl (by kernel_rfl) rfl (wants_f rfl rfl rfl rfl) ?_
          refine tb_skip (i := 5) rfl (by kernel_rfl) rfl (wants_f rfl rfl rfl rfl) ?_
          refine tb_skip (i := 6) rfl (by kernel_rfl) rfl (wants_f rfl rfl rfl rfl) ?_
          refine tb_skip (i := 7) rfl (by kernel_rfl) rfl (wants_f rfl rfl rfl rfl) ?_
          refine tb_skip (i := 8) rfl (by kernel_rfl) rfl (wants_f rfl rfl rfl rfl) ?_
          refine tb_skip (i := 9) rfl (by kernel_rfl) rfl (wants_f rfl rfl rfl rfl) ?_
          refine tb_skip (i := 10) rfl (by kernel_rfl) rfl (wants_f rfl rfl rfl rfl) ?_
          refine tb_skip (i := 11) rfl (by kernel_rfl) rfl (wants_f rfl rfl rfl rfl) ?_
          refine tb_skip (i := 12) rfl (by kernel_rfl) rfl (wants_f rfl rfl rfl rfl) ?_
          refine tb_skip (i := 13) rfl (by kernel_rfl) rfl (wants_f rfl rfl rfl rfl) ?_
          refine tb_skip (i := 14) rfl (by kernel_rfl) rfl (wants_f rfl rfl rfl rfl) ?_
          refine tb_skip (i := 15) rfl (by kernel_rfl) rfl (wants_f rfl rfl rfl rfl) ?_
          refine tb_float (i := 16) rfl (by kernel_rfl) rfl (wants_none rfl) (yq_of (y_pickf (fe_t rfl) fe_c)) ?_
          refine tb_done (by kernel_rfl) ?_
          refine tx_then ?_
          refine tr_condf (fe_t rfl) ?_
          refine tr_exit ?_
          refine tx_then_exit ?_
          refine tx_then_exit ?_
          refine tx_in_exit ?_
          refine tx_in ?_
          refine tx_then ?_
          have hsr2 := hin.done (fun a b c ha hb hc h1 h2 => Lt.trans (hwb a (by omega)).1 (hwb b (by omega)).1 (hwb c (by omega)).1 h1 h2) (fun h0 => by first | (exfalso; omega) | exact lt_of (by assumption) (hin.prev h0))
          refine tr_region ?_
          refine tl_step rfl (oj_val (y_move (fe_t rfl)) ?_)
          refine tl_step rfl (oj_val (y_inc (fe_t rfl) fe_c (by omega)) ?_)
          refine tl_step rfl (oj_val (y_assign (fe_t rfl)) ?_)
          refine tl_nil ?_
          apply tx_back2 (i + 1) (l2)
          · exact (cov_cons (by first | rfl | exact v_int (by omega) | exact v_bool (by simp [*])) (cov_nil))
          · repeat (first | exact over_nil | refine over_put rfl ?_ | refine over_drop rfl ?_)
          · exact fun w h => h
          · exact ⟨⟨hsr2, by omega, by omega⟩, by omega⟩
  · try (exfalso; omega)
    all_goals
      refine tr_exit ?_
      refine tx_then_exit ?_
      refine tx_then_exit ?_
      refine tx_in_exit ?_
      refine tx_end (res0 Tryd.results108 ) (fun w' hS => ?_)
      have h1 := pickT (l := [_, _, _, _]) hS [0, 1, 2, 3] rfl (by decide)
      exact ⟨l1, hsr.fin (by omega) hin2, rfl, h1⟩

set_option maxRecDepth 100000 in
set_option maxHeartbeats 4000000 in
theorem stableE {w0 w : World} {T : List Res} {be bw gd n m d : Nat} {B : Option Addr} {ze : Vs} {es ws : List Int} (hS : St w0 w (vec 3 1 (.slice (some ⟨gd, 0, none⟩) n n) n (cN (List.range n)) :: blk be [.slice ze.A ze.n ze.c] :: blk bw [.slice B m d] :: vec 3 1 (.slice ze.A ze.n ze.c) ze.n ze.xs :: T)) (hw : Rd w0 B (ws.map (.int .i64))) (hwl : ws.length = n) (hmn : m = n) (hzn : ze.n = n) (hzx : ze.xs = cI es) (hel : es.length = n) (heb : ∀ k, k < n → 0 ≤ gI es k ∧ gI es k ≤ 16777216000) (hwb : ∀ k, k < n → 0 < gI ws k ∧ gI ws k ≤ 1000) (h16 : n ≤ 16) :
    Calls Tryd.prog 86 #[.slice (some ⟨gd, 0, none⟩) n n, (.int .i64 ((n : Int))), .func (.func 61) #[] #[P be, P bw]] w fun e w' => ∃ q : List Nat, Srt (Lt (gI es) (gI ws)) n n q ∧ e = .returned (.tuple #[]) ∧ St w0 w' (vec 3 1 (.slice (some ⟨gd, 0, none⟩) n n) n (cN q) :: blk be [.slice ze.A ze.n ze.c] :: blk bw [.slice B m d] :: vec 3 1 (.slice ze.A ze.n ze.c) ze.n ze.xs :: T) := by
  refine calls_tr Tryd.func86 Tryd.ntmps86 rfl rfl hS ?_
  refine tr_seq ?_
  refine tr_region ?_
  refine tl_step rfl (oj_val (y_assign fe_c) ?_)
  refine tl_nil ?_
  refine tx_then ?_
  refine tr_seq ?_
  refine tr_region ?_
  refine tl_step rfl (oj_val (y_move (fe_t rfl)) ?_)
  refine tl_step rfl (oj_val (y_assign fe_c) ?_)
  refine tl_step rfl (oj_val (y_assign (fe_t rfl)) ?_)
  refine tl_nil ?_
  refine tx_then ?_
  refine tr_seq ?_
  refine tr_block ?_
  refine tr_loop1 [7, 8, 11, 12, 13, 14, 15, 16, 17, 18, 19, 20, 21, 22] (fun (u : Nat) => [(7, (.int .i64 0)), (8, (.int .i64 20))]) 0 (fun (u : Nat) => []) (fun (u : Nat) => u = 0) (fun (u : Nat) => u) (0) (cov_cons (by first | rfl | exact v_int (by omega) | exact v_bool (by simp [*])) (cov_cons (by first | rfl | exact v_int (by omega) | exact v_bool (by simp [*])) (cov_nil))) (fun w h => h) ?_ ?_
  · try dsimp only
    all_goals rfl
  intro u hp
  refine tr_seq ?_
  refine tr_seq ?_
  refine tr_region ?_
  refine tl_step rfl (oj_val (y_move (fe_t rfl)) ?_)
  refine tl_step rfl (oj_val (y_move (fe_t rfl)) ?_)
  refine tl_step rfl (oj_val (y_leq (fe_t rfl) (fe_t rfl)) ?_)
  refine tl_nil ?_
  refine tx_then ?_
  refine tr_condp (fe_t rfl) (fun hq1 => ?_) (fun hq2 => ?_)
  · exfalso; omega
  · try (exfalso; omega)
    all_goals
      refine tr_exit ?_
      refine tx_then_exit ?_
      refine tx_then_exit ?_
      refine tx_in_exit ?_
      refine tx_then ?_
      refine tr_seq ?_
      refine tr_region ?_
      refine tl_step rfl (oj_val (y_move (fe_t rfl)) ?_)
      refine tl_step rfl (oj_val (y_move (fe_t rfl)) ?_)
      refine tl_step rfl (oj_val (y_move (fe_t rfl)) ?_)
      refine tl_step rfl (oj_val (y_move (fe_t rfl)) ?_)
      refine tl_step rfl (oj_call2 Tryd.call108 fe_f (fel_cons (fe_t rfl) (fel_cons (fe_t rfl) (fel_cons (fe_t rfl) (fel_cons (fe_t rfl) fel_nil)))) (fun w' hS => insertE (pickT (l := [_, _, _, _]) hS [0, 1, 2, 3] rfl (by decide)) hw hwl hmn hzn hzx hel heb hwb h16) (fun q hq => ?_))
      refine tl_nil ?_
      refine tx_then ?_
      refine tr_block ?_
      refine tr_loop1 [6, 7, 8, 9, 28, 29, 30, 31, 32, 33, 34, 35, 36, 37, 38, 39, 40, 41, 42, 43, 44, 45, 46, 47, 48, 49, 50, 51, 52, 53, 54, 55, 56, 57, 58, 59, 60, 61, 62] (fun (u2 : Nat) => [(6, (.int .i64 20))]) 0 (fun (u2 : Nat) => []) (fun (u2 : Nat) => u2 = 0) (fun (u2 : Nat) => u2) (0) (cov_cons (by first | rfl | exact v_int (by omega) | exact v_bool (by simp [*])) (cov_nil)) (fun w h => h) ?_ ?_
      · try dsimp only
        all_goals rfl
      intro u2 hp
      refine tr_seq ?_
      refine tr_seq ?_
      refine tr_region ?_
      refine tl_step rfl (oj_val (y_move (fe_t rfl)) ?_)
      refine tl_step rfl (oj_val (y_move (fe_t rfl)) ?_)
      refine tl_step rfl (oj_val (y_lss (fe_t rfl) (fe_t rfl)) ?_)
      refine tl_nil ?_
      refine tx_then ?_
      refine tr_condp (fe_t rfl) (fun hq3 => ?_) (fun hq4 => ?_)
      · exfalso; omega
      · try (exfalso; omega)
        all_goals
          refine tr_exit ?_
          refine tx_then_exit ?_
          refine tx_then_exit ?_
          refine tx_in_exit ?_
          refine tx_end (res0 Tryd.results86 ) (fun w' hS => ?_)
          have h1 := pickT (l := [_, _, _, _]) hS [0, 1, 2, 3] rfl (by decide)
          exact ⟨q, hq, rfl, h1⟩

set_option maxRecDepth 100000 in
set_option maxHeartbeats 4000000 in
theorem sortE {w0 w : World} {T : List Res} {be bw gd n m d : Nat} {B : Option Addr} {ze : Vs} {es ws : List Int} (hS : St w0 w (vec 3 1 (.slice (some ⟨gd, 0, none⟩) n n) n (cN (List.range n)) :: blk be [.slice ze.A ze.n ze.c] :: blk bw [.slice B m d] :: vec 3 1 (.slice ze.A ze.n ze.c) ze.n ze.xs :: T)) (hw : Rd w0 B (ws.map (.int .i64))) (hwl : ws.length = n) (hmn : m = n) (hzn : ze.n = n) (hzx : ze.xs = cI es) (hel : es.length = n) (heb : ∀ k, k < n → 0 ≤ gI es k ∧ gI es k ≤ 16777216000) (hwb : ∀ k, k < n → 0 < gI ws k ∧ gI ws k ≤ 1000) (h16 : n ≤ 16) :
    Calls Tryd.prog 60 #[.slice (some ⟨gd, 0, none⟩) n n, .func (.func 61) #[] #[P be, P bw]] w fun e w' => ∃ q : List Nat, Srt (Lt (gI es) (gI ws)) n n q ∧ e = .returned (.tuple #[]) ∧ St w0 w' (vec 3 1 (.slice (some ⟨gd, 0, none⟩) n n) n (cN q) :: blk be [.slice ze.A ze.n ze.c] :: blk bw [.slice B m d] :: vec 3 1 (.slice ze.A ze.n ze.c) ze.n ze.xs :: T) := by
  refine calls_tr Tryd.func60 Tryd.ntmps60 rfl rfl hS ?_
  refine tr_region ?_
  refine tl_step rfl (oj_val (y_move (fe_t rfl)) ?_)
  refine tl_step rfl (oj_val (y_move (fe_t rfl)) ?_)
  refine tl_step rfl (oj_val (y_len Tryd.underlying39 (fe_t rfl)) ?_)
  refine tl_step rfl (oj_val (y_move (fe_t rfl)) ?_)
  refine tl_step rfl (oj_call2 Tryd.call86 fe_f (fel_cons (fe_t rfl) (fel_cons (fe_t rfl) (fel_cons (fe_t rfl) fel_nil))) (fun w' hS => stableE (pickT (l := [_, _, _, _]) hS [0, 1, 2, 3] rfl (by decide)) hw hwl hmn hzn hzx hel heb hwb h16) (fun q hq => ?_))
  refine tl_nil ?_
  refine tx_end (res0 Tryd.results60 ) (fun w' hS => ?_)
  have h1 := pickT (l := [_, _, _, _]) hS [0, 1, 2, 3] rfl (by decide)
  exact ⟨q, hq, rfl, h1⟩

set_option maxRecDepth 100000 in
set_option maxHeartbeats 4000000 in
theorem order_ok (A B : Option Addr) (n m c d : Nat) (bs ws : List Int) (w : World) (hb : Rd w A (bs.map (.int .i64))) (hw : Rd w B (ws.map (.int .i64))) (hbl : bs.length = n) (hwl : ws.length = m) (hn : n ≤ 140737488355328) (hm : m ≤ 140737488355328) (hz : wr bs ws = 0) :
    Calls Tryd.prog 31 #[.slice A n c, .slice B m d] w fun e w' => ∃ r : Nat × List Nat, Srt (Lt (gI (eL bs ws n n)) (gI ws)) n n r.2 ∧ e = .returned (.tuple #[.slice (some ⟨r.1, 0, none⟩) n n, (.int .i64 0)]) ∧ St w w' [vec 3 1 (.slice (some ⟨r.1, 0, none⟩) n n) n (cN r.2)] := by
  refine calls_tr Tryd.func31 Tryd.ntmps31 rfl rfl (St.refl _) ?_
  refine tr_seq ?_
  refine tr_region ?_
  refine tl_step rfl (oj_box (fe_t rfl) (fun bw => ?_))
  refine tl_step rfl (oj_val (y_assign fe_c) ?_)
  refine tl_step rfl (oj_val (y_assign fe_c) ?_)
  refine tl_nil ?_
  refine tx_then ?_
  refine tr_seq ?_
  refine tr_region ?_
  refine tl_step rfl (oj_val (y_move (fe_t rfl)) ?_)
  refine tl_step rfl (oj_val (y_ldb 0 Tryd.isAgg39 (fe_t rfl) rfl rfl) ?_)
  refine tl_step rfl (oj_call Tryd.call59 fe_f (fel_cons (fe_t rfl) (fel_cons (fe_t rfl) fel_nil)) (fun w' hS => end_ok A B n m c d bs ws w' (Rd.below hb hS.below) (Rd.below hw hS.below) hbl hwl hn hm hz) (fun r1 hr1 => ?_))
  refine tl_step rfl (oj_val (y_move (fe_t rfl)) ?_)
  refine tl_step rfl (oj_val (y_extract (fe_t rfl) rfl) ?_)
  refine tl_step rfl (oj_val (y_extract (fe_t rfl) rfl) ?_)
  refine tl_step rfl (oj_alloc Tryd.zeroValue39 (fun be => ?_))
  refine tl_step rfl (oj_store1 0 Tryd.sizeOf39 (fe_t rfl) (fe_t rfl) rfl rfl rfl rfl (?_))
  refine tl_step rfl (oj_val (y_assign (fe_t rfl)) ?_)
  refine tl_nil ?_
  refine tx_then ?_
  refine tr_seq ?_
  refine tr_seq ?_
  refine tr_region ?_
  refine tl_step rfl (oj_val (y_move (fe_t rfl)) ?_)
  refine tl_step rfl (oj_val (y_neq (fe_t rfl) fe_c) ?_)
  refine tl_nil ?_
  refine tx_then ?_
  refine tr_condp (fe_t rfl) (fun hq1 => ?_) (fun hq2 => ?_)
  · exfalso; omega
  · try (exfalso; omega)
    all_goals
      refine tr_skip ?_
      refine tx_then ?_
      refine tr_seq ?_
      have hrg := wr_rg hz
      rw [hbl] at hrg
      have hn16 := hrg.n16
      have hwl2 := hrg.wl
      refine tr_region ?_
      refine tl_step rfl (oj_val (y_move (fe_t rfl)) ?_)
      refine tl_step rfl (oj_val (y_len Tryd.underlying39 (fe_t rfl)) ?_)
      refine tl_step rfl (oj_make (z := (.int .i64 0)) (bytes := 8) Tryd.underlying39 (by kernel_rfl) (fe_t rfl) (fe_t rfl) rfl ⟨by omega, by decide⟩ (fun g => ?_))
      refine tl_step rfl (oj_val (y_assign (fe_t rfl)) ?_)
      refine tl_nil ?_
      refine tx_then ?_
      refine tr_seq ?_
      refine tr_seq ?_
      refine tr_region ?_
      refine tl_step rfl (oj_val (y_move (fe_t rfl)) ?_)
      refine tl_step rfl (oj_val (y_len Tryd.underlying39 (fe_t rfl)) ?_)
      refine tl_step rfl (oj_val (y_move fe_c) ?_)
      refine tl_nil ?_
      refine tx_then ?_
      refine tr_block ?_
      refine tr_loop2 [9, 24, 25, 26, 27, 28, 29, 30, 31] (fun (k : Nat) (xs : List Value) => [(24, .int .i64 (k : Int))]) 0 (fun (k : Nat) (xs : List Value) => [(0, vec 3 1 (.slice (some ⟨g, 0, none⟩) n n) n xs)]) (fun (k : Nat) (xs : List Value) => k ≤ n ∧ xs = fillN n k) (fun (k : Nat) (xs : List Value) => n - k) (0) (List.replicate n (.int .i64 0)) (cov_cons (by first | rfl | exact v_int (by omega) | exact v_bool (by simp [*])) (cov_nil)) (fun w h => h) ?_ ?_
      · try dsimp only
        exact ⟨by omega, fillN_zero⟩
      intro k xs hp
      obtain ⟨hk, hxs⟩ := hp
      have hxl : xs.length = n := by rw [hxs]; simp [fillN]
      refine tr_seq ?_
      refine tr_region ?_
      refine tl_step rfl (oj_val (y_lss (fe_t rfl) (fe_t rfl)) ?_)
      refine tl_nil ?_
      refine tx_then ?_
      refine tr_seq ?_
      refine tr_condp (fe_t rfl) (fun hq3 => ?_) (fun hq4 => ?_)
      · try (exfalso; omega)
        all_goals
          refine tr_skip ?_
          refine tx_then ?_
          refine tr_seq ?_
          refine tr_block ?_
          refine tr_seq ?_
          refine tr_region ?_
          refine tl_step rfl (oj_val (y_move (fe_t rfl)) ?_)
          refine tl_step rfl (oj_val (y_assign (fe_t rfl)) ?_)
          refine tl_nil ?_
          refine tx_then ?_
          refine tr_region ?_
          refine tl_step rfl (oj_val (y_move (fe_t rfl)) ?_)
          refine tl_step rfl (oj_val (y_move (fe_t rfl)) ?_)
          refine tl_step rfl (oj_val (y_move (fe_t rfl)) ?_)
          refine tl_step rfl (oj_val (y_index Tryd.underlying39 Tryd.sizeOf3 (fe_t rfl) (fe_t rfl) (rdl_vec 0 rfl) (by omega) (by decide) (by omega) (Nat.mul_one _)) ?_)
          refine tl_step rfl (oj_storeE1 (i := 0) Tryd.sizeOf3 (fe_t rfl) (fe_t rfl) rfl rfl rfl (by omega) (?_))
          refine tl_nil ?_
          refine tx_in ?_
          refine tx_then ?_
          refine tr_region ?_
          refine tl_step rfl (oj_val (y_inc (fe_t rfl) fe_c (by omega)) ?_)
          refine tl_step rfl (oj_val (y_move (fe_t rfl)) ?_)
          refine tl_nil ?_
          apply tx_back2 (k + 1) (_)
          · exact (cov_cons (by first | rfl | exact v_int (by omega) | exact v_bool (by simp [*])) (cov_nil))
          · repeat (first | exact over_nil | refine over_put rfl ?_ | refine over_drop rfl ?_)
          · exact fun w h => h.pick [0, 1, 2, 3] _ rfl (by decide)
          · exact ⟨⟨by omega, by rw [hxs]; exact fillN_set (by omega)⟩, by omega⟩
      · try (exfalso; omega)
        all_goals
          refine tr_exit ?_
          refine tx_then_exit ?_
          refine tx_then_exit ?_
          refine tx_in_exit ?_
          refine tx_then ?_
          refine tr_seq ?_
          have hkn : k = n := by omega
          refine tr_as (r' := vec 3 1 (.slice (some ⟨g, 0, none⟩) n n) n (cN (List.range n))) 0 rfl (congrArg (vec _ _ _ _) (by rw [hxs, hkn]; exact fillN_all)) ?_
          refine tr_region ?_
          refine tl_step rfl (oj_val (y_move (fe_t rfl)) ?_)
          refine tl_step rfl (oj_val (y_makeFunc (fel_cons (fe_t rfl) (fel_cons (fe_t rfl) fel_nil))) ?_)
          refine tl_step rfl (oj_call2 Tryd.call60 fe_f (fel_cons (fe_t rfl) (fel_cons (fe_t rfl) fel_nil)) (fun w' hS => sortE (hS.pick [0, 1, 3, 2] [_, _, _, _] rfl (by decide)) hw (by omega) (by omega) hr1.1 hr1.2 (by rw [eL_len]) (fun k hk => by rw [gI_eL hk]; exact eN_bd hrg (Nat.le_refl _) hk) (fun k hk => by have h9 := (hrg.ok k hk).2; omega) (by omega)) (fun q hq => ?_))
          refine tl_nil ?_
          refine tx_then ?_
          refine tr_seq ?_
          refine tr_region ?_
          refine tl_step rfl (oj_val (y_move (fe_t rfl)) ?_)
          refine tl_step rfl (oj_val (y_assign (fe_t rfl)) ?_)
          refine tl_step rfl (oj_val (y_assign fe_c) ?_)
          refine tl_nil ?_
          refine tx_then ?_
          refine tr_ret ?_
          refine tx_ret (res2 Tryd.results31 (rok_t rfl) (rok_t rfl)) (fun w' hS => ?_)
          exact ⟨(g, q), hq, rfl, hS.pick [0] _ rfl (by decide)⟩

end Go.Proofs.YtfcpmcdlgkfolaaDoor.Gps
