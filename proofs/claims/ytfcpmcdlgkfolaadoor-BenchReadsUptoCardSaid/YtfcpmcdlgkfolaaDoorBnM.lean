/- Text of bench: words, numbers, lines and scripts, in plain lists of bytes. -/
import Derived.Lib.Split
import Derived.Lib.AtoiAll
import Derived.Lib.ItoaMem
import Derived.Lib.ItoaLen
namespace Go.Proofs.YtfcpmcdlgkfolaaDoor.Bn
open Go.Lib

/-- What stands between bytes c. -/
def wds (c : UInt8) : List UInt8 → List (List UInt8)
  | [] => [[]]
  | b :: l => if b = c then [] :: wds c l else match wds c l with
    | [] => [[b]]
    | w :: ws => (b :: w) :: ws

theorem wds_ne (c : UInt8) : ∀ l, wds c l ≠ []
  | [] => by simp [wds]
  | b :: l => by
    unfold wds
    split
    · simp
    · split <;> simp

theorem wds_none {c : UInt8} : ∀ {l : List UInt8}, c ∉ l → wds c l = [l]
  | [], _ => rfl
  | b :: l, h => by
    have h1 : ¬ b = c := fun e => h (by simp [e])
    have h2 : c ∉ l := fun e => h (by simp [e])
    rw [wds, if_neg h1, wds_none h2]

theorem wds_cons {c : UInt8} : ∀ {a : List UInt8} (b : List UInt8), c ∉ a → wds c (a ++ c :: b) = a :: wds c b
  | [], b, _ => by simp [wds]
  | x :: a, b, h => by
    have h1 : ¬ x = c := fun e => h (by simp [e])
    have h2 : c ∉ a := fun e => h (by simp [e])
    rw [List.cons_append, wds, if_neg h1, wds_cons b h2]

/-- One byte more. -/
def wadd (c b : UInt8) (ws : List (List UInt8)) : List (List UInt8) :=
  if b = c then ws ++ [[]] else ws.set (ws.length - 1) (ws.getD (ws.length - 1) [] ++ [b])

theorem wds_snoc (c b : UInt8) : ∀ l, wds c (l ++ [b]) = wadd c b (wds c l)
  | [] => by
    unfold wadd
    by_cases h : b = c <;> simp [wds, h]
  | x :: l => by
    have hn := wds_ne c l
    rw [List.cons_append, wds, wds_snoc c b l, wds]
    by_cases hx : x = c
    · rw [if_pos hx, if_pos hx]
      unfold wadd
      by_cases hb : b = c
      · simp [hb]
      · cases hw : wds c l with
        | nil => exact absurd hw hn
        | cons w ws => simp [hb]
    · rw [if_neg hx, if_neg hx]
      unfold wadd
      by_cases hb : b = c
      · cases hw : wds c l with
        | nil => exact absurd hw hn
        | cons w ws => simp [hb]
      · cases hw : wds c l with
        | nil => exact absurd hw hn
        | cons w ws =>
          cases ws with
          | nil => simp [hb]
          | cons w2 ws => simp [hb]

theorem occ1 (c : UInt8) : ∀ (l : List UInt8), (c ∉ l ∧ index l [c] = -1) ∨ ∃ a b, l = a ++ c :: b ∧ c ∉ a ∧ index l [c] = (a.length : Int)
  | [] => Or.inl ⟨by simp, rfl⟩
  | x :: l => by
    by_cases hx : x = c
    · subst hx
      exact Or.inr ⟨[], l, rfl, by simp, by simp [index, List.isPrefixOf]⟩
    · have hp : List.isPrefixOf [c] (x :: l) = false := by
        simp [List.isPrefixOf, Ne.symm hx]
      rcases occ1 c l with ⟨h1, h2⟩ | ⟨a, b, rfl, h1, h2⟩
      · refine Or.inl ⟨by simp [h1, Ne.symm hx], ?_⟩
        unfold index
        rw [hp, h2]
        rfl
      · refine Or.inr ⟨x :: a, b, rfl, by simp [h1, Ne.symm hx], ?_⟩
        unfold index
        rw [hp, h2]
        have h3 : ((a.length : Int) == -1) = false := by rw [beq_eq_false_iff_ne]; omega
        simp [h3]

theorem cut1 (c : UInt8) (l : List UInt8) : (c ∉ l ∧ cut l [c] = (l, [], false)) ∨ ∃ a b, l = a ++ c :: b ∧ c ∉ a ∧ cut l [c] = (a, b, true) := by
  rcases occ1 c l with ⟨h1, h2⟩ | ⟨a, b, h0, h1, h2⟩
  · exact Or.inl ⟨h1, by simp [cut, h2]⟩
  · refine Or.inr ⟨a, b, h0, h1, ?_⟩
    unfold cut
    rw [h2, if_pos (by omega)]
    subst h0
    simp

theorem split1 (c : UInt8) (l : List UInt8) : split l [c] = wds c l := by
  unfold split
  generalize hn : l.length = n
  induction n using Nat.strongRecOn generalizing l with
  | _ n ih =>
  rcases occ1 c l with ⟨h1, h2⟩ | ⟨a, b, h0, h1, h2⟩
  · rw [count_miss h2, wds_none h1]
    rfl
  · rw [count_hit (by simp) h2, Nat.add_comm, splitK, h2]
    have h3 : ((a.length : Int) == -1) = false := by rw [beq_eq_false_iff_ne]; omega
    subst h0
    rw [wds_cons b h1]
    simp only [h3]
    have hd : (a ++ c :: b).drop (a.length + [c].length) = b := by simp
    simp only [Int.toNat_natCast, hd]
    rw [ih b.length (by simp at hn; omega) b rfl]
    simp

/-! ### Numbers -/

def dig (b : UInt8) : Bool := decide (48 ≤ b.toNat) && decide (b.toNat ≤ 57)
def val (l : List UInt8) : Nat := l.foldl (fun n b => 10 * n + (b.toNat - 48)) 0
def okNum (l : List UInt8) : Bool := decide (l ≠ []) && (decide (l.length ≤ 13) && (!(decide (l.head? = some 48) && decide (1 < l.length)) && (l.all dig && decide (val l ≤ 1099511627776))))
def num (l : List UInt8) : Option Nat := if okNum l = true then some (val l) else none

theorem val_snoc (l : List UInt8) (b : UInt8) : val (l ++ [b]) = 10 * val l + (b.toNat - 48) := by simp [val]
theorem dig_of {n : Nat} (h : n < 10) : dig (UInt8.ofNat (48 + n)) = true ∧ (UInt8.ofNat (48 + n)).toNat = 48 + n := by
  have h2 : (UInt8.ofNat (48 + n)).toNat = 48 + n := by simp; omega
  refine ⟨?_, h2⟩
  unfold dig
  rw [h2]
  simp
  omega
theorem of_dig {b : UInt8} (h : dig b = true) : ∃ n, n < 10 ∧ b = UInt8.ofNat (48 + n) ∧ b.toNat = 48 + n := by
  simp only [dig, Bool.and_eq_true, decide_eq_true_eq] at h
  refine ⟨b.toNat - 48, by omega, ?_, by omega⟩
  apply UInt8.toNat_inj.1
  rw [(dig_of (n := b.toNat - 48) (by omega)).2]
  omega

theorem dec_val (n : Nat) : val (decDigits n) = n ∧ (decDigits n).all dig = true ∧ decDigits n ≠ [] ∧ ((decDigits n).head? = some 48 → n = 0) := by
  induction n using Nat.strongRecOn with
  | _ n ih =>
    by_cases h : n < 10
    · rw [decDigits, dif_pos h]
      obtain ⟨h1, h2⟩ := dig_of h
      generalize UInt8.ofNat (48 + n) = c at h1 h2 ⊢
      refine ⟨by simp [val, h2], by simp [h1], by simp, fun h3 => ?_⟩
      simp only [List.head?_cons, Option.some.injEq] at h3
      have : c.toNat = 48 := by rw [h3]; rfl
      omega
    · rw [decDigits, dif_neg h]
      obtain ⟨g1, g2, g3, g4⟩ := ih (n / 10) (by omega)
      obtain ⟨h1, h2⟩ := dig_of (n := n % 10) (by omega)
      generalize UInt8.ofNat (48 + n % 10) = c at h1 h2 ⊢
      refine ⟨by rw [val_snoc, g1, h2]; omega, by rw [List.all_append, g2]; simp [h1], by simp, fun h3 => ?_⟩
      cases hd : decDigits (n / 10) with
      | nil => exact absurd hd g3
      | cons x xs =>
        rw [hd] at h3 g4
        simp only [List.cons_append, List.head?_cons] at h3 g4
        have := g4 h3
        omega

theorem dec_head {n : Nat} (h : (decDigits n).head? = some 48) : (decDigits n).length = 1 := by
  have := (dec_val n).2.2.2 h
  subst this
  rw [decDigits, dif_pos (by omega)]
  rfl

/-- A numeral with no needless nought is the numeral of its value. -/
theorem dec_of (l : List UInt8) (h0 : l ≠ []) (hd : l.all dig = true) (hh : l.head? = some 48 → l.length = 1) : decDigits (val l) = l := by
  generalize hn : l.length = n
  induction n generalizing l with
  | zero => exact absurd (List.length_eq_zero_iff.1 hn) h0
  | succ n ih =>
    obtain ⟨p, b, rfl⟩ : ∃ p b, l = p ++ [b] := ⟨l.dropLast, l.getLast h0, (List.dropLast_concat_getLast h0).symm⟩
    simp only [List.all_append, List.all_cons, List.all_nil, Bool.and_true, Bool.and_eq_true] at hd
    obtain ⟨m, hm, hb, hbn⟩ := of_dig hd.2
    by_cases hp : p = []
    · subst hp
      have hv : val ([] ++ [b]) = m := by simp [val, hbn]
      rw [hv, decDigits, dif_pos hm, hb]
      rfl
    · have hl : p.length = n := by simp at hn; omega
      have hp1 : 0 < p.length := List.length_pos_iff.2 hp
      have hph : p.head? ≠ some 48 := fun e => by
        have h1 : (p ++ [b]).head? = some 48 := by
          cases p with
          | nil => exact absurd rfl hp
          | cons x xs => simpa using e
        have := hh h1
        simp at this
        exact hp this
      have hi := ih p hp hd.1 (fun e => absurd e hph) hl
      have hv0 : val p ≠ 0 := fun e => by
        rw [e, decDigits, dif_pos (by omega)] at hi
        rw [← hi] at hph
        exact hph rfl
      have hbig : ¬ 10 * val p + (b.toNat - 48) < 10 := by omega
      rw [val_snoc, decDigits, dif_neg hbig]
      have e1 : (10 * val p + (b.toNat - 48)) / 10 = val p := by omega
      have e2 : (10 * val p + (b.toNat - 48)) % 10 = m := by omega
      rw [e1, e2, hi, hb]

theorem dec_len {n : Nat} (h : n ≤ 1099511627776) : (decDigits n).length ≤ 13 := by
  rw [decDigits_length]
  rcases Nat.lt_or_ge n 10 with h1 | h1
  · rw [nDigits_small h1]; omega
  · have h2 : ∀ k m, 10 ^ k ≤ m → k + 1 ≤ nDigits m := fun k => by
      induction k with
      | zero => exact fun m _ => nDigits_pos m
      | succ k ih =>
        intro m hm
        have h3 : ¬ m < 10 := by
          have : 10 ^ (k + 1) = 10 ^ k * 10 := Nat.pow_succ ..
          have := Nat.pow_pos (n := k) (show 0 < 10 by omega)
          omega
        rw [nDigits_big h3]
        have := ih (m / 10) (by
          have : 10 ^ (k + 1) = 10 ^ k * 10 := Nat.pow_succ ..
          omega)
        omega
    rcases Nat.lt_or_ge (nDigits n) 14 with h3 | h3
    · omega
    · exfalso
      have h4 := lt_pow_nDigits
      have h5 : 10 ^ 13 ≤ n := by
        have e := decDigits_length n
        rcases Nat.lt_or_ge n (10 ^ 13) with h6 | h6
        · have : ∀ k m, m < 10 ^ (k + 1) → nDigits m ≤ k + 1 := fun k => by
            induction k with
            | zero => intro m hm; rw [nDigits_small (by omega)]; omega
            | succ k ih =>
              intro m hm
              rcases Nat.lt_or_ge m 10 with h7 | h7
              · rw [nDigits_small h7]; omega
              · rw [nDigits_big (by omega)]
                have := ih (m / 10) (by
                  have : 10 ^ (k + 1 + 1) = 10 ^ (k + 1) * 10 := Nat.pow_succ ..
                  omega)
                omega
          have := this 12 n h6
          omega
        · exact h6
      omega

theorem parse_dig : ∀ (l : List UInt8) (acc : Nat), l.all dig = true → l.foldl (fun n b => 10 * n + (b.toNat - 48)) acc < 1844674407370955162 → parseUint10 acc l = .ok (l.foldl (fun n b => 10 * n + (b.toNat - 48)) acc)
  | [], acc, _, _ => rfl
  | b :: l, acc, hd, hv => by
    simp only [List.all_cons, Bool.and_eq_true] at hd
    obtain ⟨m, hm, hb, hbn⟩ := of_dig hd.1
    have hmono : ∀ (l : List UInt8) (a : Nat), a ≤ l.foldl (fun n b => 10 * n + (b.toNat - 48)) a := fun l => by
      induction l with
      | nil => exact fun a => Nat.le_refl _
      | cons x l ih => exact fun a => Nat.le_trans (by omega) (ih (10 * a + (x.toNat - 48)))
    simp only [List.foldl_cons] at hv ⊢
    have h1 := hmono l (10 * acc + (b.toNat - 48))
    have e : acc * 10 + (b.toNat - 48) = 10 * acc + (b.toNat - 48) := by omega
    rw [parseUint10, if_pos (by omega), if_neg (by omega), if_neg (by omega), e]
    exact parse_dig l _ hd.2 hv

theorem okNum_iff (l : List UInt8) : okNum l = true ↔ l ≠ [] ∧ l.length ≤ 13 ∧ (l.head? = some 48 → l.length = 1) ∧ l.all dig = true ∧ val l ≤ 1099511627776 := by
  simp only [okNum, Bool.and_eq_true, decide_eq_true_eq, Bool.not_eq_true', Bool.and_eq_false_iff, decide_eq_false_iff_not]
  refine and_congr_right fun h0 => and_congr_right fun _ => and_congr_left fun _ => ?_
  have : 0 < l.length := List.length_pos_iff.2 h0
  constructor
  · rintro (h | h) h1
    · exact absurd h1 h
    · omega
  · intro h
    by_cases h1 : l.head? = some 48
    · exact Or.inr (by have := h h1; omega)
    · exact Or.inl h1

/-- What strconv says of a numeral, and of what is none. -/
theorem atoi_num (l : List UInt8) : (∃ v, atoiAll l = .ok v ∧ (0 ≤ v ∧ v ≤ 1099511627776) ∧ itoa v = l) ↔ okNum l = true := by
  constructor
  · rintro ⟨v, _, ⟨h0, h1⟩, h2⟩
    obtain ⟨n, rfl⟩ := Int.eq_ofNat_of_zero_le h0
    rw [itoa_nonneg] at h2
    obtain ⟨g1, g2, g3, _⟩ := dec_val n
    subst h2
    exact (okNum_iff _).2 ⟨g3, dec_len (by omega), dec_head, g2, by rw [g1]; omega⟩
  · intro h
    obtain ⟨h0, h1, h2, h3, h4⟩ := (okNum_iff l).1 h
    refine ⟨(val l : Int), ?_, by omega, by rw [itoa_nonneg, dec_of l h0 h3 h2]⟩
    cases l with
    | nil => exact absurd rfl h0
    | cons c r =>
      have hc : dig c = true := by simp at h3; exact h3.1
      obtain ⟨m, hm, _, hcn⟩ := of_dig hc
      have e1 : ¬ (c.toNat = 43 ∨ c.toNat = 45) := by omega
      have e2 : ¬ c.toNat = 45 := by omega
      have hp : parseMag (c :: r) = .ok (val (c :: r)) := by
        unfold parseMag
        rw [if_neg (by simp)]
        exact parse_dig _ 0 h3 (by unfold val at h4; omega)
      unfold atoiAll
      dsimp only
      rw [if_neg e1, hp]
      simp only [e2, not_false_eq_true, true_and, false_and, if_false]
      rw [if_neg (by omega)]

theorem num_itoa {l : List UInt8} {v : Int} (h0 : 0 ≤ v) (h1 : v ≤ 1099511627776) (h2 : itoa v = l) : num l = some v.toNat := by
  obtain ⟨n, rfl⟩ := Int.eq_ofNat_of_zero_le h0
  rw [itoa_nonneg] at h2
  obtain ⟨g1, g2, g3, _⟩ := dec_val n
  subst h2
  have : okNum (decDigits n) = true := (okNum_iff _).2 ⟨g3, dec_len (by omega), dec_head, g2, by rw [g1]; omega⟩
  rw [num, if_pos this, g1]
  rfl

/-! ### Lines -/

/-- The whole lines of a text, and what is left behind the last. -/
def lines : List UInt8 → List (List UInt8) × List UInt8
  | [] => ([], [])
  | b :: l => if b = 10 then ([] :: (lines l).1, (lines l).2) else match (lines l).1 with
    | [] => ([], b :: (lines l).2)
    | w :: ws => ((b :: w) :: ws, (lines l).2)

theorem lines_none : ∀ {l : List UInt8}, (10 : UInt8) ∉ l → lines l = ([], l)
  | [], _ => rfl
  | b :: l, h => by
    have h1 : ¬ b = 10 := fun e => h (by simp [e])
    have h2 : (10 : UInt8) ∉ l := fun e => h (by simp [e])
    rw [lines, if_neg h1, lines_none h2]

theorem lines_cons : ∀ {a : List UInt8} (b : List UInt8), (10 : UInt8) ∉ a → lines (a ++ 10 :: b) = (a :: (lines b).1, (lines b).2)
  | [], b, _ => by simp [lines]
  | x :: a, b, h => by
    have h1 : ¬ x = 10 := fun e => h (by simp [e])
    have h2 : (10 : UInt8) ∉ a := fun e => h (by simp [e])
    rw [List.cons_append, lines, if_neg h1, lines_cons b h2]

/-! ### Scripts -/

structure Sc where
  num : Nat
  den : Nat
  burst : Nat
  ops : List (Nat × Nat)

def sRate : List UInt8 := [114, 97, 116, 101]
def sIn : List UInt8 := [105, 110]
def sTick : List UInt8 := [116, 105, 99, 107]
def sPoll : List UInt8 := [112, 111, 108, 108]
def kindOf (w : List UInt8) : Nat := if w = sIn then 1 else if w = sTick then 2 else if w = sPoll then 3 else 0

def nums : List (List UInt8) → Option (List Nat)
  | [] => some []
  | w :: ws => match num w, nums ws with
    | some n, some l => some (n :: l)
    | _, _ => none

/-- The next line read. -/
def read (k : Nat) (s : Sc) (l : List UInt8) : Option Sc := match wds 32 l with
  | [] => none
  | w :: ws => match nums ws with
    | none => none
    | some ns =>
      if k = 0 then (if w = sRate then (match ns with
        | [a, b, c] => some ⟨a, b, c, s.ops⟩
        | _ => none) else none)
      else if kindOf w = 0 then none else (match ns with
        | [n] => some { s with ops := s.ops ++ [(kindOf w, n)] }
        | _ => none)

def prsL : Nat → Sc → List (List UInt8) → Nat × Option Sc
  | k, s, [] => (k, some s)
  | k, s, l :: ls => match read k s l with
    | none => (k, none)
    | some t => prsL (k + 1) t ls

def fin (k : Nat) (l : List UInt8) (s : Sc) : Nat × Option Sc := if l = [] ∧ k ≠ 0 then (0, some s) else (k, none)

/-- From the k-th line on. -/
def prs (k : Nat) (s : Sc) (t : List UInt8) : Nat × Option Sc := match prsL k s (lines t).1 with
  | (j, none) => (j, none)
  | (j, some x) => fin j (lines t).2 x

theorem prs_none {k : Nat} {s : Sc} {t : List UInt8} (h : (10 : UInt8) ∉ t) : prs k s t = fin k t s := by
  simp [prs, lines_none h, prsL]
theorem prs_cons {k : Nat} {s : Sc} {a b : List UInt8} (h : (10 : UInt8) ∉ a) : prs k s (a ++ 10 :: b) = match read k s a with
    | none => (k, none)
    | some t => prs (k + 1) t b := by
  rw [prs, lines_cons b h]
  simp only [prsL]
  cases read k s a with
  | none => rfl
  | some t => rfl
def sc0 : Sc := ⟨0, 0, 0, []⟩
def parse (t : List UInt8) : Nat × Option Sc := prs 0 sc0 t

end Go.Proofs.YtfcpmcdlgkfolaaDoor.Bn
