/- Text of bench: words, numbers, lines and scripts, in plain lists of bytes. -/
import Derived.Lib.Split
import Derived.Lib.AtoiAll
import Derived.Lib.ItoaMem
import Derived.Lib.ItoaLen
import Derived.Test.YtfcpmcdlgkfolaaDoorEA
import Derived.Test.YtfcpmcdlgkfolaaDoorEM
import Derived.Lib.ConvBytes
import Derived.Test.YtfcpmcdlgkfolaaDoorBnL
import Derived.Lib.AppendIntMem
import Derived.Shelf.Strings.Shaped
import Derived.Shelf.Strings.SplitShaped
import Derived.Shelf.Strings.BuilderK
import Derived.Shelf.Strings.Prefix
import Derived.Shelf.Strconv.Itoa4
import Derived.Shelf.Strconv.AtoiAll
namespace Go.Proofs.YtfcpmcdlgkfolaaDoor.Bn
open Go.Lib

/-- What stands between bytes c. -/
def wds (c : UInt8) : List UInt8 → List (List UInt8)
  | [] => [[]]
  | b :: l => if b = c then [] :: wds c l else match wds c l with
    | [] => [[b]]
    | w :: ws => (b :: w) :: ws

theorem wds_ne (c : UInt8) : ∀ l, wds c l ≠ []
  | [] => by simp [wds]
  | b :: l => by
    unfold wds
    split
    · simp
    · split <;> simp

theorem wds_none {c : UInt8} : ∀ {l : List UInt8}, c ∉ l → wds c l = [l]
  | [], _ => rfl
  | b :: l, h => by
    have h1 : ¬ b = c := fun e => h (by simp [e])
    have h2 : c ∉ l := fun e => h (by simp [e])
    rw [wds, if_neg h1, wds_none h2]

theorem wds_cons {c : UInt8} : ∀ {a : List UInt8} (b : List UInt8), c ∉ a → wds c (a ++ c :: b) = a :: wds c b
  | [], b, _ => by simp [wds]
  | x :: a, b, h => by
    have h1 : ¬ x = c := fun e => h (by simp [e])
    have h2 : c ∉ a := fun e => h (by simp [e])
    rw [List.cons_append, wds, if_neg h1, wds_cons b h2]

/-- One byte more. -/
def wadd (c b : UInt8) (ws : List (List UInt8)) : List (List UInt8) :=
  if b = c then ws ++ [[]] else ws.set (ws.length - 1) (ws.getD (ws.length - 1) [] ++ [b])

theorem wds_snoc (c b : UInt8) : ∀ l, wds c (l ++ [b]) = wadd c b (wds c l)
  | [] => by
    unfold wadd
    by_cases h : b = c <;> simp [wds, h]
  | x :: l => by
    have hn := wds_ne c l
    rw [List.cons_append, wds, wds_snoc c b l, wds]
    by_cases hx : x = c
    · rw [if_pos hx, if_pos hx]
      unfold wadd
      by_cases hb : b = c
      · simp [hb]
      · cases hw : wds c l with
        | nil => exact absurd hw hn
        | cons w ws => simp [hb]
    · rw [if_neg hx, if_neg hx]
      unfold wadd
      by_cases hb : b = c
      · cases hw : wds c l with
        | nil => exact absurd hw hn
        | cons w ws => simp [hb]
      · cases hw : wds c l with
        | nil => exact absurd hw hn
        | cons w ws =>
          cases ws with
          | nil => simp [hb]
          | cons w2 ws => simp [hb]

theorem occ1 (c : UInt8) : ∀ (l : List UInt8), (c ∉ l ∧ index l [c] = -1) ∨ ∃ a b, l = a ++ c :: b ∧ c ∉ a ∧ index l [c] = (a.length : Int)
  | [] => Or.inl ⟨by simp, rfl⟩
  | x :: l => by
    by_cases hx : x = c
    · subst hx
      exact Or.inr ⟨[], l, rfl, by simp, by simp [index, List.isPrefixOf]⟩
    · have hp : List.isPrefixOf [c] (x :: l) = false := by
        simp [List.isPrefixOf, Ne.symm hx]
      rcases occ1 c l with ⟨h1, h2⟩ | ⟨a, b, rfl, h1, h2⟩
      · refine Or.inl ⟨by simp [h1, Ne.symm hx], ?_⟩
        unfold index
        rw [hp, h2]
        rfl
      · refine Or.inr ⟨x :: a, b, rfl, by simp [h1, Ne.symm hx], ?_⟩
        unfold index
        rw [hp, h2]
        have h3 : ((a.length : Int) == -1) = false := by rw [beq_eq_false_iff_ne]; omega
        simp [h3]

theorem cut1 (c : UInt8) (l : List UInt8) : (c ∉ l ∧ cut l [c] = (l, [], false)) ∨ ∃ a b, l = a ++ c :: b ∧ c ∉ a ∧ cut l [c] = (a, b, true) := by
  rcases occ1 c l with ⟨h1, h2⟩ | ⟨a, b, h0, h1, h2⟩
  · exact Or.inl ⟨h1, by simp [cut, h2]⟩
  · refine Or.inr ⟨a, b, h0, h1, ?_⟩
    unfold cut
    rw [h2, if_pos (by omega)]
    subst h0
    simp

theorem split1 (c : UInt8) (l : List UInt8) : split l [c] = wds c l := by
  unfold split
  generalize hn : l.length = n
  induction n using Nat.strongRecOn generalizing l with
  | _ n ih =>
  rcases occ1 c l with ⟨h1, h2⟩ | ⟨a, b, h0, h1, h2⟩
  · rw [count_miss h2, wds_none h1]
    rfl
  · rw [count_hit (by simp) h2, Nat.add_comm, splitK, h2]
    have h3 : ((a.length : Int) == -1) = false := by rw [beq_eq_false_iff_ne]; omega
    subst h0
    rw [wds_cons b h1]
    simp only [h3]
    have hd : (a ++ c :: b).drop (a.length + [c].length) = b := by simp
    simp only [Int.toNat_natCast, hd]
    rw [ih b.length (by simp at hn; omega) b rfl]
    simp

/-! ### Numbers -/

def dig (b : UInt8) : Bool := decide (48 ≤ b.toNat) && decide (b.toNat ≤ 57)
def val (l : List UInt8) : Nat := l.foldl (fun n b => 10 * n + (b.toNat - 48)) 0
def okNum (l : List UInt8) : Bool := decide (l ≠ []) && (decide (l.length ≤ 13) && (!(decide (l.head? = some 48) && decide (1 < l.length)) && (l.all dig && decide (val l ≤ 1099511627776))))
def num (l : List UInt8) : Option Nat := if okNum l = true then some (val l) else none

theorem val_snoc (l : List UInt8) (b : UInt8) : val (l ++ [b]) = 10 * val l + (b.toNat - 48) := by simp [val]
theorem dig_of {n : Nat} (h : n < 10) : dig (UInt8.ofNat (48 + n)) = true ∧ (UInt8.ofNat (48 + n)).toNat = 48 + n := by
  have h2 : (UInt8.ofNat (48 + n)).toNat = 48 + n := by simp; omega
  refine ⟨?_, h2⟩
  unfold dig
  rw [h2]
  simp
  omega
theorem of_dig {b : UInt8} (h : dig b = true) : ∃ n, n < 10 ∧ b = UInt8.ofNat (48 + n) ∧ b.toNat = 48 + n := by
  simp only [dig, Bool.and_eq_true, decide_eq_true_eq] at h
  refine ⟨b.toNat - 48, by omega, ?_, by omega⟩
  apply UInt8.toNat_inj.1
  rw [(dig_of (n := b.toNat - 48) (by omega)).2]
  omega

theorem dec_val (n : Nat) : val (decDigits n) = n ∧ (decDigits n).all dig = true ∧ decDigits n ≠ [] ∧ ((decDigits n).head? = some 48 → n = 0) := by
  induction n using Nat.strongRecOn with
  | _ n ih =>
    by_cases h : n < 10
    · rw [decDigits, dif_pos h]
      obtain ⟨h1, h2⟩ := dig_of h
      generalize UInt8.ofNat (48 + n) = c at h1 h2 ⊢
      refine ⟨by simp [val, h2], by simp [h1], by simp, fun h3 => ?_⟩
      simp only [List.head?_cons, Option.some.injEq] at h3
      have : c.toNat = 48 := by rw [h3]; rfl
      omega
    · rw [decDigits, dif_neg h]
      obtain ⟨g1, g2, g3, g4⟩ := ih (n / 10) (by omega)
      obtain ⟨h1, h2⟩ := dig_of (n := n % 10) (by omega)
      generalize UInt8.ofNat (48 + n % 10) = c at h1 h2 ⊢
      refine ⟨by rw [val_snoc, g1, h2]; omega, by rw [List.all_append, g2]; simp [h1], by simp, fun h3 => ?_⟩
      cases hd : decDigits (n / 10) with
      | nil => exact absurd hd g3
      | cons x xs =>
        rw [hd] at h3 g4
        simp only [List.cons_append, List.head?_cons] at h3 g4
        have := g4 h3
        omega

theorem dec_head {n : Nat} (h : (decDigits n).head? = some 48) : (decDigits n).length = 1 := by
  have := (dec_val n).2.2.2 h
  subst this
  rw [decDigits, dif_pos (by omega)]
  rfl

/-- A numeral with no needless nought is the numeral of its value. -/
theorem dec_of (l : List UInt8) (h0 : l ≠ []) (hd : l.all dig = true) (hh : l.head? = some 48 → l.length = 1) : decDigits (val l) = l := by
  generalize hn : l.length = n
  induction n generalizing l with
  | zero => exact absurd (List.length_eq_zero_iff.1 hn) h0
  | succ n ih =>
    obtain ⟨p, b, rfl⟩ : ∃ p b, l = p ++ [b] := ⟨l.dropLast, l.getLast h0, (List.dropLast_concat_getLast h0).symm⟩
    simp only [List.all_append, List.all_cons, List.all_nil, Bool.and_true, Bool.and_eq_true] at hd
    obtain ⟨m, hm, hb, hbn⟩ := of_dig hd.2
    by_cases hp : p = []
    · subst hp
      have hv : val ([] ++ [b]) = m := by simp [val, hbn]
      rw [hv, decDigits, dif_pos hm, hb]
      rfl
    · have hl : p.length = n := by simp at hn; omega
      have hp1 : 0 < p.length := List.length_pos_iff.2 hp
      have hph : p.head? ≠ some 48 := fun e => by
        have h1 : (p ++ [b]).head? = some 48 := by
          cases p with
          | nil => exact absurd rfl hp
          | cons x xs => simpa using e
        have := hh h1
        simp at this
        exact hp this
      have hi := ih p hp hd.1 (fun e => absurd e hph) hl
      have hv0 : val p ≠ 0 := fun e => by
        rw [e, decDigits, dif_pos (by omega)] at hi
        rw [← hi] at hph
        exact hph rfl
      have hbig : ¬ 10 * val p + (b.toNat - 48) < 10 := by omega
      rw [val_snoc, decDigits, dif_neg hbig]
      have e1 : (10 * val p + (b.toNat - 48)) / 10 = val p := by omega
      have e2 : (10 * val p + (b.toNat - 48)) % 10 = m := by omega
      rw [e1, e2, hi, hb]

theorem dec_len {n : Nat} (h : n ≤ 1099511627776) : (decDigits n).length ≤ 13 := by
  rw [decDigits_length]
  rcases Nat.lt_or_ge n 10 with h1 | h1
  · rw [nDigits_small h1]; omega
  · have h2 : ∀ k m, 10 ^ k ≤ m → k + 1 ≤ nDigits m := fun k => by
      induction k with
      | zero => exact fun m _ => nDigits_pos m
      | succ k ih =>
        intro m hm
        have h3 : ¬ m < 10 := by
          have : 10 ^ (k + 1) = 10 ^ k * 10 := Nat.pow_succ ..
          have := Nat.pow_pos (n := k) (show 0 < 10 by omega)
          omega
        rw [nDigits_big h3]
        have := ih (m / 10) (by
          have : 10 ^ (k + 1) = 10 ^ k * 10 := Nat.pow_succ ..
          omega)
        omega
    rcases Nat.lt_or_ge (nDigits n) 14 with h3 | h3
    · omega
    · exfalso
      have h4 := lt_pow_nDigits
      have h5 : 10 ^ 13 ≤ n := by
        have e := decDigits_length n
        rcases Nat.lt_or_ge n (10 ^ 13) with h6 | h6
        · have : ∀ k m, m < 10 ^ (k + 1) → nDigits m ≤ k + 1 := fun k => by
            induction k with
            | zero => intro m hm; rw [nDigits_small (by omega)]; omega
            | succ k ih =>
              intro m hm
              rcases Nat.lt_or_ge m 10 with h7 | h7
              · rw [nDigits_small h7]; omega
              · rw [nDigits_big (by omega)]
                have := ih (m / 10) (by
                  have : 10 ^ (k + 1 + 1) = 10 ^ (k + 1) * 10 := Nat.pow_succ ..
                  omega)
                omega
          have := this 12 n h6
          omega
        · exact h6
      omega

theorem parse_dig : ∀ (l : List UInt8) (acc : Nat), l.all dig = true → l.foldl (fun n b => 10 * n + (b.toNat - 48)) acc < 1844674407370955162 → parseUint10 acc l = .ok (l.foldl (fun n b => 10 * n + (b.toNat - 48)) acc)
  | [], acc, _, _ => rfl
  | b :: l, acc, hd, hv => by
    simp only [List.all_cons, Bool.and_eq_true] at hd
    obtain ⟨m, hm, hb, hbn⟩ := of_dig hd.1
    have hmono : ∀ (l : List UInt8) (a : Nat), a ≤ l.foldl (fun n b => 10 * n + (b.toNat - 48)) a := fun l => by
      induction l with
      | nil => exact fun a => Nat.le_refl _
      | cons x l ih => exact fun a => Nat.le_trans (by omega) (ih (10 * a + (x.toNat - 48)))
    simp only [List.foldl_cons] at hv ⊢
    have h1 := hmono l (10 * acc + (b.toNat - 48))
    have e : acc * 10 + (b.toNat - 48) = 10 * acc + (b.toNat - 48) := by omega
    rw [parseUint10, if_pos (by omega), if_neg (by omega), if_neg (by omega), e]
    exact parse_dig l _ hd.2 hv

theorem okNum_iff (l : List UInt8) : okNum l = true ↔ l ≠ [] ∧ l.length ≤ 13 ∧ (l.head? = some 48 → l.length = 1) ∧ l.all dig = true ∧ val l ≤ 1099511627776 := by
  simp only [okNum, Bool.and_eq_true, decide_eq_true_eq, Bool.not_eq_true', Bool.and_eq_false_iff, decide_eq_false_iff_not]
  refine and_congr_right fun h0 => and_congr_right fun _ => and_congr_left fun _ => ?_
  have : 0 < l.length := List.length_pos_iff.2 h0
  constructor
  · rintro (h | h) h1
    · exact absurd h1 h
    · omega
  · intro h
    by_cases h1 : l.head? = some 48
    · exact Or.inr (by have := h h1; omega)
    · exact Or.inl h1

/-- What strconv says of a numeral, and of what is none. -/
theorem atoi_num (l : List UInt8) : (∃ v, atoiAll l = .ok v ∧ (0 ≤ v ∧ v ≤ 1099511627776) ∧ itoa v = l) ↔ okNum l = true := by
  constructor
  · rintro ⟨v, _, ⟨h0, h1⟩, h2⟩
    obtain ⟨n, rfl⟩ := Int.eq_ofNat_of_zero_le h0
    rw [itoa_nonneg] at h2
    obtain ⟨g1, g2, g3, _⟩ := dec_val n
    subst h2
    exact (okNum_iff _).2 ⟨g3, dec_len (by omega), dec_head, g2, by rw [g1]; omega⟩
  · intro h
    obtain ⟨h0, h1, h2, h3, h4⟩ := (okNum_iff l).1 h
    refine ⟨(val l : Int), ?_, by omega, by rw [itoa_nonneg, dec_of l h0 h3 h2]⟩
    cases l with
    | nil => exact absurd rfl h0
    | cons c r =>
      have hc : dig c = true := by simp at h3; exact h3.1
      obtain ⟨m, hm, _, hcn⟩ := of_dig hc
      have e1 : ¬ (c.toNat = 43 ∨ c.toNat = 45) := by omega
      have e2 : ¬ c.toNat = 45 := by omega
      have hp : parseMag (c :: r) = .ok (val (c :: r)) := by
        unfold parseMag
        rw [if_neg (by simp)]
        exact parse_dig _ 0 h3 (by unfold val at h4; omega)
      unfold atoiAll
      dsimp only
      rw [if_neg e1, hp]
      simp only [e2, not_false_eq_true, true_and, false_and, if_false]
      rw [if_neg (by omega)]

theorem num_itoa {l : List UInt8} {v : Int} (h0 : 0 ≤ v) (h1 : v ≤ 1099511627776) (h2 : itoa v = l) : num l = some v.toNat := by
  obtain ⟨n, rfl⟩ := Int.eq_ofNat_of_zero_le h0
  rw [itoa_nonneg] at h2
  obtain ⟨g1, g2, g3, _⟩ := dec_val n
  subst h2
  have : okNum (decDigits n) = true := (okNum_iff _).2 ⟨g3, dec_len (by omega), dec_head, g2, by rw [g1]; omega⟩
  rw [num, if_pos this, g1]
  rfl

/-! ### Lines -/

/-- The whole lines of a text, and what is left behind the last. -/
def lines : List UInt8 → List (List UInt8) × List UInt8
  | [] => ([], [])
  | b :: l => if b = 10 then ([] :: (lines l).1, (lines l).2) else match (lines l).1 with
    | [] => ([], b :: (lines l).2)
    | w :: ws => ((b :: w) :: ws, (lines l).2)

theorem lines_none : ∀ {l : List UInt8}, (10 : UInt8) ∉ l → lines l = ([], l)
  | [], _ => rfl
  | b :: l, h => by
    have h1 : ¬ b = 10 := fun e => h (by simp [e])
    have h2 : (10 : UInt8) ∉ l := fun e => h (by simp [e])
    rw [lines, if_neg h1, lines_none h2]

theorem lines_cons : ∀ {a : List UInt8} (b : List UInt8), (10 : UInt8) ∉ a → lines (a ++ 10 :: b) = (a :: (lines b).1, (lines b).2)
  | [], b, _ => by simp [lines]
  | x :: a, b, h => by
    have h1 : ¬ x = 10 := fun e => h (by simp [e])
    have h2 : (10 : UInt8) ∉ a := fun e => h (by simp [e])
    rw [List.cons_append, lines, if_neg h1, lines_cons b h2]

/-! ### Scripts -/

structure Sc where
  num : Nat
  den : Nat
  burst : Nat
  ops : List (Nat × Nat)

def sRate : List UInt8 := [114, 97, 116, 101]
def sIn : List UInt8 := [105, 110]
def sTick : List UInt8 := [116, 105, 99, 107]
def sPoll : List UInt8 := [112, 111, 108, 108]
def kindOf (w : List UInt8) : Nat := if w = sIn then 1 else if w = sTick then 2 else if w = sPoll then 3 else 0

def nums : List (List UInt8) → Option (List Nat)
  | [] => some []
  | w :: ws => match num w, nums ws with
    | some n, some l => some (n :: l)
    | _, _ => none

/-- The next line read. -/
def read (k : Nat) (s : Sc) (l : List UInt8) : Option Sc := match wds 32 l with
  | [] => none
  | w :: ws => match nums ws with
    | none => none
    | some ns =>
      if k = 0 then (if w = sRate then (match ns with
        | [a, b, c] => some ⟨a, b, c, s.ops⟩
        | _ => none) else none)
      else if kindOf w = 0 then none else (match ns with
        | [n] => some { s with ops := s.ops ++ [(kindOf w, n)] }
        | _ => none)

def prsL : Nat → Sc → List (List UInt8) → Nat × Option Sc
  | k, s, [] => (k, some s)
  | k, s, l :: ls => match read k s l with
    | none => (k, none)
    | some t => prsL (k + 1) t ls

def fin (k : Nat) (l : List UInt8) (s : Sc) : Nat × Option Sc := if l = [] ∧ k ≠ 0 then (0, some s) else (k, none)

/-- From the k-th line on. -/
def prs (k : Nat) (s : Sc) (t : List UInt8) : Nat × Option Sc := match prsL k s (lines t).1 with
  | (j, none) => (j, none)
  | (j, some x) => fin j (lines t).2 x

theorem prs_none {k : Nat} {s : Sc} {t : List UInt8} (h : (10 : UInt8) ∉ t) : prs k s t = fin k t s := by
  simp [prs, lines_none h, prsL]
theorem prs_cons {k : Nat} {s : Sc} {a b : List UInt8} (h : (10 : UInt8) ∉ a) : prs k s (a ++ 10 :: b) = match read k s a with
    | none => (k, none)
    | some t => prs (k + 1) t b := by
  rw [prs, lines_cons b h]
  simp only [prsL]
  cases read k s a with
  | none => rfl
  | some t => rfl
def sc0 : Sc := ⟨0, 0, 0, []⟩
def parse (t : List UInt8) : Nat × Option Sc := prs 0 sc0 t

end Go.Proofs.YtfcpmcdlgkfolaaDoor.Bn

namespace Go.Proofs.YtfcpmcdlgkfolaaDoor.E
open Go.RowKit Go.MapKept
open Go.ChangeMaps (setBlock)

/-- A string of these bytes. -/
@[reducible] def str (l : List UInt8) : Value := .string ⟨l.toArray⟩
theorem str_of (s : ByteArray) : Value.string s = str s.data.toList := rfl
theorem mk_inj {a b : List UInt8} : (ByteArray.mk a.toArray = ByteArray.mk b.toArray) ↔ a = b := by
  constructor
  · intro h
    injection h with h
    exact congrArg Array.toList h
  · rintro rfl; rfl
theorem mk_size (a : List UInt8) : (ByteArray.mk a.toArray).size = a.length := by simp [ByteArray.size]

theorem beq_str (a b : List UInt8) : (ByteArray.mk a.toArray == ByteArray.mk b.toArray) = decide (a = b) := by
  have : (ByteArray.mk a.toArray == ByteArray.mk b.toArray) = (a.toArray == b.toArray) := rfl
  rw [this]
  by_cases h : a = b <;> simp [h]

section
variable {P : Program} {N : Nat} {w0 : World} {F : Frm} {L : List Res} {d : Option Tmp} {x y z : Operand} {v u : Value} {ty t t' kt et : TypeId} {pos : String} {af : Array Edge} {gd : Option (Nat × Bool)} {K : Frm → List Res → Prop} {a b : List UInt8}

theorem y_cat (hx : FE N F x (str a)) (hy : FE N F y (str b)) (h : a.length + b.length ≤ 4611686018427387904) : Yld P N w0 F L ⟨d, .binOp .add t x y t', ty, pos, af, gd⟩ (str (a ++ b)) :=
  y_binop hx hy fun w => by
    have h1 : ¬ (((ByteArray.mk a.toArray).size + (ByteArray.mk b.toArray).size : Nat) : Int) > IntKind.i64.max := by
      rw [mk_size, mk_size]
      have : IntKind.i64.max = 9223372036854775807 := by decide
      omega
    have h2 : ByteArray.mk a.toArray ++ ByteArray.mk b.toArray = ByteArray.mk (a ++ b).toArray := by
      apply ByteArray.ext
      simp
    simp only [eqGuard, binOp, Op.stringOp, if_neg h1, h2]
    simp
theorem y_eqs (hx : FE N F x (str a)) (hy : FE N F y (str b)) : Yld P N w0 F L ⟨d, .binOp .eql t x y t', ty, pos, af, gd⟩ (.bool (decide (a = b))) :=
  y_binop hx hy fun w => by
    simp only [eqGuard, binOp, Op.stringOp, ByteArray.toList_mk]
    by_cases h : a = b <;> simp [h]
theorem y_nes (hx : FE N F x (str a)) (hy : FE N F y (str b)) : Yld P N w0 F L ⟨d, .binOp .neq t x y t', ty, pos, af, gd⟩ (.bool (decide (¬ a = b))) :=
  y_binop hx hy fun w => by
    simp only [eqGuard, binOp, Op.stringOp, ByteArray.toList_mk]
    by_cases h : a = b <;> simp [h]
theorem y_slen {s : TypeId} (hs : P.underlying s = some .string) (hx : FE N F x (str a)) : Yld P N w0 F L ⟨d, .call ⟨.builtin .len, #[x], #[s]⟩, ty, pos, af, gd⟩ (.int .i64 (a.length : Int)) := fun q w hF _ => by
  simp [execOp, resolve, invoke, builtin, hx q hF, run_len_string w s ty _ hs, goInt, mk_size]
theorem y_sidx {i : Nat} {k : IntKind} (hs : P.underlying t = some .string) (hx : FE N F x (str a)) (hy : FE N F y (.int k (i : Int))) (h : i < a.length) : Yld P N w0 F L ⟨d, .index t x y, ty, pos, af, gd⟩ (.int .u8 ((a[i]'h).toNat : Int)) := fun q w hF _ => by
  have h1 : (0 : Int) ≤ (i : Int) ∧ (i : Int) < ((ByteArray.mk a.toArray).size : Int) := by rw [mk_size]; omega
  have h2 := run_index_string (P := P) w t ⟨a.toArray⟩ k (i : Int) hs
  rw [dif_pos h1] at h2
  have h3 : ((ByteArray.mk a.toArray)[i]'(by rw [mk_size]; exact h)) = a[i]'h := by
    simp [ByteArray.getElem_eq_getElem_data]
  simp [execOp, hx q hF, hy q hF, h2, h3]

theorem extract_str (a : List UInt8) (i j : Nat) : (ByteArray.mk a.toArray).extract i j = ByteArray.mk ((a.drop i).take (j - i)).toArray := by
  apply ByteArray.ext
  simp [ByteArray.data_extract]
/-- A piece of a string. -/
theorem y_scut {i j : Nat} {k k' : IntKind} (hs : P.underlying t = some .string) (hx : FE N F x (str a)) (hy : FE N F y (.int k (i : Int))) (hz : FE N F z (.int k' (j : Int))) (h1 : i ≤ j) (h2 : j ≤ a.length) : Yld P N w0 F L ⟨d, .slice t x (some y) (some z) none, ty, pos, af, gd⟩ (str ((a.drop i).take (j - i))) := fun q w hF _ => by
  have h3 : ¬ ((i : Int) < 0) := by omega
  simp [execOp, hx q hF, hy q hF, hz q hF, run_sliceAt_string w t _ _ _ _ hs, Instr.slice, run_underlying hs, Instr.sliceBounds, Instr.sliceBound, asIntOf, mk_size, extract_str, h1, h2, Result.andThen]

def bC (l : List UInt8) : List Value := l.map fun b => .int .u8 (b.toNat : Int)
theorem bC_len (l : List UInt8) : (bC l).length = l.length := by simp [bC]
theorem bC_get {l : List UInt8} {i : Nat} (h : i < l.length) : (bC l)[i]? = some (.int .u8 ((l[i]'h).toNat : Int)) := by simp [bC, h]

/-- Cells that are only read. -/
def rdo (g : Nat) (xs : List Value) : Res where
  foot := [g]
  holds w := ∀ (i : Nat) (u : Value), xs[i]? = some u → w.cell? ⟨g, i, none⟩ = some u
  stable w w' hf hh i u hu := by
    have := hh i u hu
    rw [← this]
    simp [World.cell?, hf g (List.mem_cons_self ..)]
theorem rdl_rdo {g : Nat} {xs : List Value} (i : Nat) (h : lget L i = some (rdo g xs)) : RdL w0 L (some ⟨g, 0, none⟩) xs := fun w hS => .inr ⟨g, 0, rfl, fun j u hu => by
  have := hS.holds _ _ h j u hu
  simpa using this⟩
/-- The bytes of a string as a slice. -/
theorem oj_sbytes {e : Nat} {ds : TypeDesc} (hs : P.underlying t = some ds) (hd : P.underlying t' = some (.slice e)) (he : P.underlying e = some (.int .u8)) (hx : FE N F x (str a)) (h : ∀ g c, K (fput F d (.slice (some ⟨g, 0, none⟩) a.length c)) (rdo g (bC a) :: L)) : OpJ P N w0 F L ⟨d, .convert t t' x, ty, pos, af, gd⟩ K := fun q w hF hS => by
  have hr := Lib.run_convert_string_bytes (P := P) w t t' e ⟨a.toArray⟩ hs hd he
  have hr2 : (execOp q.eval ⟨d, .convert t t' x, ty, pos, af, gd⟩).run P w = .ok (.value (.slice (some ⟨w.heap.size, 0, none⟩) (ByteArray.mk a.toArray).size (grownCap w (ByteArray.mk a.toArray).size 0 e))) (Lib.bytesWorld w e ⟨a.toArray⟩) := by
    simp [execOp, hx q hF, hr]
  unfold Oper.wp
  rw [hr2, mk_size]
  refine ⟨_, _, h w.heap.size _, hF.put _ _, hS.add ⟨rfl, rfl, rfl, by rw [Lib.bytesWorld_size]; omega, fun k hk => Lib.bytesWorld_at_old w e _ k hk⟩ (fun i u hu => ?_) (fun b hb => ?_)⟩
  · obtain ⟨hi, hu2⟩ := List.getElem?_eq_some_iff.1 hu
    rw [bC_len] at hi
    have := Lib.bytesWorld_cell w e ⟨a.toArray⟩ i (by rw [mk_size]; exact hi)
    rw [this, ← hu2]
    simp [bC, hi]
  · simp only [rdo, List.mem_singleton] at hb
    subst hb
    exact ⟨Nat.le_refl _, by rw [Lib.bytesWorld_size]; omega⟩

/-! ### Maps keyed by strings -/

def kvS (p : List UInt8 × Value) : Value × Value := (str p.1, p.2)
def sget : List (List UInt8 × Value) → List UInt8 → Option Value
  | [], _ => none
  | (j, v) :: l, k => if j = k then some v else sget l k
theorem find_viewS (k : List UInt8) : ∀ (l : List MapEntry) (m : List (List UInt8 × Value)) (i : Nat), l.map vw = m.map kvS →
    (Instr.findNow .string (str k) l i = some none ∧ sget m k = none) ∨ ∃ j e, Instr.findNow .string (str k) l i = some (some (i + j, e)) ∧ sget m k = some e
  | [], m, i, h => by
    have : m = [] := by cases m with | nil => rfl | cons _ _ => simp at h
    subst this
    exact .inl ⟨rfl, rfl⟩
  | e :: es, [], i, h => by simp at h
  | e :: es, (j, u) :: ms, i, h => by
    simp only [List.map_cons, List.cons.injEq] at h
    obtain ⟨h1, h2⟩ := h
    simp only [vw, kvS, Prod.mk.injEq] at h1
    obtain ⟨hk, hv⟩ := h1
    by_cases hj : j = k
    · subst hj
      exact .inr ⟨0, e.val, by simp [Instr.findNow, hk, Instr.sameNow, beq_str], by simp [sget, hv]⟩
    · have hs : Instr.sameNow .string (str k) e.key = some false := by
        rw [hk]
        simp [Instr.sameNow, beq_str, Ne.symm hj]
      rcases find_viewS k es ms (i + 1) h2 with ⟨g1, g2⟩ | ⟨q, x, g1, g2⟩
      · exact .inl ⟨by simp [Instr.findNow, hs, g1], by simp [sget, hj, g2]⟩
      · exact .inr ⟨q + 1, x, by simp [Instr.findNow, hs, g1]; omega, by simp [sget, hj, g2]⟩

/-- A map keyed by strings. -/
def smR (b : Nat) (m : List (List UInt8 × Value)) : Res where
  foot := [b]
  holds w := ∃ es clock, w.heap[b]? = some (.map es clock) ∧ es.toList.map vw = m.map kvS
  stable w w' hf hh := by
    obtain ⟨es, clock, h1, h2⟩ := hh
    exact ⟨es, clock, (hf b (List.mem_cons_self ..)).trans h1, h2⟩

theorem oj_makeMapS (h : ∀ b, K (fput F d (.map (some b))) (smR b [] :: L)) : OpJ P N w0 F L ⟨d, .makeMap t none, ty, pos, af, gd⟩ K := fun a w hF hS => by
  have hr : (execOp a.eval ⟨d, .makeMap t none, ty, pos, af, gd⟩).run P w = .ok (.value (.map (some w.heap.size))) (w.alloc (.map #[] 0)) := by
    simp [execOp, Instr.makeMap, newObj, run_new]
  unfold Oper.wp
  rw [hr]
  refine ⟨_, _, h w.heap.size, hF.put _ _, hS.add (alloc_new w _) ⟨#[], 0, heap_alloc_new w _, rfl⟩ (fun b hb => ?_)⟩
  simp only [smR, List.mem_singleton] at hb
  subst hb
  exact ⟨Nat.le_refl _, by simp⟩

theorem y_lookupS {b : Nat} {m : List (List UInt8 × Value)} {k : List UInt8} (i : Nat) (hm : P.underlying t = some (.map kt et)) (hkt : P.underlying kt = some .string) (hz : ∀ w, (zeroValue et).run P w = .ok v w) (hx : FE N F x (.map (some b))) (hy : FE N F y (str k)) (hk : lget L i = some (smR b m)) :
    Yld P N w0 F L ⟨d, .lookup t x y false, ty, pos, af, gd⟩ ((sget m k).getD v) := fun a w hF hS => by
  obtain ⟨es, clock, h1, h3⟩ := hS.holds i _ hk
  rcases find_viewS k es.toList m 0 h3 with ⟨g1, g2⟩ | ⟨j, e, g1, g2⟩
  · simp [execOp, Instr.lookup, hx a hF, hy a hF, run_underlying hm, MapKept.run_getObj_map h1, run_checkKey (k := str k) hkt trivial, run_findKey hkt g1, Result.andThen, hz, g2]
  · simp [execOp, Instr.lookup, hx a hF, hy a hF, run_underlying hm, MapKept.run_getObj_map h1, run_checkKey (k := str k) hkt trivial, run_findKey hkt g1, Result.andThen, hz, g2]

/-- A new key of a literal. -/
theorem oj_mapLit {b : Nat} {m : List (List UInt8 × Value)} {k : List UInt8} (i : Nat) (hm : P.underlying t = some (.map kt et)) (hkt : P.underlying kt = some .string) (hx : FE N F x (.map (some b))) (hy : FE N F y (str k)) (hv : FE N F z v) (hk : lget L i = some (smR b m)) (hn : sget m k = none)
    (h : K (fput F d undef) (lset L i (smR b (m ++ [(k, v)])))) : OpJ P N w0 F L ⟨d, .insert t x y z, ty, pos, af, gd⟩ K := fun a w hF hS => by
  obtain ⟨es, clock, h1, h3⟩ := hS.holds i _ hk
  have hb : b < w.heap.size := (Array.getElem?_eq_some_iff.1 h1).1
  have hset : ∀ o, (setBlock w b o).heap[b]? = some o := fun o => by simp [setBlock, hb]
  rcases find_viewS k es.toList m 0 h3 with ⟨g1, g2⟩ | ⟨j, e, g1, g2⟩
  · have hr : (execOp a.eval ⟨d, .insert t x y z, ty, pos, af, gd⟩).run P w = .ok .skip (setBlock w b (.map (es.push { key := str k, val := v, born := clock }) (clock + 1))) := by
      simp [execOp, Instr.mapUpdate, hx a hF, hy a hF, hv a hF, run_underlying hm, MapKept.run_getObj_map h1, run_checkKey (k := str k) hkt trivial, run_findKey hkt g1, MapKept.run_setObj_map _ h1, Result.andThen, setBlock]
    unfold Oper.wp
    rw [hr]
    refine ⟨_, _, h, hF.put _ _, hS.turn hk rfl rfl rfl (by simp [setBlock]) (fun c _ hc => ?_) ⟨_, _, hset _, by simp [h3, vw, kvS]⟩ (fun c hc => ⟨by simpa [setBlock] using (hS.lt i _ hk c hc).2, .inl hc⟩)⟩
    have : b ≠ c := fun e => hc (by subst e; exact List.mem_cons_self ..)
    simp [setBlock, this]
  · rw [hn] at g2
    cases g2
theorem y_subq {k : IntKind} {m n c : Int} (hx : FE N F x (.int k m)) (hy : FE N F y (.int k n)) (h : k.wrap (m - n) = c) : Yld P N w0 F L ⟨d, .binOp .sub t x y t', ty, pos, af, gd⟩ (.int k c) := h ▸ y_subk hx hy
/-- A string of one byte. -/
theorem y_b1 {e g : Nat} {b : UInt8} (i : Nat) (hs : P.underlying t = some (.slice e)) (he : P.underlying e = some (.int .u8)) (hd : P.underlying t' = some .string) (hx : FE N F x (.slice (some ⟨g, 0, none⟩) 1 1)) (hk : lget L i = some (blk g [.int .u8 (b.toNat : Int)])) : Yld P N w0 F L ⟨d, .convert t t' x, ty, pos, af, gd⟩ (str [b]) := fun a w hF hS => by
  obtain ⟨T, hg⟩ := hS.holds i _ hk
  have h1 := run_convert_bytes_string (P := P) w t t' e (some ⟨g, 0, none⟩) 1 1 hs he hd
  have h2 := run_bytesToString (P := P) w ⟨g, 0, none⟩ 1 1 [(b.toNat : Int)] (by
    have := run_loadCells_list (P := P) w ⟨g, 0, none⟩ [.int .u8 (b.toNat : Int)] (fun i u hu => by
      rw [Addr.add_lit, cell_of_row w g (0 + i) _ T (0, 0) hg]
      simpa using hu)
    simpa using this)
  have h3 : ([(b.toNat : Int)].foldl (fun r n => r.push (UInt8.ofNat n.toNat)) ByteArray.empty) = ⟨[b].toArray⟩ := by
    simp [ByteArray.push, ByteArray.empty, ByteArray.emptyWithCapacity]
    rfl
  rw [h3] at h2
  simp [execOp, hx a hF, h1, h2]
theorem y_to {o : Oper} (h : Yld P N w0 F L o v) (e : v = u) : Yld P N w0 F L o u := e ▸ h
/-- Is there no error? -/
theorem y_eqi {p : Bool} {ms : Array (String × TypeId)} (hu : P.underlying t = some (.interface ms)) (hx : FE N F x v) (h : (p = true ∧ v = .nilIface) ∨ (p = false ∧ ∃ a b, v = .iface a b)) : Yld P N w0 F L ⟨d, .binOp .eql t x (.const .nilIface) t', ty, pos, af, gd⟩ (.bool p) :=
  y_binop hx fe_c fun w => by
    have e1 : ∀ y, (Op.equal t v y).run P w = (Op.equalIn (9999 + 1) t v y).run P w := fun _ => rfl
    have e2 : (Op.equal t v .nilIface).run P w = .ok p w := by
      rw [e1]
      unfold Op.equalIn
      rcases h with ⟨rfl, rfl⟩ | ⟨rfl, a, b, rfl⟩ <;> simp only [Sem.run_bind, run_underlying hu, Result.andThen_ok] <;> rfl
    rcases h with ⟨rfl, rfl⟩ | ⟨rfl, a, b, rfl⟩ <;> simp [eqGuard, binOp, e2]
/-- A key of a literal is a key stored. -/
theorem oj_insert (h : OpJ P N w0 F L ⟨d, .mapUpdate t x y z, ty, pos, af, gd⟩ K) : OpJ P N w0 F L ⟨d, .insert t x y z, ty, pos, af, gd⟩ K := fun a w hF hS => h a w hF hS
/-- Literals of cells. -/
theorem oj_lit3 {e : Nat} {x0 x1 x2 : Operand} {v0 v1 v2 z : Value} (hu : P.underlying t = some (.slice e)) (hs : ∀ w, (sizeOf e).run P w = .ok 1 w) (hz : ∀ w, (zeroValue e).run P w = .ok z w) (hzc : z.cells = #[z]) (h0 : FE N F x0 v0) (h1 : FE N F x1 v1) (h2 : FE N F x2 v2)
    (c0 : v0.cells = #[v0]) (c1 : v1.cells = #[v1]) (c2 : v2.cells = #[v2])
    (h : ∀ g, K (fput F d (.slice (some ⟨g, 0, none⟩) 3 3)) (vec e 1 (.slice (some ⟨g, 0, none⟩) 3 3) 3 [v0, v1, v2] :: L)) : OpJ P N w0 F L ⟨d, .buildSlice t 3 #[(0, x0), (1, x1), (2, x2)], ty, pos, af, gd⟩ K := fun ac w hF hS => by
  have hfill : Instr.fill (fun i => some (i, 1)) ((Array.range 3).map (z.cells[· % z.cells.size]!)) [(0, v0), (1, v1), (2, v2)] = some #[v0, v1, v2] := by
    have hq : (Array.range 3).map (z.cells[· % z.cells.size]!) = #[z, z, z] := by
      rw [hzc]
      simp [show Array.range 3 = #[0, 1, 2] from rfl]
    rw [hq]
    simp [Instr.fill, c0, c1, c2]
    try rfl
  have hr : (execOp ac.eval ⟨d, .buildSlice t 3 #[(0, x0), (1, x1), (2, x2)], ty, pos, af, gd⟩).run P w = .ok (.value (.slice (some ⟨w.heap.size, 0, none⟩) 3 3)) (w.alloc (.cells #[v0, v1, v2] e)) := by
    simp [execOp, Instr.buildSlice, h0 ac hF, h1 ac hF, h2 ac hF, run_underlying hu, hs, hz, hfill, newRow, newObj, run_new]
  unfold Oper.wp
  rw [hr]
  refine ⟨_, _, h w.heap.size, hF.put _ _, hS.add (alloc_new w _) ⟨rfl, .inr ⟨w.heap.size, 0, 3, #[v0, v1, v2], rfl, heap_alloc_new w _, Nat.le_refl _, by decide, by simp, by simp⟩⟩ (fun b hb => ?_)⟩
  simp only [vec, Value.ownBlock, Option.toList_some, List.mem_singleton] at hb
  subst hb
  exact ⟨Nat.le_refl _, by simp⟩
theorem oj_lit4 {e : Nat} {x0 x1 x2 x3 : Operand} {v0 v1 v2 v3 z : Value} (hu : P.underlying t = some (.slice e)) (hs : ∀ w, (sizeOf e).run P w = .ok 1 w) (hz : ∀ w, (zeroValue e).run P w = .ok z w) (hzc : z.cells = #[z]) (h0 : FE N F x0 v0) (h1 : FE N F x1 v1) (h2 : FE N F x2 v2) (h3 : FE N F x3 v3)
    (c0 : v0.cells = #[v0]) (c1 : v1.cells = #[v1]) (c2 : v2.cells = #[v2]) (c3 : v3.cells = #[v3])
    (h : ∀ g, K (fput F d (.slice (some ⟨g, 0, none⟩) 4 4)) (vec e 1 (.slice (some ⟨g, 0, none⟩) 4 4) 4 [v0, v1, v2, v3] :: L)) : OpJ P N w0 F L ⟨d, .buildSlice t 4 #[(0, x0), (1, x1), (2, x2), (3, x3)], ty, pos, af, gd⟩ K := fun ac w hF hS => by
  have hfill : Instr.fill (fun i => some (i, 1)) ((Array.range 4).map (z.cells[· % z.cells.size]!)) [(0, v0), (1, v1), (2, v2), (3, v3)] = some #[v0, v1, v2, v3] := by
    have hq : (Array.range 4).map (z.cells[· % z.cells.size]!) = #[z, z, z, z] := by
      rw [hzc]
      simp [show Array.range 4 = #[0, 1, 2, 3] from rfl]
    rw [hq]
    simp [Instr.fill, c0, c1, c2, c3]
    try rfl
  have hr : (execOp ac.eval ⟨d, .buildSlice t 4 #[(0, x0), (1, x1), (2, x2), (3, x3)], ty, pos, af, gd⟩).run P w = .ok (.value (.slice (some ⟨w.heap.size, 0, none⟩) 4 4)) (w.alloc (.cells #[v0, v1, v2, v3] e)) := by
    simp [execOp, Instr.buildSlice, h0 ac hF, h1 ac hF, h2 ac hF, h3 ac hF, run_underlying hu, hs, hz, hfill, newRow, newObj, run_new]
  unfold Oper.wp
  rw [hr]
  refine ⟨_, _, h w.heap.size, hF.put _ _, hS.add (alloc_new w _) ⟨rfl, .inr ⟨w.heap.size, 0, 4, #[v0, v1, v2, v3], rfl, heap_alloc_new w _, Nat.le_refl _, by decide, by simp, by simp⟩⟩ (fun b hb => ?_)⟩
  simp only [vec, Value.ownBlock, Option.toList_some, List.mem_singleton] at hb
  subst hb
  exact ⟨Nat.le_refl _, by simp⟩
theorem oj_lit5 {e : Nat} {x0 x1 x2 x3 x4 : Operand} {v0 v1 v2 v3 v4 z : Value} (hu : P.underlying t = some (.slice e)) (hs : ∀ w, (sizeOf e).run P w = .ok 1 w) (hz : ∀ w, (zeroValue e).run P w = .ok z w) (hzc : z.cells = #[z]) (h0 : FE N F x0 v0) (h1 : FE N F x1 v1) (h2 : FE N F x2 v2) (h3 : FE N F x3 v3) (h4 : FE N F x4 v4)
    (c0 : v0.cells = #[v0]) (c1 : v1.cells = #[v1]) (c2 : v2.cells = #[v2]) (c3 : v3.cells = #[v3]) (c4 : v4.cells = #[v4])
    (h : ∀ g, K (fput F d (.slice (some ⟨g, 0, none⟩) 5 5)) (vec e 1 (.slice (some ⟨g, 0, none⟩) 5 5) 5 [v0, v1, v2, v3, v4] :: L)) : OpJ P N w0 F L ⟨d, .buildSlice t 5 #[(0, x0), (1, x1), (2, x2), (3, x3), (4, x4)], ty, pos, af, gd⟩ K := fun ac w hF hS => by
  have hfill : Instr.fill (fun i => some (i, 1)) ((Array.range 5).map (z.cells[· % z.cells.size]!)) [(0, v0), (1, v1), (2, v2), (3, v3), (4, v4)] = some #[v0, v1, v2, v3, v4] := by
    have hq : (Array.range 5).map (z.cells[· % z.cells.size]!) = #[z, z, z, z, z] := by
      rw [hzc]
      simp [show Array.range 5 = #[0, 1, 2, 3, 4] from rfl]
    rw [hq]
    simp [Instr.fill, c0, c1, c2, c3, c4]
    try rfl
  have hr : (execOp ac.eval ⟨d, .buildSlice t 5 #[(0, x0), (1, x1), (2, x2), (3, x3), (4, x4)], ty, pos, af, gd⟩).run P w = .ok (.value (.slice (some ⟨w.heap.size, 0, none⟩) 5 5)) (w.alloc (.cells #[v0, v1, v2, v3, v4] e)) := by
    simp [execOp, Instr.buildSlice, h0 ac hF, h1 ac hF, h2 ac hF, h3 ac hF, h4 ac hF, run_underlying hu, hs, hz, hfill, newRow, newObj, run_new]
  unfold Oper.wp
  rw [hr]
  refine ⟨_, _, h w.heap.size, hF.put _ _, hS.add (alloc_new w _) ⟨rfl, .inr ⟨w.heap.size, 0, 5, #[v0, v1, v2, v3, v4], rfl, heap_alloc_new w _, Nat.le_refl _, by decide, by simp, by simp⟩⟩ (fun b hb => ?_)⟩
  simp only [vec, Value.ownBlock, Option.toList_some, List.mem_singleton] at hb
  subst hb
  exact ⟨Nat.le_refl _, by simp⟩
end
end Go.Proofs.YtfcpmcdlgkfolaaDoor.E

namespace Go.Proofs.YtfcpmcdlgkfolaaDoor.Bn
open Go.RowKit Go.Lib Go.Proofs.YtfcpmcdlgkfolaaDoor.E

/-- The name of the table of powers of ten. -/
noncomputable def pow10N : String := ((Tryd.prog.globals[YtfcpmcdlgkfolaaDoor.Bench.itoaL_ren.g 17]?).map (·.name)).getD ""
theorem tab_of {w : World} {s : String} (h : pow10N = s) (ht : TabIs Tryd.prog w pow10N .u64 pow10Tab) : TabIs Tryd.prog w s .u64 pow10Tab := h ▸ ht

/-- What the world holds of the library's. -/
structure Gw (w : World) : Prop where
  ml : ∃ m : Int, w.cell? ⟨YtfcpmcdlgkfolaaDoor.Bench.cutL_ren.g 1, 0, none⟩ = some (.int .i64 m)
  tab : TabIs Tryd.prog w pow10N .u64 pow10Tab
  es : ∃ tp p, w.cell? ⟨YtfcpmcdlgkfolaaDoor.Bench.atoiL_ren.g 15, 0, none⟩ = some (.iface tp p)
  er : ∃ tp p, w.cell? ⟨YtfcpmcdlgkfolaaDoor.Bench.atoiL_ren.g 16, 0, none⟩ = some (.iface tp p)

theorem cell_lt {w : World} {p : Addr} {v : Value} (h : w.cell? p = some v) : p.block < w.heap.size := by
  rcases Nat.lt_or_ge p.block w.heap.size with h1 | h1
  · exact h1
  · simp [World.cell?, Array.getElem?_eq_none h1] at h
theorem Gw.below {w0 w : World} (h : Gw w0) (hb : Below w0.heap.size w0 w) : Gw w := by
  obtain ⟨⟨m, h1⟩, h2, ⟨a, b, h3⟩, ⟨c, d, h4⟩⟩ := h
  exact ⟨⟨m, (hb.cell (cell_lt h1)).trans h1⟩, tabBelow_of_tabIs h2 w hb, ⟨a, b, (hb.cell (cell_lt h3)).trans h3⟩, ⟨c, d, (hb.cell (cell_lt h4)).trans h4⟩⟩
theorem Gw.st {w0 w : World} {L : List Res} (h : Gw w0) (hS : St w0 w L) : Gw w := h.below hS.below

def CutIs (c : UInt8) (l : List UInt8) (q : List UInt8 × List UInt8 × Bool) : Prop :=
  (q.2.2 = false ∧ c ∉ l ∧ q.1 = l ∧ q.2.1 = []) ∨ (q.2.2 = true ∧ l = q.1 ++ c :: q.2.1 ∧ c ∉ q.1)
theorem cutE {w : World} (hw : Gw w) (l : List UInt8) (c : UInt8) (h : l.length < 4294967281) :
    Calls Tryd.prog 41 #[str l, str [c]] w fun e w' => ∃ q : List UInt8 × List UInt8 × Bool, CutIs c l q ∧ e = .returned (.tuple #[str q.1, str q.2.1, .bool q.2.2]) ∧ St w w' [] := by
  obtain ⟨m, hm⟩ := hw.ml
  refine (Any.strings_Cut { YtfcpmcdlgkfolaaDoor.Bench.cutL with } ⟨l.toArray⟩ ⟨[c].toArray⟩ m w (by rw [mk_size]; exact h) hm).mono ?_
  rintro e w' ⟨rfl, n, rfl⟩
  refine ⟨cut l [c], ?_, rfl, (St.refl w).drewN n⟩
  rcases cut1 c l with ⟨h1, h2⟩ | ⟨a, b, h0, h1, h2⟩
  · rw [h2]
    exact Or.inl ⟨rfl, h1, rfl, rfl⟩
  · rw [h2]
    exact Or.inr ⟨rfl, h0, h1⟩

theorem wds_len (c : UInt8) : ∀ l : List UInt8, (wds c l).length ≤ l.length + 1
  | [] => by simp [wds]
  | b :: l => by
    have := wds_len c l
    unfold wds
    split
    · simp; omega
    · split
      · simp
      · rename_i w ws h
        rw [h] at this
        simp at this ⊢
        omega
theorem split_len (l : List UInt8) (c : UInt8) : countB ⟨l.toArray⟩ ⟨[c].toArray⟩ + 1 = (wds c l).length ∧ (splitB ⟨[c].toArray⟩ 0 (countB ⟨l.toArray⟩ ⟨[c].toArray⟩) ⟨l.toArray⟩).map Value.string = (wds c l).map str := by
  have h1 : (splitB ⟨[c].toArray⟩ 0 (countB ⟨l.toArray⟩ ⟨[c].toArray⟩) ⟨l.toArray⟩).map (·.data.toList) = wds c l := by
    rw [splitB_data]
    exact split1 c l
  have h2 : (splitB ⟨[c].toArray⟩ 0 (countB ⟨l.toArray⟩ ⟨[c].toArray⟩) ⟨l.toArray⟩).map Value.string = (wds c l).map str := by
    rw [← h1, List.map_map]
    rfl
  refine ⟨?_, h2⟩
  have hn : ∀ (k : Nat) (s : List UInt8), count s [c] = k → (wds c s).length = k + 1 := by
    intro k
    induction k with
    | zero =>
      intro s hs
      rcases occ1 c s with ⟨g1, g2⟩ | ⟨a, b, rfl, g1, g2⟩
      · rw [wds_none g1]; rfl
      · rw [count_hit (by simp) g2] at hs; omega
    | succ k ih =>
      intro s hs
      rcases occ1 c s with ⟨g1, g2⟩ | ⟨a, b, rfl, g1, g2⟩
      · rw [count_miss g2] at hs; omega
      · rw [count_hit (by simp) g2] at hs
        have hd : (a ++ c :: b).drop (a.length + [c].length) = b := by simp
        rw [hd] at hs
        rw [wds_cons b g1, List.length_cons, ih b (by omega)]
  exact (hn _ l rfl).symm

theorem splitE {w : World} (hw : Gw w) (l : List UInt8) (c : UInt8) (h : l.length < 4294967281) :
    Calls Tryd.prog 67 #[str l, str [c]] w fun e w' => ∃ q : Vs, (q.n = (wds c l).length ∧ q.xs = (wds c l).map str) ∧ e = .returned (.slice q.A q.n q.c) ∧ St w w' [vec 9 1 (.slice q.A q.n q.c) q.n q.xs] := by
  obtain ⟨m, hm⟩ := hw.ml
  obtain ⟨h1, h2⟩ := split_len l c
  refine (Any.strings_Split { YtfcpmcdlgkfolaaDoor.Bench.splitL with } YtfcpmcdlgkfolaaDoor.Bench.splitL.i9 ⟨l.toArray⟩ ⟨[c].toArray⟩ m w (by rw [mk_size]; exact h) hm (by rw [mk_size]; exact Nat.le_refl _)).mono ?_
  rintro e w' ⟨rfl, rfl⟩
  rw [h1, h2]
  refine ⟨⟨some ⟨w.heap.size, 0, none⟩, (wds c l).length, (wds c l).length, (wds c l).map str⟩, ⟨rfl, rfl⟩, rfl, (St.refl w).add (alloc_new w _) ⟨by simp, .inr ⟨w.heap.size, 0, (wds c l).length, ((wds c l).map str).toArray, rfl, heap_alloc_new w _, Nat.le_refl _, ?_, by simp, by dsimp only; rw [Nat.mul_one]; exact List.take_of_length_le (by simp)⟩⟩ (fun b hb => ?_)⟩
  · have := wds_len c l
    unfold maxLen
    omega
  · simp only [vec, Value.ownBlock, Option.toList_some, List.mem_singleton] at hb
    subst hb
    exact ⟨Nat.le_refl _, by simp⟩

/-- A number read: there is one, and no error; or there is an error. -/
def AtoiIs (l : List UInt8) (q : Int × Bool × Value) : Prop := (q.2.1 = true ∧ q.2.2 = .nilIface ∧ atoiAll l = .ok q.1) ∨ (q.2.1 = false ∧ (∃ t p, q.2.2 = .iface t p) ∧ ∀ v, atoiAll l ≠ .ok v)
theorem AtoiIs.err {l : List UInt8} {q : Int × Bool × Value} (h : AtoiIs l q) : (q.2.1 = true ∧ q.2.2 = .nilIface) ∨ (q.2.1 = false ∧ ∃ a b, q.2.2 = .iface a b) := h.elim (fun h => .inl ⟨h.1, h.2.1⟩) (fun h => .inr ⟨h.1, h.2.1⟩)
theorem AtoiIs.ok {l : List UInt8} {q : Int × Bool × Value} (h : AtoiIs l q) (hp : q.2.1 = true) : atoiAll l = .ok q.1 := by
  rcases h with h | h
  · exact h.2.2
  · rw [hp] at h
    cases h.1
theorem AtoiIs.num {l : List UInt8} {q : Int × Bool × Value} (h : AtoiIs l q) (hp : q.2.1 = true) (h0 : 0 ≤ q.1) (h1 : q.1 ≤ 1099511627776) : decide (itoa q.1 = l) = okNum l ∧ (decide (itoa q.1 = l) = true → q.1 = (val l : Int)) := by
  have ha := h.ok hp
  constructor
  · by_cases hi : itoa q.1 = l
    · rw [decide_eq_true hi, (atoi_num l).1 ⟨q.1, ha, ⟨h0, h1⟩, hi⟩]
    · rw [decide_eq_false hi]
      refine (Bool.eq_false_iff.2 fun hk => ?_).symm
      obtain ⟨v, g1, _, g3⟩ := (atoi_num l).2 hk
      rw [ha] at g1
      cases g1
      exact hi g3
  · intro hi
    have hi := of_decide_eq_true hi
    obtain ⟨n, hn⟩ := Int.eq_ofNat_of_zero_le h0
    have := (dec_val n).1
    rw [hn, itoa_nonneg] at hi
    rw [hn, ← hi, this]
theorem AtoiIs.no {l : List UInt8} {q : Int × Bool × Value} (h : AtoiIs l q) (hp : q.2.1 = false ∨ ¬ 0 ≤ q.1 ∨ ¬ q.1 ≤ 1099511627776) : okNum l = false := by
  refine Bool.eq_false_iff.2 fun hk => ?_
  obtain ⟨v, g1, g2, g3⟩ := (atoi_num l).2 hk
  rcases h with ⟨h1, _, h3⟩ | ⟨_, _, h3⟩
  · rw [h3] at g1
    cases g1
    rcases hp with hp | hp | hp
    · rw [h1] at hp
      cases hp
    · exact hp g2.1
    · exact hp g2.2
  · exact h3 v g1
theorem atoiE {w : World} (hw : Gw w) (l : List UInt8) (h : l.length < 4294967281) :
    Calls Tryd.prog 95 #[str l] w fun e w' => ∃ q : Int × Bool × Value, AtoiIs l q ∧ e = .returned (.tuple #[.int .i64 q.1, q.2.2]) ∧ St w w' [] := by
  cases ha : atoiAll l
  case ok v =>
    refine (Any.strconv_Atoi_ok { YtfcpmcdlgkfolaaDoor.Bench.atoiL with } ⟨l.toArray⟩ (by rw [mk_size]; omega) v ha w).mono ?_
    rintro e w' ⟨rfl, h1⟩
    refine ⟨(v, true, .nilIface), Or.inl ⟨rfl, rfl, ha⟩, rfl, ?_⟩
    rcases h1 with rfl | ⟨t, rfl⟩
    · exact St.refl _
    · exact St.of_below (bytesWorld_below _ _ _)
  · obtain ⟨tp, p, hc⟩ := hw.es
    refine (Any.strconv_Atoi_syntax { YtfcpmcdlgkfolaaDoor.Bench.atoiL with } ⟨l.toArray⟩ (by rw [mk_size]; omega) ha _ w hc (Or.inr ⟨tp, p, rfl⟩)).mono ?_
    rintro e w' ⟨M, rfl, _, _, hb⟩
    exact ⟨(0, false, _), Or.inr ⟨rfl, ⟨_, _, rfl⟩, fun v e => by rw [ha] at e; cases e⟩, rfl, St.of_below hb⟩
  · obtain ⟨tp, p, hc⟩ := hw.er
    refine (Any.strconv_Atoi_range { YtfcpmcdlgkfolaaDoor.Bench.atoiL with } ⟨l.toArray⟩ (by rw [mk_size]; omega) ha _ w hc (Or.inr ⟨tp, p, rfl⟩)).mono ?_
    rintro e w' ⟨M, rfl, _, _, hb⟩
    exact ⟨(_, false, _), Or.inr ⟨rfl, ⟨_, _, rfl⟩, fun v e => by rw [ha] at e; cases e⟩, rfl, St.of_below hb⟩

theorem itoaE {w : World} (hw : Gw w) (n : Int) (h0 : -9223372036854775808 ≤ n) (h1 : n ≤ 9223372036854775807) :
    Calls Tryd.prog 20 #[(.int .i64 n)] w fun e w' => e = .returned (str (itoa n)) ∧ St w w' [] := by
  refine (Any.strconv_Itoa { YtfcpmcdlgkfolaaDoor.Bench.itoaL with } n h0 h1 w (tab_of (by kernel_rfl) hw.tab)).mono ?_
  rintro e w' ⟨rfl, k, os, rfl⟩
  exact ⟨rfl, St.of_below (below_grow _ _ (Nat.le_refl _) k os)⟩
theorem fmtE {w : World} (hw : Gw w) (n : Int) (h0 : -9223372036854775808 ≤ n) (h1 : n ≤ 9223372036854775807) :
    Calls Tryd.prog 38 #[(.int .i64 n), (.int .i64 10)] w fun e w' => e = .returned (str (itoa n)) ∧ St w w' [] := by
  refine (Any.strconv_FormatInt_10 { YtfcpmcdlgkfolaaDoor.Bench.fmtL with } n h0 h1 w (tab_of (by kernel_rfl) hw.tab)).mono ?_
  rintro e w' ⟨rfl, k, os, rfl⟩
  exact ⟨rfl, St.of_below (below_grow _ _ (Nat.le_refl _) k os)⟩
theorem prefixE {w : World} (s p : List UInt8) : Calls Tryd.prog 19 #[str s, str p] w fun e w' => e = .returned (.bool (hasPrefix s p)) ∧ St w w' [] := by
  refine (Any.strings_HasPrefix { YtfcpmcdlgkfolaaDoor.Bench.preL with } ⟨s.toArray⟩ ⟨p.toArray⟩ w).mono ?_
  rintro e w' ⟨rfl, rfl⟩
  exact ⟨rfl, St.refl _⟩

/-! ### A text that grows -/

theorem wsX : Builder.Extra Tryd.prog YtfcpmcdlgkfolaaDoor.Bench.wsL_ren := {
  sizeBuilder := by kernel_rfl,
  liesBuilder := by kernel_rfl,
  t5 := Tryd.underlying5,
  a5 := Tryd.isAgg5,
  z5 := Tryd.sizeOf5,
  v5 := Tryd.zeroValue5,
  infoByte := by kernel_rfl,
  cellsByte := by kernel_rfl,
  sizeByte := by kernel_rfl,
  neB5 := by decide }
theorem strX : Builder.Extra Tryd.prog YtfcpmcdlgkfolaaDoor.Bench.strL_ren := {
  sizeBuilder := by kernel_rfl,
  liesBuilder := by kernel_rfl,
  t5 := Tryd.underlying5,
  a5 := Tryd.isAgg5,
  z5 := Tryd.sizeOf5,
  v5 := Tryd.zeroValue5,
  infoByte := by kernel_rfl,
  cellsByte := by kernel_rfl,
  sizeByte := by kernel_rfl,
  neB5 := by decide }

/-- A builder of strings, and the bytes in it. -/
def bld (b : Nat) (g : Option Nat) (l : List UInt8) : Res where
  foot := b :: g.toList
  holds w := ∃ p v, (p = .pointer none ∨ p = .pointer (some ⟨b, 0, none⟩)) ∧ w.heap[b]? = some (.cells #[p, v] (YtfcpmcdlgkfolaaDoor.Bench.wsL_ren.t 72) (0, 0)) ∧ w.ownsRowF 0 (YtfcpmcdlgkfolaaDoor.Bench.wsL_ren.t 5) 1 v l.length (byteCells l) ∧ v.ownBlock = g ∧ g ≠ some b
  stable w w' hf := by
    rintro ⟨p, v, h1, h2, ⟨h3, h4⟩, h5, h6⟩
    refine ⟨p, v, h1, (hf b (List.mem_cons_self ..)).trans h2, ⟨h3, ?_⟩, h5, h6⟩
    rcases h4 with h4 | ⟨g', cap, cur, fz, rfl, r1, r2, r3⟩
    · exact .inl h4
    · exact .inr ⟨g', cap, cur, fz, rfl, r1, (hf g' (by rw [← h5]; simp [Value.ownBlock])).trans r2, r3⟩

theorem bld_is {w0 w : World} {b : Nat} {g : Option Nat} {l : List UInt8} {L : List Res} (hS : St w0 w (bld b g l :: L)) : IsBuilderF (YtfcpmcdlgkfolaaDoor.Bench.wsL_ren.t 72) (YtfcpmcdlgkfolaaDoor.Bench.wsL_ren.t 5) w0.heap.size b (byteCells l) w := by
  obtain ⟨p, v, h1, h2, ⟨h3, h4⟩, h5, h6⟩ := hS.holds 0 _ rfl
  have hb := (hS.lt 0 _ rfl b (List.mem_cons_self ..)).1
  have hA : BuilderAtF (YtfcpmcdlgkfolaaDoor.Bench.wsL_ren.t 72) (YtfcpmcdlgkfolaaDoor.Bench.wsL_ren.t 5) w0.heap.size b p (byteCells l) w := by
    refine ⟨hb, v, h2, ?_, by rw [h5]; exact h6⟩
    rw [byteCells_length]
    refine ⟨h3, ?_⟩
    rcases h4 with h4 | ⟨g', cap, cur, fz, rfl, r1, r2, r3⟩
    · exact .inl h4
    · refine .inr ⟨g', cap, cur, fz, rfl, ?_, r2, r3⟩
      exact (hS.lt 0 _ rfl g' (by simp [bld, ← h5, Value.ownBlock])).1
  rcases h1 with rfl | rfl
  · exact .inl hA
  · exact .inr hA
theorem bld_of {w0 w w' : World} {b : Nat} {p : Value} {l : List UInt8} {L : List Res} (hS : St w0 w L) (hp : p = .pointer none ∨ p = .pointer (some ⟨b, 0, none⟩)) (h : BuilderAtF (YtfcpmcdlgkfolaaDoor.Bench.wsL_ren.t 72) (YtfcpmcdlgkfolaaDoor.Bench.wsL_ren.t 5) w0.heap.size b p (byteCells l) w') (hb : Below w0.heap.size w w') : ∃ g, St w0 w' [bld b g l] := by
  obtain ⟨h1, v, h2, h3, h4⟩ := h
  rw [byteCells_length] at h3
  have hlt : ∀ k (o : Obj), w'.heap[k]? = some o → k < w'.heap.size := fun k o hk => (Array.getElem?_eq_some_iff.1 hk).1
  refine ⟨v.ownBlock, hS.below.trans hb, fun i r hi => ?_, fun i r hi k hk => ?_, fun i j r s hi hj hne => ?_⟩
  · match i with
    | 0 =>
      simp only [lget, Option.some.injEq] at hi
      subst hi
      refine ⟨p, v, hp, h2, ⟨h3.1, ?_⟩, rfl, h4⟩
      rcases h3.2 with h5 | ⟨g', cap, cur, fz, h6, r1, r2⟩
      · exact .inl h5
      · exact .inr ⟨g', cap, cur, fz, h6, Nat.zero_le _, r2⟩
    | i + 1 => simp [lget] at hi
  · match i with
    | 0 =>
      simp only [lget, Option.some.injEq] at hi
      subst hi
      simp only [bld, List.mem_cons, Option.mem_toList, Option.mem_def] at hk
      rcases hk with rfl | hk
      · exact ⟨h1, hlt _ _ h2⟩
      · rcases h3.2 with ⟨rfl, _⟩ | ⟨g', cap, cur, fz, rfl, r1, r2, _⟩
        · simp [Value.ownBlock] at hk
        · simp only [Value.ownBlock, Option.map_some, Option.some.injEq] at hk
          subst hk
          exact ⟨r1, hlt _ _ r2⟩
    | i + 1 => simp [lget] at hi
  · match i, j with
    | 0, 0 => exact absurd rfl hne
    | i + 1, _ => simp [lget] at hi
    | 0, j + 1 => simp [lget] at hj

theorem wsE {w0 w : World} {b : Nat} {g : Option Nat} {l : List UInt8} {L : List Res} (hS : St w0 w (bld b g l :: L)) (s : List UInt8) (h : l.length + s.length ≤ 1099511627776) :
    Calls Tryd.prog 35 #[.pointer (some ⟨b, 0, none⟩), str s] w fun e w' => ∃ q : Option Nat, True ∧ e = .returned (.tuple #[(.int .i64 ((s.length : Int))), .nilIface]) ∧ St w0 w' [bld b q (l ++ s)] := by
  refine (Any.Builder_WriteString_k { YtfcpmcdlgkfolaaDoor.Bench.wsL with } wsX w0.heap.size b (byteCells l) ⟨s.toArray⟩ w (bld_is hS) (by rw [byteCells_length, mk_size]; omega) hS.size).mono ?_
  rintro e w' ⟨rfl, hA, hb, _⟩
  have e1 : byteCells l ++ strCells ⟨s.toArray⟩ = byteCells (l ++ s) := by simp [byteCells, strCells]
  rw [e1] at hA
  obtain ⟨q, hq⟩ := bld_of hS (.inr rfl) hA hb
  exact ⟨q, trivial, by rw [mk_size], hq⟩
theorem strE {w0 w : World} {b : Nat} {g : Option Nat} {l : List UInt8} {L : List Res} (hS : St w0 w (bld b g l :: L)) :
    Calls Tryd.prog 37 #[.pointer (some ⟨b, 0, none⟩)] w fun e w' => ∃ _q : Unit, True ∧ e = .returned (str l) ∧ St w0 w' [] := by
  refine (Any.Builder_String_any_k { YtfcpmcdlgkfolaaDoor.Bench.strL with } strX w0.heap.size b l w (bld_is hS) hS.size).mono ?_
  rintro e w' ⟨rfl, _, hb, _⟩
  exact ⟨(), trivial, rfl, hS.below.trans hb, fun i r hi => by simp [lget] at hi, fun i r hi => by simp [lget] at hi, fun i j r s hi => by simp [lget] at hi⟩

/-- A new builder. -/
theorem bld_new {w0 w : World} {b : Nat} {L : List Res} (hS : St w0 w (blk b [.pointer none, .slice none 0 0] :: L)) : True := trivial
end Go.Proofs.YtfcpmcdlgkfolaaDoor.Bn
