/- The bench's second reader, plain. -/
import Derived.Test.YtfcpmcdlgkfolaaDoorBnF
namespace Go.Proofs.YtfcpmcdlgkfolaaDoor.Bn
open Go.RowKit Go.Lib Go.Proofs.YtfcpmcdlgkfolaaDoor.E

theorem kind_get (w : List UInt8) : (sget ([] ++ [([105, 110], (.int .i64 1))] ++ [([116, 105, 99, 107], (.int .i64 2))] ++ [([112, 111, 108, 108], (.int .i64 3))]) w).getD (.int .i64 0) = (.int .i64 ((kindOf w : Int))) := by
  simp only [List.nil_append, List.cons_append, sget]
  by_cases h1 : w = [105, 110]
  · subst h1; rfl
  · by_cases h2 : w = [116, 105, 99, 107]
    · subst h2; rfl
    · by_cases h3 : w = [112, 111, 108, 108]
      · subst h3; rfl
      · have g1 := Ne.symm h1
        have g2 := Ne.symm h2
        have g3 := Ne.symm h3
        simp only [ne_eq] at g1 g2 g3
        simp only [if_neg g1, if_neg g2, if_neg g3]
        rw [show kindOf w = 0 by simp [kindOf, sIn, sTick, sPoll, h1, h2, h3]]
        rfl
theorem rdl_cutS {w0 : World} {L : List Res} {e n c : Nat} {A : Option Addr} {xs : List Value} {ws : List (List UInt8)} (i : Nat) (hi : lget L i = some (vec e 1 (.slice A n c) n xs)) (hx : xs = ws.map str) (hn : n = ws.length) (h1 : 1 ≤ n) : RdL w0 L (cutA A 1 c 1) (ws.tail.map str) := fun w hS => by
  have hh := OwnV.rd (hS.holds i _ hi)
  have h2 := hh.2.2
  subst hx
  have hc : n ≤ c := by
    rcases (hS.holds i _ hi).2 with ⟨h3, h4⟩ | ⟨g, off, cap, cur, h3, _, h5, _⟩
    · omega
    · cases h3
      exact h5
  rcases h2 with h2 | ⟨b, o, rfl, hcell⟩
  · have : ws = [] := by simpa using h2
    subst this
    simp at hn
    omega
  · by_cases hc1 : c = 1
    · refine .inl ?_
      match ws, hn with
      | [], hn => simp at hn; omega
      | [x], _ => rfl
      | x :: y :: r, hn => simp at hn; omega
    · refine .inr ⟨b, o + 1, by simp [cutA, hc1, Addr.add], fun j u hu => ?_⟩
      have h3 := hcell (j + 1) u (by
        match ws, hn with
        | [], hn => simp at hn; omega
        | x :: r, _ => simpa using hu)
      rw [show o + 1 + j = o + (j + 1) by omega]
      exact h3

/-- The numbers behind the first word: all read, or one that is none. -/
def NsIs (l : List UInt8) (j : Nat) (p : Bool) (ns : List Int) : Prop := (p = true → ∃ ms : List Nat, nums ((wds 32 l).tail.take j) = some ms ∧ ns = ms.map Int.ofNat) ∧ (p = false → nums (wds 32 l).tail = none)
theorem nums_snoc : ∀ {ws : List (List UInt8)} {ms : List Nat} {w : List UInt8} {n : Nat}, nums ws = some ms → num w = some n → nums (ws ++ [w]) = some (ms ++ [n])
  | [], ms, w, n, h, hn => by
    simp only [nums, Option.some.injEq] at h
    subst h
    simp [nums, hn]
  | x :: ws, ms, w, n, h, hn => by
    unfold nums at h
    split at h
    · rename_i a b h1 h2
      simp only [Option.some.injEq] at h
      subst h
      rw [List.cons_append, nums, h1, nums_snoc h2 hn]
      rfl
    · cases h
theorem NsIs.zero (l : List UInt8) : NsIs l 0 true [] := ⟨fun _ => ⟨[], by simp [nums], rfl⟩, fun h => by cases h⟩
theorem tail_at {ws : List (List UInt8)} (k : Nat) : ws.tail.getD k [] = ws.getD (k + 1) [] := by
  cases ws <;> simp
theorem NsIs.next {l : List UInt8} {j : Nat} {p : Bool} {ns : List Int} (h : NsIs l j p ns) (hj : j < (wds 32 l).tail.length) {q : Int × Bool} (hq : q.2 = okNum ((wds 32 l).tail.getD j []) ∧ (q.2 = true → q.1 = (val ((wds 32 l).tail.getD j []) : Int))) {p' : Bool} (hp : p' = (p && q.2)) : NsIs l (j + 1) p' (ns ++ [q.1]) := by
  subst hp
  refine ⟨fun e => ?_, fun e => ?_⟩
  · simp only [Bool.and_eq_true] at e
    obtain ⟨ms, h1, h2⟩ := h.1 e.1
    refine ⟨ms ++ [val ((wds 32 l).tail.getD j [])], ?_, by rw [h2, hq.2 e.2]; simp⟩
    have h3 : (wds 32 l).tail.take (j + 1) = (wds 32 l).tail.take j ++ [(wds 32 l).tail.getD j []] := by
      rw [List.take_succ_eq_append_getElem hj]
      rw [List.getD_eq_getElem?_getD, List.getElem?_eq_getElem hj]
      rfl
    rw [h3]
    exact nums_snoc h1 (by rw [okNum_num, if_pos (hq.1.symm.trans e.2)])
  · simp only [Bool.and_eq_false_iff] at e
    rcases e with e | e
    · exact h.2 e
    · exact nums_none hj (hq.1.symm.trans e)
theorem NsIs.all {l : List UInt8} {p : Bool} {ns : List Int} {j : Nat} (h : NsIs l j p ns) (hj : j = (wds 32 l).tail.length) : (p = true → ∃ ms : List Nat, nums (wds 32 l).tail = some ms ∧ ns = ms.map Int.ofNat) ∧ (p = false → nums (wds 32 l).tail = none) := by
  subst hj
  have := h
  unfold NsIs at this
  rwa [List.take_length] at this

def nAt (ns : List Int) (k : Nat) : Nat := (ns.getD k 0).toNat
theorem getN {ns : List Int} {ms : List Nat} (h : ns = ms.map Int.ofNat) {k : Nat} (hk : k < ns.length) : (ns.map (Value.int .i64))[k]? = some (.int .i64 ((nAt ns k : Int))) := by
  subst h
  simp only [List.length_map] at hk
  simp [nAt, List.getD_eq_getElem?_getD, hk]
theorem words_cons (l : List UInt8) : wds 32 l = (wds 32 l).getD 0 [] :: (wds 32 l).tail := by
  have := wds_ne 32 l
  cases h : wds 32 l with
  | nil => exact absurd h this
  | cons a b => rfl
theorem read_none {k : Nat} {l : List UInt8} {s : Sc} (h : nums (wds 32 l).tail = none) : read k s l = none := by
  have hw := words_cons l
  generalize (wds 32 l).tail = ws at hw h
  unfold read
  rw [hw]
  simp only [h]
theorem read_some {k : Nat} {l : List UInt8} {s : Sc} {ms : List Nat} (h : nums (wds 32 l).tail = some ms) : read k s l = if k = 0 then (if (wds 32 l).getD 0 [] = sRate then (match ms with
        | [a, b, c] => some ⟨a, b, c, s.ops⟩
        | _ => none) else none)
      else if kindOf ((wds 32 l).getD 0 []) = 0 then none else (match ms with
        | [n] => some { s with ops := s.ops ++ [(kindOf ((wds 32 l).getD 0 []), n)] }
        | _ => none) := by
  have hw := words_cons l
  generalize (wds 32 l).tail = ws at hw h
  generalize (wds 32 l).getD 0 [] = w at hw ⊢
  unfold read
  rw [hw]
  simp only [h]
  rcases ms with _ | ⟨a, _ | ⟨b, _ | ⟨c, _ | _⟩⟩⟩ <;> rfl

section
variable {k : Nat} {l : List UInt8} {s : Sc} {ns : List Int} {p : Bool}
theorem rd_no (h : p = false → nums (wds 32 l).tail = none) (hp : p = false) : read k s l = none := read_none (h hp)
theorem rd_0 (h : ∃ ms : List Nat, nums (wds 32 l).tail = some ms ∧ ns = ms.map Int.ofNat) (hk : k = 0) (hb : ¬ (wds 32 l).getD 0 [] = sRate ∨ ¬ ns.length = 3) : read k s l = none := by
  obtain ⟨ms, h1, h2⟩ := h
  rw [read_some h1, if_pos hk]
  rcases hb with hb | hb
  · rw [if_neg hb]
  · rw [h2, List.length_map] at hb
    split
    · match ms, hb with
      | [a, b, c], e => simp at e
      | [], _ => rfl
      | [_], _ => rfl
      | [_, _], _ => rfl
      | _ :: _ :: _ :: _ :: _, _ => rfl
    · rfl
theorem rd_0ok (h : ∃ ms : List Nat, nums (wds 32 l).tail = some ms ∧ ns = ms.map Int.ofNat) (hk : k = 0) (hb : (wds 32 l).getD 0 [] = sRate) (hl : ns.length = 3) : read k s l = some ⟨nAt ns 0, nAt ns 1, nAt ns 2, s.ops⟩ := by
  obtain ⟨ms, h1, h2⟩ := h
  rw [read_some h1, if_pos hk, if_pos hb]
  subst h2
  match ms, hl with
  | [a, b, c], _ => rfl
theorem rd_1 (h : ∃ ms : List Nat, nums (wds 32 l).tail = some ms ∧ ns = ms.map Int.ofNat) (hk : ¬ k = 0) (hb : kindOf ((wds 32 l).getD 0 []) = 0 ∨ ¬ ns.length = 1) : read k s l = none := by
  obtain ⟨ms, h1, h2⟩ := h
  rw [read_some h1, if_neg hk]
  rcases hb with hb | hb
  · rw [if_pos hb]
  · rw [h2, List.length_map] at hb
    split
    · rfl
    · match ms, hb with
      | [a], e => simp at e
      | [], _ => rfl
      | _ :: _ :: _, _ => rfl
theorem rd_1ok (h : ∃ ms : List Nat, nums (wds 32 l).tail = some ms ∧ ns = ms.map Int.ofNat) (hk : ¬ k = 0) (hb : ¬ kindOf ((wds 32 l).getD 0 []) = 0) (hl : ns.length = 1) : read k s l = some { s with ops := s.ops ++ [(kindOf ((wds 32 l).getD 0 []), nAt ns 0)] } := by
  obtain ⟨ms, h1, h2⟩ := h
  rw [read_some h1, if_neg hk, if_neg hb]
  subst h2
  match ms, hl with
  | [a], _ => rfl
end

/-! ### Where the text is -/
structure At (t : List UInt8) (i k f : Nat) (s : Sc) : Prop where
  hi : i ≤ t.length
  hf : f ≤ i
  ho : s.ops.length ≤ k
  hk : k ≤ i
  hp : prs k s (t.drop f) = parse t
  hn : (10 : UInt8) ∉ (t.drop f).take (i - f)
theorem At.zero (t : List UInt8) : At t 0 0 0 sc0 := ⟨Nat.zero_le _, Nat.le_refl _, Nat.le_refl _, Nat.le_refl _, rfl, by simp⟩
theorem At.byte {t : List UInt8} {i k f : Nat} {s : Sc} (h : At t i k f s) (hi : i < t.length) : (t.drop f).take (i + 1 - f) = (t.drop f).take (i - f) ++ [t[i]] := by
  have := h.hf
  rw [show i + 1 - f = i - f + 1 by omega, List.take_succ_eq_append_getElem (by simp; omega)]
  simp [show f + (i - f) = i by omega]
theorem At.skip {t : List UInt8} {i k f : Nat} {s : Sc} (h : At t i k f s) (hi : i < t.length) (hb : ¬ t[i] = 10) : At t (i + 1) k f s := by
  refine ⟨hi, by have := h.hf; omega, h.ho, by have := h.hk; omega, h.hp, ?_⟩
  rw [h.byte hi]
  simp only [List.mem_append, List.mem_singleton, not_or]
  exact ⟨h.hn, fun e => hb e.symm⟩
theorem At.line {t : List UInt8} {i k f : Nat} {s : Sc} (h : At t i k f s) (hi : i < t.length) (hb : t[i] = 10) : t.drop f = (t.drop f).take (i - f) ++ 10 :: t.drop (i + 1) := by
  have hf := h.hf
  have h1 : t.drop f = (t.drop f).take (i + 1 - f) ++ (t.drop f).drop (i + 1 - f) := (List.take_append_drop _ _).symm
  rw [h.byte hi, List.drop_drop, show f + (i + 1 - f) = i + 1 by omega, hb, List.append_assoc] at h1
  exact h1
theorem At.next {t : List UInt8} {i k f : Nat} {s r : Sc} (h : At t i k f s) (hi : i < t.length) (hb : t[i] = 10) (hr : read k s ((t.drop f).take (i - f)) = some r) : At t (i + 1) (k + 1) (i + 1) r := by
  have hp := h.hp
  rw [h.line hi hb, prs_cons h.hn, hr] at hp
  have hm := read_more hr
  exact ⟨hi, Nat.le_refl _, by have := h.ho; omega, by have := h.hk; omega, hp, by simp⟩
theorem At.bad {t : List UInt8} {i k f : Nat} {s : Sc} (h : At t i k f s) (hi : i < t.length) (hb : t[i] = 10) (hr : read k s ((t.drop f).take (i - f)) = none) : parse t = (k, none) := by
  have hp := h.hp
  rw [h.line hi hb, prs_cons h.hn, hr] at hp
  exact hp.symm
theorem At.end_ {t : List UInt8} {i k f : Nat} {s : Sc} (h : At t i k f s) (hi : t.length ≤ i) : parse t = fin k (t.drop f) s := by
  have h1 := h.hn
  have h2 := h.hi
  rw [List.take_of_length_le (by simp; omega)] at h1
  rw [← h.hp, prs_none h1]
theorem At.short {t : List UInt8} {i k f : Nat} {s : Sc} (h : At t i k f s) (hi : t.length ≤ i) (hb : f < t.length ∨ k = 0) : parse t = (k, none) := by
  rw [h.end_ hi, fin, if_neg]
  rintro ⟨h1, h2⟩
  have h3 := congrArg List.length h1
  simp at h3
  omega
theorem At.whole {t : List UInt8} {i k f : Nat} {s : Sc} (h : At t i k f s) (hi : t.length ≤ i) (h1 : ¬ f < t.length) (h2 : ¬ k = 0) : parse t = (0, some s) := by
  rw [h.end_ hi, fin, if_pos ⟨List.drop_of_length_le (by omega), h2⟩]
end Go.Proofs.YtfcpmcdlgkfolaaDoor.Bn
