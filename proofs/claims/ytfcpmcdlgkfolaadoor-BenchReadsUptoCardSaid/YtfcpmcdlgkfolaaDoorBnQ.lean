/- Lines read, plain. -/
import Derived.Test.YtfcpmcdlgkfolaaDoorBnK
import Derived.Test.YtfcpmcdlgkfolaaDoorEA
namespace Go.Proofs.YtfcpmcdlgkfolaaDoor.Bn
open Go.RowKit Go.Lib Go.Proofs.YtfcpmcdlgkfolaaDoor.E

theorem okNum_num {l : List UInt8} : num l = if okNum l = true then some (val l) else none := rfl
theorem cut_len {c : UInt8} {l : List UInt8} {q : List UInt8 × List UInt8 × Bool} (h : CutIs c l q) {m : Nat} (hl : l.length < m) : q.2.1.length < m := by
  rcases h with ⟨_, _, _, h4⟩ | ⟨_, h2, _⟩
  · rw [h4]
    simp; omega
  · rw [h2] at hl
    simp at hl
    omega
theorem cut_len1 {c : UInt8} {l : List UInt8} {q : List UInt8 × List UInt8 × Bool} (h : CutIs c l q) {m : Nat} (hl : l.length < m) : q.1.length < m := by
  rcases h with ⟨_, _, h3, _⟩ | ⟨_, h2, _⟩
  · rw [h3]
    exact hl
  · rw [h2] at hl
    simp at hl
    omega
theorem nums_none : ∀ {ws : List (List UInt8)} {j : Nat}, j < ws.length → okNum (ws.getD j []) = false → nums ws = none
  | [], j, h, _ => by simp at h
  | w :: ws, 0, _, h => by
    have : okNum w = false := by simpa using h
    simp [nums, num, this]
  | w :: ws, j + 1, hj, h => by
    have hn := nums_none (ws := ws) (j := j) (by simpa using hj) (by simpa using h)
    rw [nums, hn]
    cases num w <;> rfl
theorem nums_len : ∀ {ws : List (List UInt8)} {l : List Nat}, nums ws = some l → l.length = ws.length
  | [], l, h => by
    simp only [nums, Option.some.injEq] at h
    subst h
    rfl
  | w :: ws, l, h => by
    unfold nums at h
    split at h
    · rename_i n m h1 h2
      simp only [Option.some.injEq] at h
      subst h
      simp [nums_len h2]
    · cases h

theorem read_len {l : List UInt8} (h : (wds 32 l).length ≠ 4) (s : Sc) : read 0 s l = none := by
  unfold read
  cases hw : wds 32 l with
  | nil => rfl
  | cons w ws =>
    rw [hw] at h
    simp only
    cases hn : nums ws with
    | none => rfl
    | some ns =>
      have := nums_len hn
      simp only [if_true]
      split
      · match ns, this with
        | [a, b, c], e => simp at e h; omega
        | [], _ => rfl
        | [_], _ => rfl
        | [_, _], _ => rfl
        | _ :: _ :: _ :: _ :: _, _ => rfl
      · rfl
theorem read_rate {l : List UInt8} (h : (wds 32 l).getD 0 [] ≠ sRate) (s : Sc) : read 0 s l = none := by
  unfold read
  cases hw : wds 32 l with
  | nil => rfl
  | cons w ws =>
    rw [hw] at h
    have h : w ≠ sRate := by simpa using h
    simp only
    cases hn : nums ws with
    | none => rfl
    | some ns => simp [h]
theorem read_num {l : List UInt8} (hl : (wds 32 l).length = 4) {j : Nat} (hj : j < 3) (h : okNum ((wds 32 l).getD (j + 1) []) = false) (s : Sc) : read 0 s l = none := by
  unfold read
  cases hw : wds 32 l with
  | nil => rfl
  | cons w ws =>
    rw [hw] at h hl
    simp only
    rw [nums_none (ws := ws) (j := j) (by simp at hl; omega) (by simpa using h)]
theorem read_ok {l : List UInt8} (hl : (wds 32 l).length = 4) (h0 : (wds 32 l).getD 0 [] = sRate) (h : ∀ j, j < 3 → okNum ((wds 32 l).getD (j + 1) []) = true) (s : Sc) : read 0 s l = some ⟨val ((wds 32 l).getD 1 []), val ((wds 32 l).getD 2 []), val ((wds 32 l).getD 3 []), s.ops⟩ := by
  match hw : wds 32 l, hl with
  | [w0, w1, w2, w3], _ =>
    rw [hw] at h h0
    have e1 : okNum w1 = true := by simpa using h 0 (by omega)
    have e2 : okNum w2 = true := by simpa using h 1 (by omega)
    have e3 : okNum w3 = true := by simpa using h 2 (by omega)
    have e0 : w0 = sRate := by simpa using h0
    simp [read, hw, nums, num, e0, e1, e2, e3]

theorem okNum_no32 {l : List UInt8} (h : okNum l = true) : (32 : UInt8) ∉ l := fun e => by
  have := List.all_eq_true.1 ((okNum_iff l).1 h).2.2.2.1 32 e
  cases this
theorem line_ok {k : Nat} (hk : k ≠ 0) {l : List UInt8} {q : List UInt8 × List UInt8 × Bool} (hc : CutIs 32 l q) (h : okNum q.2.1 = true) (s : Sc) : read k s l = if kindOf q.1 = 0 then none else some { s with ops := s.ops ++ [(kindOf q.1, val q.2.1)] } := by
  rcases hc with ⟨_, _, _, h4⟩ | ⟨_, h2, h3⟩
  · rw [h4] at h
    cases h
  · have hw : wds 32 l = [q.1, q.2.1] := by rw [h2, wds_cons _ h3, wds_none (okNum_no32 h)]
    simp only [read, hw, nums, num, h, if_true, if_neg hk]
theorem line_no {k : Nat} (hk : k ≠ 0) {l : List UInt8} {q : List UInt8 × List UInt8 × Bool} (hc : CutIs 32 l q) (h : okNum q.2.1 = false) (s : Sc) : read k s l = none := by
  rcases hc with ⟨_, h2, h3, h4⟩ | ⟨_, h2, h3⟩
  · have hw : wds 32 l = [l] := wds_none h2
    simp [read, hw, nums, hk]
  · have hw : wds 32 l = q.1 :: wds 32 q.2.1 := by rw [h2, wds_cons _ h3]
    simp only [read, hw]
    cases hn : nums (wds 32 q.2.1) with
    | none => rfl
    | some ns =>
      simp only [if_neg hk]
      split
      · rfl
      · have hlen := nums_len hn
        match ns, hlen with
        | [], _ => rfl
        | _ :: _ :: _, _ => rfl
        | [n], e =>
          exfalso
          rcases cut1 32 q.2.1 with ⟨g1, _⟩ | ⟨a, b, g0, g1, _⟩
          · rw [wds_none g1] at hn
            simp [nums, num, h] at hn
          · rw [g0, wds_cons b g1] at e
            have := wds_ne 32 b
            cases hb : wds 32 b with
            | nil => exact this hb
            | cons x y => rw [hb] at e; simp at e

theorem wds_mem {c : UInt8} : ∀ {l w : List UInt8}, w ∈ wds c l → w.length ≤ l.length
  | [], w, h => by
    simp only [wds, List.mem_singleton] at h
    subst h
    exact Nat.le_refl _
  | b :: l, w, h => by
    unfold wds at h
    split at h
    · rcases List.mem_cons.1 h with rfl | h
      · simp
      · have := wds_mem h
        simp; omega
    · split at h
      · simp only [List.mem_singleton] at h
        subst h
        simp
      · rename_i x ws hx
        rcases List.mem_cons.1 h with rfl | h
        · have := wds_mem (c := c) (l := l) (w := x) (by rw [hx]; exact List.mem_cons_self ..)
          simp; omega
        · have := wds_mem (c := c) (l := l) (w := w) (by rw [hx]; exact List.mem_cons_of_mem _ h)
          simp; omega
theorem wds_at {c : UInt8} {l : List UInt8} (k : Nat) : ((wds c l).getD k []).length ≤ l.length := by
  rw [List.getD_eq_getElem?_getD]
  cases h : (wds c l)[k]? with
  | none => simp
  | some w => exact wds_mem (List.mem_of_getElem? h)
theorem getS {ws : List (List UInt8)} {k : Nat} (h : k < ws.length) : (ws.map str)[k]? = some (str (ws.getD k [])) := by
  simp [List.getD_eq_getElem?_getD, h]

def c2 : Nat × Nat → List Value := fun o => [(.int .i64 ((o.1 : Int))), (.int .i64 ((o.2 : Int)))]
/-- The things that happen, held. -/
def OpsIs (z : Vs) (ops : List (Nat × Nat)) : Prop := z.n = ops.length ∧ z.xs = ops.flatMap c2
/-- The cells of a script of which i numbers are read. -/
def hcs (l : List UInt8) (s : Sc) (i : Nat) : Sc := ⟨if 0 < i then val ((wds 32 l).getD 1 []) else s.num, if 1 < i then val ((wds 32 l).getD 2 []) else s.den, if 2 < i then val ((wds 32 l).getD 3 []) else s.burst, s.ops⟩
def cSc (s : Sc) (v : Value) : List Value := [(.int .i64 ((s.num : Int))), (.int .i64 ((s.den : Int))), (.int .i64 ((s.burst : Int))), v]
theorem cSc_set {l : List UInt8} {s : Sc} {v : Value} {i : Nat} (h : i < 3) : (cSc (hcs l s i) v).set i (.int .i64 ((val ((wds 32 l).getD (i + 1) []) : Int))) = cSc (hcs l s (i + 1)) v := by
  rcases (show i = 0 ∨ i = 1 ∨ i = 2 by omega) with rfl | rfl | rfl <;> rfl
theorem hcs_ok {l : List UInt8} (hl : (wds 32 l).length = 4) (h0 : (wds 32 l).getD 0 [] = sRate) (h : ∀ j, j < 3 → okNum ((wds 32 l).getD (j + 1) []) = true) (s : Sc) : read 0 s l = some (hcs l s 3) := read_ok hl h0 h s
theorem ptr3 {b i : Nat} (h : i < 3) : ([.pointer (some ⟨b, 0, none⟩), .pointer (some ⟨b, 1, none⟩), .pointer (some ⟨b, 2, none⟩)] : List Value)[i]? = some (.pointer (some ⟨b, i, none⟩)) := by
  rcases (show i = 0 ∨ i = 1 ∨ i = 2 by omega) with rfl | rfl | rfl <;> rfl
theorem prs_miss {k : Nat} {s : Sc} {u : List UInt8} {q : List UInt8 × List UInt8 × Bool} (h : CutIs 10 u q) (hq : q.2.2 = false) (hk : k = 0 ∨ ¬ u = []) : prs k s u = (k, none) := by
  rcases h with ⟨_, h2, _⟩ | ⟨h1, _⟩
  · rw [prs_none h2, fin, if_neg (by rintro ⟨h3, h4⟩; rcases hk with h | h; exact h4 h; exact h h3)]
  · rw [hq] at h1
    cases h1
theorem prs_bad {k : Nat} {s r : Sc} {p : Bool} {u : List UInt8} {q : List UInt8 × List UInt8 × Bool} (h : CutIs 10 u q) (hq : q.2.2 = true) (hr : read k s q.1 = if p = true then some r else none) (hp : p = false) : prs k s u = (k, none) := by
  rcases h with ⟨h1, _⟩ | ⟨_, h2, h3⟩
  · rw [hq] at h1
    cases h1
  · rw [h2, prs_cons h3, hr, hp]
    rfl
theorem prs_end {k : Nat} {s : Sc} {u : List UInt8} (hk : ¬ k = 0) (hu : u = []) : prs k s u = (0, some s) := by
  rw [hu, prs_none (by simp), fin, if_pos ⟨rfl, hk⟩]
theorem read_more {k : Nat} {s r : Sc} {l : List UInt8} (h : read k s l = some r) : r.ops.length ≤ s.ops.length + 1 := by
  unfold read at h
  split at h
  · cases h
  · split at h
    · cases h
    · split at h
      · split at h
        · split at h
          · simp only [Option.some.injEq] at h
            subst h
            exact Nat.le_succ _
          · cases h
        · cases h
      · split at h
        · cases h
        · split at h
          · simp only [Option.some.injEq] at h
            subst h
            simp
          · cases h
theorem prs_next {k : Nat} {s : Sc} {t u : List UInt8} {q : List UInt8 × List UInt8 × Bool} {r : Bool × Sc × Vs} (h : CutIs 10 u q) (hq : q.2.2 = true) (hr : OpsIs r.2.2 r.2.1.ops ∧ read k s q.1 = if r.1 = true then some r.2.1 else none) (hp : r.1 = true) (hpr : prs k s u = parse t) (hsk : s.ops.length ≤ k) (hku : k + u.length ≤ t.length) :
    (OpsIs r.2.2 r.2.1.ops ∧ r.2.1.ops.length ≤ k + 1 ∧ k + 1 + q.2.1.length ≤ t.length ∧ prs (k + 1) r.2.1 q.2.1 = parse t) ∧ q.2.1.length < u.length := by
  rcases h with ⟨h1, _⟩ | ⟨_, h2, h3⟩
  · rw [hq] at h1
    cases h1
  · have hr2 := hr.2
    rw [hp, if_pos rfl] at hr2
    have hm := read_more hr2
    have hlen := congrArg List.length h2
    simp only [List.length_append, List.length_cons] at hlen
    refine ⟨⟨hr.1, by omega, by omega, ?_⟩, by omega⟩
    rw [h2, prs_cons h3, hr2] at hpr
    exact hpr
theorem val_lt : ∀ {l : List UInt8}, l.all dig = true → val l < 10 ^ l.length := by
  intro l
  generalize hn : l.length = n
  induction n generalizing l with
  | zero =>
    intro _
    rw [List.length_eq_zero_iff.1 hn]
    decide
  | succ n ih =>
    intro hd
    have h0 : l ≠ [] := fun e => by rw [e] at hn; cases hn
    obtain ⟨p, b, rfl⟩ : ∃ p b, l = p ++ [b] := ⟨l.dropLast, l.getLast h0, (List.dropLast_concat_getLast h0).symm⟩
    simp only [List.all_append, List.all_cons, List.all_nil, Bool.and_true, Bool.and_eq_true] at hd
    obtain ⟨m, hm, _, hbn⟩ := of_dig hd.2
    have := ih (l := p) (by simpa using hn) hd.1
    rw [val_snoc, Nat.pow_succ]
    omega
theorem val_small {l : List UInt8} (hd : l.all dig = true) (h : l.length ≤ 13) : val l < 10000000000000 := by
  have h1 := val_lt hd
  have h2 : 10 ^ l.length ≤ 10 ^ 13 := Nat.pow_le_pow_right (by omega) h
  omega
theorem take_snoc {l : List UInt8} {i : Nat} (h : i < l.length) : l.take (i + 1) = l.take i ++ [l[i]] := List.take_succ_eq_append_getElem h
theorem all_next {l : List UInt8} {i : Nat} (h : i < l.length) (ha : (l.take i).all dig = true) (h0 : 48 ≤ l[i].toNat) (h1 : l[i].toNat ≤ 57) : (l.take (i + 1)).all dig = true := by
  rw [take_snoc h, List.all_append, ha]
  simp [dig, h0, h1]
theorem num_bad {l : List UInt8} {i : Nat} (h : i < l.length) (hb : l[i].toNat < 48 ∨ 57 < l[i].toNat) : false = okNum l := by
  refine (Bool.eq_false_iff.2 fun hk => ?_).symm
  have := List.all_eq_true.1 ((okNum_iff l).1 hk).2.2.2.1 l[i] (List.getElem_mem h)
  simp only [dig, Bool.and_eq_true, decide_eq_true_eq] at this
  omega
theorem num_head {l : List UInt8} (h : l = [] ∨ 13 < l.length ∨ (∃ h : 0 < l.length, l[0].toNat = 48 ∧ 1 < l.length)) : false = okNum l := by
  refine (Bool.eq_false_iff.2 fun hk => ?_).symm
  obtain ⟨g0, g1, g2, _⟩ := (okNum_iff l).1 hk
  rcases h with h | h | ⟨h, h1, h2⟩
  · exact g0 h
  · omega
  · have : l.head? = some 48 := by
      rw [List.head?_eq_getElem?, List.getElem?_eq_getElem h, Option.some.injEq]
      exact UInt8.toNat_inj.1 h1
    have := g2 this
    omega
theorem num_end {l : List UInt8} (h0 : ¬ l = []) (h1 : l.length ≤ 13) (h2 : ∀ h : 0 < l.length, l[0].toNat = 48 → l.length ≤ 1) (h3 : l.all dig = true) : decide ((val l : Int) ≤ 1099511627776) = okNum l := by
  have hp := List.length_pos_iff.2 h0
  have hh : l.head? = some 48 → l.length = 1 := fun e => by
    rw [List.head?_eq_getElem?, List.getElem?_eq_getElem hp, Option.some.injEq] at e
    have := h2 hp (by rw [e]; rfl)
    omega
  by_cases hv : val l ≤ 1099511627776
  · rw [(okNum_iff l).2 ⟨h0, h1, hh, h3, hv⟩]
    exact decide_eq_true (by omega)
  · have : okNum l = false := Bool.eq_false_iff.2 fun hk => hv ((okNum_iff l).1 hk).2.2.2.2
    rw [this]
    exact decide_eq_false (by omega)
theorem wds_next {c : UInt8} {l : List UInt8} {i : Nat} (h : i < l.length) : wds c (l.take (i + 1)) = wadd c l[i] (wds c (l.take i)) := by rw [take_snoc h, wds_snoc]
theorem wadd_sep {c b : UInt8} {ws : List (List UInt8)} (h : b = c) : wadd c b ws = ws ++ [[]] := if_pos h
theorem wadd_byte {c b : UInt8} {ws : List (List UInt8)} (h : ¬ b = c) : (wadd c b ws).map str = (ws.map str).set (ws.length - 1) (str (ws.getD (ws.length - 1) [] ++ [b])) ∧ (wadd c b ws).length = ws.length := by
  unfold wadd
  rw [if_neg h]
  simp [List.map_set]
def kwds : List (List UInt8) := [sIn, sTick, sPoll]
theorem kw_at {i : Nat} (h : i < 3) {w : List UInt8} (he : kwds.getD i [] = w) : kindOf w = 1 + i := by
  subst he
  rcases (show i = 0 ∨ i = 1 ∨ i = 2 by omega) with rfl | rfl | rfl <;> decide
theorem kw_no {w : List UInt8} (h : ∀ j, j < 3 → ¬ kwds.getD j [] = w) : kindOf w = 0 := by
  have h0 : ¬ w = sIn := fun e => h 0 (by omega) e.symm
  have h1 : ¬ w = sTick := fun e => h 1 (by omega) e.symm
  have h2 : ¬ w = sPoll := fun e => h 2 (by omega) e.symm
  simp [kindOf, h0, h1, h2]
end Go.Proofs.YtfcpmcdlgkfolaaDoor.Bn
