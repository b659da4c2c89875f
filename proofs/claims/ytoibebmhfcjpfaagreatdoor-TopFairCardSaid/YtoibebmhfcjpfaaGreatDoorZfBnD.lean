/- Walks: a number. -/
import Derived.Test.YtoibebmhfcjpfaaGreatDoorZfBnK
import Derived.Test.YtoibebmhfcjpfaaGreatDoorZfEA
import Derived.Test.YtoibebmhfcjpfaaGreatDoorZfEJ
namespace Go.Proofs.YtoibebmhfcjpfaaGreatDoor.Bn
open Go.RowKit Go.Lib Go.Proofs.YtoibebmhfcjpfaaGreatDoor.E

set_option maxRecDepth 100000 in
theorem numberE {w : World} (hw : Gw w) (l : List UInt8) (hl : l.length < 4294967281) :
    Calls Tryz.prog 36 #[str l] w fun e w' => ∃ q : Int × Bool, (q.2 = okNum l ∧ (q.2 = true → q.1 = (val l : Int))) ∧ e = .returned (.tuple #[(.int .i64 q.1), .bool q.2]) ∧ St w w' [] := by
  refine calls_tr Tryz.func36 Tryz.ntmps36 rfl rfl (St.refl _) ?_
  refine tr_seq ?_
  refine tr_region ?_
  refine tl_step rfl (oj_val (y_assign fe_c) ?_)
  refine tl_step rfl (oj_val (y_assign fe_c) ?_)
  refine tl_nil ?_
  refine tx_then ?_
  refine tr_seq ?_
  refine tr_region ?_
  refine tl_step rfl (oj_val (y_move (fe_t rfl)) ?_)
  refine tl_step rfl (oj_call Tryz.call56 fe_f (fel_cons (fe_t rfl) fel_nil) (fun w' hS => atoiE (hw.st hS) l hl) (fun q0 hq0 => ?_))
  refine tl_step rfl (oj_val (y_move (fe_t rfl)) ?_)
  refine tl_step rfl (oj_val (y_extract (fe_t rfl) rfl) ?_)
  refine tl_step rfl (oj_val (y_extract (fe_t rfl) rfl) ?_)
  refine tl_step rfl (oj_val (y_assign (fe_t rfl)) ?_)
  refine tl_step rfl (oj_val (y_assign (fe_t rfl)) ?_)
  refine tl_nil ?_
  refine tx_then ?_
  refine tr_seq ?_
  refine tr_region ?_
  refine tl_step rfl (oj_val (y_move (fe_t rfl)) ?_)
  refine tl_step rfl (oj_val (y_move (fe_t rfl)) ?_)
  refine tl_step rfl (oj_val (y_eqi Tryz.underlying119 (fe_t rfl) hq0.err) ?_)
  refine tl_step rfl (oj_val (y_move (fe_t rfl)) ?_)
  refine tl_split (d := 14) rfl (fun hq1 => ?_) (fun hq2 => ?_)
  · refine tl_want rfl rfl rfl (oj_val (y_move (fe_t rfl)) ?_)
    refine tl_want rfl rfl rfl (oj_val (y_geq (fe_t rfl) fe_c) ?_)
    refine tl_step rfl (oj_val (y_pickt (fe_t rfl) (fe_t rfl)) ?_)
    refine tl_step rfl (oj_val (y_move (fe_t rfl)) ?_)
    refine tl_splitp (d := 18) rfl (fun hq3 => ?_) (fun hq4 => ?_)
    · refine tl_want rfl rfl rfl (oj_val (y_move (fe_t rfl)) ?_)
      refine tl_want rfl rfl rfl (oj_val (y_leq (fe_t rfl) fe_c) ?_)
      refine tl_step rfl (oj_val (y_pickt (fe_t rfl) (fe_t rfl)) ?_)
      refine tl_step rfl (oj_val (y_move (fe_t rfl)) ?_)
      refine tl_splitp (d := 22) rfl (fun hq5 => ?_) (fun hq6 => ?_)
      · refine tl_want rfl rfl rfl (oj_val (y_move (fe_t rfl)) ?_)
        refine tl_want rfl rfl rfl (oj_callv Tryz.call17 fe_f (fel_cons (fe_t rfl) fel_nil) (fun w' hS => itoaE (hw.st hS) q0.1 (by omega) (by omega)) ?_)
        refine tl_want rfl rfl rfl (oj_val (y_move (fe_t rfl)) ?_)
        refine tl_want rfl rfl rfl (oj_val (y_eqs (fe_t rfl) (fe_t rfl)) ?_)
        refine tl_step rfl (oj_val (y_pickt (fe_t rfl) (fe_t rfl)) ?_)
        refine tl_step rfl (oj_val (y_assign (fe_t rfl)) ?_)
        refine tl_step rfl (oj_val (y_assign (fe_t rfl)) ?_)
        refine tl_nil ?_
        refine tx_then ?_
        refine tr_ret ?_
        refine tx_ret (res2 Tryz.results36 (rok_t rfl) (rok_t rfl)) (fun w' hS => ?_)
        exact ⟨(q0.1, _), hq0.num ‹_› ‹_› ‹_›, rfl, hS.pick [] _ rfl (by decide)⟩
      · refine tl_skip rfl rfl rfl rfl ?_
        refine tl_skip rfl rfl rfl rfl ?_
        refine tl_skip rfl rfl rfl rfl ?_
        refine tl_skip rfl rfl rfl rfl ?_
        refine tl_step rfl (oj_val (y_pickf (fe_t rfl) fe_c) ?_)
        refine tl_step rfl (oj_val (y_assign (fe_t rfl)) ?_)
        refine tl_step rfl (oj_val (y_assign (fe_t rfl)) ?_)
        refine tl_nil ?_
        refine tx_then ?_
        refine tr_ret ?_
        refine tx_ret (res2 Tryz.results36 (rok_t rfl) (rok_t rfl)) (fun w' hS => ?_)
        exact ⟨(q0.1, false), ⟨(hq0.no (.inr (.inr ‹_›))).symm, fun h => by cases h⟩, rfl, hS.pick [] _ rfl (by decide)⟩
    · refine tl_skip rfl rfl rfl rfl ?_
      refine tl_skip rfl rfl rfl rfl ?_
      refine tl_step rfl (oj_val (y_pickf (fe_t rfl) fe_c) ?_)
      refine tl_step rfl (oj_val (y_move (fe_t rfl)) ?_)
      refine tl_skip rfl rfl rfl rfl ?_
      refine tl_skip rfl rfl rfl rfl ?_
      refine tl_skip rfl rfl rfl rfl ?_
      refine tl_skip rfl rfl rfl rfl ?_
      refine tl_step rfl (oj_val (y_pickf (fe_t rfl) fe_c) ?_)
      refine tl_step rfl (oj_val (y_assign (fe_t rfl)) ?_)
      refine tl_step rfl (oj_val (y_assign (fe_t rfl)) ?_)
      refine tl_nil ?_
      refine tx_then ?_
      refine tr_ret ?_
      refine tx_ret (res2 Tryz.results36 (rok_t rfl) (rok_t rfl)) (fun w' hS => ?_)
      exact ⟨(q0.1, false), ⟨(hq0.no (.inr (.inl ‹_›))).symm, fun h => by cases h⟩, rfl, hS.pick [] _ rfl (by decide)⟩
  · refine tl_skip rfl rfl rfl rfl ?_
    refine tl_skip rfl rfl rfl rfl ?_
    refine tl_step rfl (oj_val (y_pickf (fe_t rfl) fe_c) ?_)
    refine tl_step rfl (oj_val (y_move (fe_t rfl)) ?_)
    refine tl_skip rfl rfl rfl rfl ?_
    refine tl_skip rfl rfl rfl rfl ?_
    refine tl_step rfl (oj_val (y_pickf (fe_t rfl) fe_c) ?_)
    refine tl_step rfl (oj_val (y_move (fe_t rfl)) ?_)
    refine tl_skip rfl rfl rfl rfl ?_
    refine tl_skip rfl rfl rfl rfl ?_
    refine tl_skip rfl rfl rfl rfl ?_
    refine tl_skip rfl rfl rfl rfl ?_
    refine tl_step rfl (oj_val (y_pickf (fe_t rfl) fe_c) ?_)
    refine tl_step rfl (oj_val (y_assign (fe_t rfl)) ?_)
    refine tl_step rfl (oj_val (y_assign (fe_t rfl)) ?_)
    refine tl_nil ?_
    refine tx_then ?_
    refine tr_ret ?_
    refine tx_ret (res2 Tryz.results36 (rok_t rfl) (rok_t rfl)) (fun w' hS => ?_)
    exact ⟨(q0.1, false), ⟨(hq0.no (.inl ‹_›)).symm, fun h => by cases h⟩, rfl, hS.pick [] _ rfl (by decide)⟩

end Go.Proofs.YtoibebmhfcjpfaaGreatDoor.Bn

namespace Go.Proofs.YtoibebmhfcjpfaaGreatDoor.Bn
open Go.RowKit Go.Lib Go.Proofs.YtoibebmhfcjpfaaGreatDoor.E

theorem okNum_num {l : List UInt8} : num l = if okNum l = true then some (val l) else none := rfl
theorem cut_len {c : UInt8} {l : List UInt8} {q : List UInt8 × List UInt8 × Bool} (h : CutIs c l q) {m : Nat} (hl : l.length < m) : q.2.1.length < m := by
  rcases h with ⟨_, _, _, h4⟩ | ⟨_, h2, _⟩
  · rw [h4]
    simp; omega
  · rw [h2] at hl
    simp at hl
    omega
theorem cut_len1 {c : UInt8} {l : List UInt8} {q : List UInt8 × List UInt8 × Bool} (h : CutIs c l q) {m : Nat} (hl : l.length < m) : q.1.length < m := by
  rcases h with ⟨_, _, h3, _⟩ | ⟨_, h2, _⟩
  · rw [h3]
    exact hl
  · rw [h2] at hl
    simp at hl
    omega
theorem nums_none : ∀ {ws : List (List UInt8)} {j : Nat}, j < ws.length → okNum (ws.getD j []) = false → nums ws = none
  | [], j, h, _ => by simp at h
  | w :: ws, 0, _, h => by
    have : okNum w = false := by simpa using h
    simp [nums, num, this]
  | w :: ws, j + 1, hj, h => by
    have hn := nums_none (ws := ws) (j := j) (by simpa using hj) (by simpa using h)
    rw [nums, hn]
    cases num w <;> rfl
theorem nums_len : ∀ {ws : List (List UInt8)} {l : List Nat}, nums ws = some l → l.length = ws.length
  | [], l, h => by
    simp only [nums, Option.some.injEq] at h
    subst h
    rfl
  | w :: ws, l, h => by
    unfold nums at h
    split at h
    · rename_i n m h1 h2
      simp only [Option.some.injEq] at h
      subst h
      simp [nums_len h2]
    · cases h

theorem read_len {l : List UInt8} (h : (wds 32 l).length ≠ 4) (s : Sc) : read 0 s l = none := by
  unfold read
  cases hw : wds 32 l with
  | nil => rfl
  | cons w ws =>
    rw [hw] at h
    simp only
    cases hn : nums ws with
    | none => rfl
    | some ns =>
      have := nums_len hn
      simp only [if_true]
      split
      · match ns, this with
        | [a, b, c], e => simp at e h; omega
        | [], _ => rfl
        | [_], _ => rfl
        | [_, _], _ => rfl
        | _ :: _ :: _ :: _ :: _, _ => rfl
      · rfl
theorem read_rate {l : List UInt8} (h : (wds 32 l).getD 0 [] ≠ sRate) (s : Sc) : read 0 s l = none := by
  unfold read
  cases hw : wds 32 l with
  | nil => rfl
  | cons w ws =>
    rw [hw] at h
    have h : w ≠ sRate := by simpa using h
    simp only
    cases hn : nums ws with
    | none => rfl
    | some ns => simp [h]
theorem read_num {l : List UInt8} (hl : (wds 32 l).length = 4) {j : Nat} (hj : j < 3) (h : okNum ((wds 32 l).getD (j + 1) []) = false) (s : Sc) : read 0 s l = none := by
  unfold read
  cases hw : wds 32 l with
  | nil => rfl
  | cons w ws =>
    rw [hw] at h hl
    simp only
    rw [nums_none (ws := ws) (j := j) (by simp at hl; omega) (by simpa using h)]
theorem read_ok {l : List UInt8} (hl : (wds 32 l).length = 4) (h0 : (wds 32 l).getD 0 [] = sRate) (h : ∀ j, j < 3 → okNum ((wds 32 l).getD (j + 1) []) = true) (s : Sc) : read 0 s l = some ⟨val ((wds 32 l).getD 1 []), val ((wds 32 l).getD 2 []), val ((wds 32 l).getD 3 []), s.ops⟩ := by
  match hw : wds 32 l, hl with
  | [w0, w1, w2, w3], _ =>
    rw [hw] at h h0
    have e1 : okNum w1 = true := by simpa using h 0 (by omega)
    have e2 : okNum w2 = true := by simpa using h 1 (by omega)
    have e3 : okNum w3 = true := by simpa using h 2 (by omega)
    have e0 : w0 = sRate := by simpa using h0
    simp [read, hw, nums, num, e0, e1, e2, e3]

theorem okNum_no32 {l : List UInt8} (h : okNum l = true) : (32 : UInt8) ∉ l := fun e => by
  have := List.all_eq_true.1 ((okNum_iff l).1 h).2.2.2.1 32 e
  cases this
theorem line_ok {k : Nat} (hk : k ≠ 0) {l : List UInt8} {q : List UInt8 × List UInt8 × Bool} (hc : CutIs 32 l q) (h : okNum q.2.1 = true) (s : Sc) : read k s l = if kindOf q.1 = 0 then none else some { s with ops := s.ops ++ [(kindOf q.1, val q.2.1)] } := by
  rcases hc with ⟨_, _, _, h4⟩ | ⟨_, h2, h3⟩
  · rw [h4] at h
    cases h
  · have hw : wds 32 l = [q.1, q.2.1] := by rw [h2, wds_cons _ h3, wds_none (okNum_no32 h)]
    simp only [read, hw, nums, num, h, if_true, if_neg hk]
theorem line_no {k : Nat} (hk : k ≠ 0) {l : List UInt8} {q : List UInt8 × List UInt8 × Bool} (hc : CutIs 32 l q) (h : okNum q.2.1 = false) (s : Sc) : read k s l = none := by
  rcases hc with ⟨_, h2, h3, h4⟩ | ⟨_, h2, h3⟩
  · have hw : wds 32 l = [l] := wds_none h2
    simp [read, hw, nums, hk]
  · have hw : wds 32 l = q.1 :: wds 32 q.2.1 := by rw [h2, wds_cons _ h3]
    simp only [read, hw]
    cases hn : nums (wds 32 q.2.1) with
    | none => rfl
    | some ns =>
      simp only [if_neg hk]
      split
      · rfl
      · have hlen := nums_len hn
        match ns, hlen with
        | [], _ => rfl
        | _ :: _ :: _, _ => rfl
        | [n], e =>
          exfalso
          rcases cut1 32 q.2.1 with ⟨g1, _⟩ | ⟨a, b, g0, g1, _⟩
          · rw [wds_none g1] at hn
            simp [nums, num, h] at hn
          · rw [g0, wds_cons b g1] at e
            have := wds_ne 32 b
            cases hb : wds 32 b with
            | nil => exact this hb
            | cons x y => rw [hb] at e; simp at e

theorem wds_mem {c : UInt8} : ∀ {l w : List UInt8}, w ∈ wds c l → w.length ≤ l.length
  | [], w, h => by
    simp only [wds, List.mem_singleton] at h
    subst h
    exact Nat.le_refl _
  | b :: l, w, h => by
    unfold wds at h
    split at h
    · rcases List.mem_cons.1 h with rfl | h
      · simp
      · have := wds_mem h
        simp; omega
    · split at h
      · simp only [List.mem_singleton] at h
        subst h
        simp
      · rename_i x ws hx
        rcases List.mem_cons.1 h with rfl | h
        · have := wds_mem (c := c) (l := l) (w := x) (by rw [hx]; exact List.mem_cons_self ..)
          simp; omega
        · have := wds_mem (c := c) (l := l) (w := w) (by rw [hx]; exact List.mem_cons_of_mem _ h)
          simp; omega
theorem wds_at {c : UInt8} {l : List UInt8} (k : Nat) : ((wds c l).getD k []).length ≤ l.length := by
  rw [List.getD_eq_getElem?_getD]
  cases h : (wds c l)[k]? with
  | none => simp
  | some w => exact wds_mem (List.mem_of_getElem? h)
theorem getS {ws : List (List UInt8)} {k : Nat} (h : k < ws.length) : (ws.map str)[k]? = some (str (ws.getD k [])) := by
  simp [List.getD_eq_getElem?_getD, h]

def c2 : Nat × Nat → List Value := fun o => [(.int .i64 ((o.1 : Int))), (.int .i64 ((o.2 : Int)))]
/-- The things that happen, held. -/
def OpsIs (z : Vs) (ops : List (Nat × Nat)) : Prop := z.n = ops.length ∧ z.xs = ops.flatMap c2
/-- The cells of a script of which i numbers are read. -/
def hcs (l : List UInt8) (s : Sc) (i : Nat) : Sc := ⟨if 0 < i then val ((wds 32 l).getD 1 []) else s.num, if 1 < i then val ((wds 32 l).getD 2 []) else s.den, if 2 < i then val ((wds 32 l).getD 3 []) else s.burst, s.ops⟩
def cSc (s : Sc) (v : Value) : List Value := [(.int .i64 ((s.num : Int))), (.int .i64 ((s.den : Int))), (.int .i64 ((s.burst : Int))), v]
theorem cSc_set {l : List UInt8} {s : Sc} {v : Value} {i : Nat} (h : i < 3) : (cSc (hcs l s i) v).set i (.int .i64 ((val ((wds 32 l).getD (i + 1) []) : Int))) = cSc (hcs l s (i + 1)) v := by
  rcases (show i = 0 ∨ i = 1 ∨ i = 2 by omega) with rfl | rfl | rfl <;> rfl
theorem hcs_ok {l : List UInt8} (hl : (wds 32 l).length = 4) (h0 : (wds 32 l).getD 0 [] = sRate) (h : ∀ j, j < 3 → okNum ((wds 32 l).getD (j + 1) []) = true) (s : Sc) : read 0 s l = some (hcs l s 3) := read_ok hl h0 h s
theorem ptr3 {b i : Nat} (h : i < 3) : ([.pointer (some ⟨b, 0, none⟩), .pointer (some ⟨b, 1, none⟩), .pointer (some ⟨b, 2, none⟩)] : List Value)[i]? = some (.pointer (some ⟨b, i, none⟩)) := by
  rcases (show i = 0 ∨ i = 1 ∨ i = 2 by omega) with rfl | rfl | rfl <;> rfl
theorem prs_miss {k : Nat} {s : Sc} {u : List UInt8} {q : List UInt8 × List UInt8 × Bool} (h : CutIs 10 u q) (hq : q.2.2 = false) (hk : k = 0 ∨ ¬ u = []) : prs k s u = (k, none) := by
  rcases h with ⟨_, h2, _⟩ | ⟨h1, _⟩
  · rw [prs_none h2, fin, if_neg (by rintro ⟨h3, h4⟩; rcases hk with h | h; exact h4 h; exact h h3)]
  · rw [hq] at h1
    cases h1
theorem prs_bad {k : Nat} {s r : Sc} {p : Bool} {u : List UInt8} {q : List UInt8 × List UInt8 × Bool} (h : CutIs 10 u q) (hq : q.2.2 = true) (hr : read k s q.1 = if p = true then some r else none) (hp : p = false) : prs k s u = (k, none) := by
  rcases h with ⟨h1, _⟩ | ⟨_, h2, h3⟩
  · rw [hq] at h1
    cases h1
  · rw [h2, prs_cons h3, hr, hp]
    rfl
theorem prs_end {k : Nat} {s : Sc} {u : List UInt8} (hk : ¬ k = 0) (hu : u = []) : prs k s u = (0, some s) := by
  rw [hu, prs_none (by simp), fin, if_pos ⟨rfl, hk⟩]
theorem read_more {k : Nat} {s r : Sc} {l : List UInt8} (h : read k s l = some r) : r.ops.length ≤ s.ops.length + 1 := by
  unfold read at h
  split at h
  · cases h
  · split at h
    · cases h
    · split at h
      · split at h
        · split at h
          · simp only [Option.some.injEq] at h
            subst h
            exact Nat.le_succ _
          · cases h
        · cases h
      · split at h
        · cases h
        · split at h
          · simp only [Option.some.injEq] at h
            subst h
            simp
          · cases h
theorem prs_next {k : Nat} {s : Sc} {t u : List UInt8} {q : List UInt8 × List UInt8 × Bool} {r : Bool × Sc × Vs} (h : CutIs 10 u q) (hq : q.2.2 = true) (hr : OpsIs r.2.2 r.2.1.ops ∧ read k s q.1 = if r.1 = true then some r.2.1 else none) (hp : r.1 = true) (hpr : prs k s u = parse t) (hsk : s.ops.length ≤ k) (hku : k + u.length ≤ t.length) :
    (OpsIs r.2.2 r.2.1.ops ∧ r.2.1.ops.length ≤ k + 1 ∧ k + 1 + q.2.1.length ≤ t.length ∧ prs (k + 1) r.2.1 q.2.1 = parse t) ∧ q.2.1.length < u.length := by
  rcases h with ⟨h1, _⟩ | ⟨_, h2, h3⟩
  · rw [hq] at h1
    cases h1
  · have hr2 := hr.2
    rw [hp, if_pos rfl] at hr2
    have hm := read_more hr2
    have hlen := congrArg List.length h2
    simp only [List.length_append, List.length_cons] at hlen
    refine ⟨⟨hr.1, by omega, by omega, ?_⟩, by omega⟩
    rw [h2, prs_cons h3, hr2] at hpr
    exact hpr
def kwds : List (List UInt8) := [sIn, sTick, sPoll]
theorem kw_at {i : Nat} (h : i < 3) {w : List UInt8} (he : kwds.getD i [] = w) : kindOf w = 1 + i := by
  subst he
  rcases (show i = 0 ∨ i = 1 ∨ i = 2 by omega) with rfl | rfl | rfl <;> decide
theorem kw_no {w : List UInt8} (h : ∀ j, j < 3 → ¬ kwds.getD j [] = w) : kindOf w = 0 := by
  have h0 : ¬ w = sIn := fun e => h 0 (by omega) e.symm
  have h1 : ¬ w = sTick := fun e => h 1 (by omega) e.symm
  have h2 : ¬ w = sPoll := fun e => h 2 (by omega) e.symm
  simp [kindOf, h0, h1, h2]
end Go.Proofs.YtoibebmhfcjpfaaGreatDoor.Bn

namespace Go.Proofs.YtoibebmhfcjpfaaGreatDoor.Bn
open Go.RowKit Go.Lib Go.Proofs.YtoibebmhfcjpfaaGreatDoor.E

set_option maxRecDepth 100000 in
theorem wordsE (w : World) :
    Calls Tryz.prog 37 #[] w fun e w' => ∃ q : Vs, (q.n = 3 ∧ q.xs = kwds.map str) ∧ e = .returned (.slice q.A q.n q.c) ∧ St w w' [vec 9 1 (.slice q.A q.n q.c) q.n q.xs] := by
  refine calls_tr Tryz.func37 Tryz.ntmps37 rfl rfl (St.refl _) ?_
  refine tr_seq ?_
  refine tr_region ?_
  refine tl_step rfl (oj_val (y_assign fe_c) ?_)
  refine tl_nil ?_
  refine tx_then ?_
  refine tr_seq ?_
  refine tr_region ?_
  refine tl_step rfl (oj_lit3 Tryz.underlying39 Tryz.sizeOf9 Tryz.zeroValue9 rfl fe_c fe_c fe_c rfl rfl rfl (fun g_wv => ?_))
  refine tl_step rfl (oj_val (y_assign (fe_t rfl)) ?_)
  refine tl_nil ?_
  refine tx_then ?_
  refine tr_ret ?_
  refine tx_ret (res1 Tryz.results37 (rok_t rfl)) (fun w' hS => ?_)
  exact ⟨⟨_, 3, 3, _⟩, ⟨rfl, rfl⟩, rfl, hS.pick [0] _ rfl (by decide)⟩

set_option maxRecDepth 100000 in
set_option maxHeartbeats 2000000 in
theorem headE {w0 w : World} {T : List Res} {b : Nat} {s : Sc} {z : Vs} (hw : Gw w0) (hS : St w0 w (blk b (cSc s (.slice z.A z.n z.c)) :: vec 68 2 (.slice z.A z.n z.c) z.n z.xs :: T)) (hz : OpsIs z s.ops) (l : List UInt8) (hl : l.length < 4294967281) :
    Calls Tryz.prog 25 #[str l, .pointer (some ⟨b, 0, none⟩)] w fun e w' => ∃ q : Bool × Sc × Vs, (OpsIs q.2.2 q.2.1.ops ∧ read 0 s l = if q.1 = true then some q.2.1 else none) ∧ e = .returned (.bool q.1) ∧ St w0 w' (blk b (cSc q.2.1 (.slice q.2.2.A q.2.2.n q.2.2.c)) :: vec 68 2 (.slice q.2.2.A q.2.2.n q.2.2.c) q.2.2.n q.2.2.xs :: T) := by
  refine calls_tr Tryz.func25 Tryz.ntmps25 rfl rfl hS ?_
  refine tr_seq ?_
  refine tr_region ?_
  refine tl_step rfl (oj_val (y_assign fe_c) ?_)
  refine tl_nil ?_
  refine tx_then ?_
  refine tr_seq ?_
  refine tr_region ?_
  refine tl_step rfl (oj_val (y_move (fe_t rfl)) ?_)
  refine tl_step rfl (oj_call Tryz.call35 fe_f (fel_cons (fe_t rfl) (fel_cons fe_c fel_nil)) (fun w' hS => splitE (hw.st hS) l 32 hl) (fun r0 hr0 => ?_))
  refine tl_step rfl (oj_val (y_assign (fe_t rfl)) ?_)
  refine tl_nil ?_
  refine tx_then ?_
  refine tr_seq ?_
  refine tr_seq ?_
  refine tr_region ?_
  refine tl_step rfl (oj_val (y_move (fe_t rfl)) ?_)
  refine tl_step rfl (oj_val (y_len Tryz.underlying39 (fe_t rfl)) ?_)
  refine tl_step rfl (oj_val (y_neq (fe_t rfl) fe_c) ?_)
  refine tl_step rfl (oj_val (y_move (fe_t rfl)) ?_)
  refine tl_splitp (d := 15) rfl (fun hq1 => ?_) (fun hq2 => ?_)
  · refine tl_skip rfl rfl rfl rfl ?_
    refine tl_skip rfl rfl rfl rfl ?_
    refine tl_skip rfl rfl rfl rfl ?_
    refine tl_skip rfl rfl rfl rfl ?_
    refine tl_step rfl (oj_val (y_pickt (fe_t rfl) fe_c) ?_)
    refine tl_nil ?_
    refine tx_then ?_
    refine tr_condt (fe_t rfl) ?_
    refine tr_seq ?_
    refine tr_region ?_
    refine tl_step rfl (oj_val (y_assign fe_c) ?_)
    refine tl_nil ?_
    refine tx_then ?_
    refine tr_ret ?_
    refine tx_then_ret ?_
    refine tx_ret (res1 Tryz.results25 (rok_t rfl)) (fun w' hS => ?_)
    exact ⟨(false, s, z), ⟨hz, read_len (by rw [← hr0.1]; omega) s⟩, rfl, pickT (l := [_, _, _]) hS [1, 2] rfl (by decide)⟩
  · refine tl_want rfl rfl rfl (oj_val (y_move (fe_t rfl)) ?_)
    refine tl_want rfl rfl rfl (oj_val (y_indexI (m := 0) Tryz.underlying39 Tryz.sizeOf9 (fe_t rfl) fe_c (rdl_vec 0 rfl) (by rw [hr0.2, List.length_map, hr0.1, Nat.mul_one]) (by decide) (by decide) (by omega) rfl) ?_)
    refine tl_want rfl rfl rfl (oj_val (y_ld Tryz.isAgg9 (fe_t rfl) (rdl_vec 0 rfl) (by rw [hr0.2]; exact getS (ws := wds 32 l) (by omega))) ?_)
    refine tl_want rfl rfl rfl (oj_val (y_nes (fe_t rfl) fe_c) ?_)
    refine tl_step rfl (oj_val (y_pickf (fe_t rfl) (fe_t rfl)) ?_)
    refine tl_nil ?_
    refine tx_then ?_
    refine tr_condp (fe_t rfl) (fun hq3 => ?_) (fun hq4 => ?_)
    · refine tr_seq ?_
      refine tr_region ?_
      refine tl_step rfl (oj_val (y_assign fe_c) ?_)
      refine tl_nil ?_
      refine tx_then ?_
      refine tr_ret ?_
      refine tx_then_ret ?_
      refine tx_ret (res1 Tryz.results25 (rok_t rfl)) (fun w' hS => ?_)
      exact ⟨(false, s, z), ⟨hz, read_rate (by simpa using ‹_›) s⟩, rfl, pickT (l := [_, _, _]) hS [1, 2] rfl (by decide)⟩
    · refine tr_skip ?_
      refine tx_then ?_
      refine tr_seq ?_
      refine tr_seq ?_
      have hwl4 : (wds 32 l).length = 4 := by rw [← hr0.1]; omega
      have hw0 : (wds 32 l).getD 0 [] = sRate := Classical.not_not.1 ‹¬¬(wds 32 l).getD 0 [] = [114, 97, 116, 101]›
      refine tb_draw 12 (sel _ [0, 1, 2]) (fun w h => h.sel _ rfl (by decide)) rfl ?_
      refine tb_float (i := 0) rfl (by kernel_rfl) rfl (wants_none rfl) (yq_of (y_move (fe_t rfl))) ?_
      refine tb_float (i := 1) rfl (by kernel_rfl) rfl (wants_none rfl) (yq_of (y_nilCheck (fe_t rfl))) ?_
      refine tb_float (i := 2) rfl (by kernel_rfl) rfl (wants_none rfl) (yq_of (y_fieldAddr (td := 3) Tryz.underlying52 rfl rfl Tryz.sizeOf3 (o' := 0) rfl (fe_t rfl))) ?_
      refine tb_float (i := 3) rfl (by kernel_rfl) rfl (wants_none rfl) (yq_of (y_move (fe_t rfl))) ?_
      refine tb_float (i := 4) rfl (by kernel_rfl) rfl (wants_none rfl) (yq_of (y_nilCheck (fe_t rfl))) ?_
      refine tb_float (i := 5) rfl (by kernel_rfl) rfl (wants_none rfl) (yq_of (y_fieldAddr (td := 3) Tryz.underlying52 rfl rfl Tryz.sizeOf3 (o' := 1) rfl (fe_t rfl))) ?_
      refine tb_float (i := 6) rfl (by kernel_rfl) rfl (wants_none rfl) (yq_of (y_move (fe_t rfl))) ?_
      refine tb_float (i := 7) rfl (by kernel_rfl) rfl (wants_none rfl) (yq_of (y_nilCheck (fe_t rfl))) ?_
      refine tb_float (i := 8) rfl (by kernel_rfl) rfl (wants_none rfl) (yq_of (y_fieldAddr (td := 3) Tryz.underlying52 rfl rfl Tryz.sizeOf3 (o' := 2) rfl (fe_t rfl))) ?_
      refine tb_float (i := 11) rfl (by kernel_rfl) rfl (wants_none rfl) (yq_of (y_move fe_c)) ?_
      refine tb_one2 (i := 9) rfl (by kernel_rfl) (by kernel_rfl) (wants_none rfl) (oj_lit3 Tryz.underlying95 Tryz.sizeOf94 Tryz.zeroValue94 rfl (fe_t rfl) (fe_t rfl) (fe_t rfl) rfl rfl rfl (fun g_pv => ⟨fun w h => h.pick [1, 2, 3] _ rfl (by decide), ?_⟩))
      refine tb_float (i := 10) rfl (by kernel_rfl) rfl (wants_none rfl) (yq_of (y_len Tryz.underlying95 (fe_t rfl))) ?_
      refine tb_done (by kernel_rfl) ?_
      refine tx_then ?_
      refine tr_block ?_
      refine tr_loop2 [4, 6, 7, 8, 9, 32, 33, 34, 35, 36, 37, 38, 39, 40, 41, 42, 43, 44, 45, 46, 47, 48, 49, 50, 51] (fun (i : Nat) (cs : List Value) => [(32, .int .i64 (i : Int))]) 0 (fun (i : Nat) (cs : List Value) => [(2, blk b cs)]) (fun (i : Nat) (cs : List Value) => i ≤ 3 ∧ cs = cSc (hcs l s i) (.slice z.A z.n z.c) ∧ ∀ j, j < i → okNum ((wds 32 l).getD (j + 1) []) = true) (fun (i : Nat) (cs : List Value) => 3 - i) (0) (_) (cov_cons (by first | rfl | exact v_int (by omega) | exact v_bool (by simp [*])) (cov_nil)) (fun w h => h) ?_ ?_
      · try dsimp only
        exact ⟨by omega, rfl, fun j h => by omega⟩
      intro i cs hp
      obtain ⟨hi, hcs_, hok⟩ := hp
      refine tr_seq ?_
      refine tr_region ?_
      refine tl_step rfl (oj_val (y_lss (fe_t rfl) (fe_t rfl)) ?_)
      refine tl_nil ?_
      refine tx_then ?_
      refine tr_seq ?_
      refine tr_condp (fe_t rfl) (fun hq5 => ?_) (fun hq6 => ?_)
      · refine tr_skip ?_
        refine tx_then ?_
        refine tr_seq ?_
        refine tr_block ?_
        refine tr_seq ?_
        refine tr_region ?_
        refine tl_step rfl (oj_val (y_move (fe_t rfl)) ?_)
        refine tl_step rfl (oj_val (y_index Tryz.underlying95 Tryz.sizeOf94 (fe_t rfl) (fe_t rfl) (rdl_vec 0 rfl) (rfl) (by decide) (by omega) (Nat.mul_one _)) ?_)
        refine tl_step rfl (oj_val (y_ld Tryz.isAgg94 (fe_t rfl) (rdl_vec 0 rfl) (ptr3 (by omega))) ?_)
        refine tl_step rfl (oj_val (y_assign (fe_t rfl)) ?_)
        refine tl_step rfl (oj_val (y_assign (fe_t rfl)) ?_)
        refine tl_nil ?_
        refine tx_then ?_
        refine tr_seq ?_
        refine tr_region ?_
        refine tl_step rfl (oj_val (y_move (fe_t rfl)) ?_)
        refine tl_step rfl (oj_val (y_move (fe_t rfl)) ?_)
        refine tl_step rfl (oj_val (y_inc (fe_t rfl) fe_c (by omega)) ?_)
        refine tl_step rfl (oj_val (y_index Tryz.underlying39 Tryz.sizeOf9 (fe_t rfl) (fe_t rfl) (rdl_vec 1 rfl) (by rw [hr0.2, List.length_map, hr0.1, Nat.mul_one]) (by decide) (by omega) (Nat.mul_one _)) ?_)
        refine tl_step rfl (oj_val (y_ld Tryz.isAgg9 (fe_t rfl) (rdl_vec 1 rfl) (by rw [hr0.2]; exact getS (ws := wds 32 l) (by omega))) ?_)
        refine tl_step rfl (oj_call Tryz.call36 fe_f (fel_cons (fe_t rfl) fel_nil) (fun w' hS => numberE (hw.st hS) ((wds 32 l).getD (i + 1) []) (by have := wds_at (c := 32) (l := l) (i + 1); omega)) (fun q1 hq1 => ?_))
        refine tl_step rfl (oj_val (y_move (fe_t rfl)) ?_)
        refine tl_step rfl (oj_val (y_extract (fe_t rfl) rfl) ?_)
        refine tl_step rfl (oj_val (y_extract (fe_t rfl) rfl) ?_)
        refine tl_step rfl (oj_val (y_assign (fe_t rfl)) ?_)
        refine tl_step rfl (oj_val (y_assign (fe_t rfl)) ?_)
        refine tl_nil ?_
        refine tx_then ?_
        refine tr_seq ?_
        refine tr_seq ?_
        refine tr_region ?_
        refine tl_step rfl (oj_val (y_move (fe_t rfl)) ?_)
        refine tl_step rfl (oj_val (y_not (fe_t rfl)) ?_)
        refine tl_nil ?_
        refine tx_then ?_
        refine tr_cond (fe_t rfl) (fun hq7 => ?_) (fun hq8 => ?_)
        · have hN : q1.2 = false := by simpa using hq7
          refine tr_seq ?_
          refine tr_region ?_
          refine tl_step rfl (oj_val (y_assign fe_c) ?_)
          refine tl_nil ?_
          refine tx_then ?_
          refine tr_ret ?_
          refine tx_then_ret ?_
          refine tx_in_ret ?_
          refine tx_then_ret ?_
          refine tx_then_ret ?_
          refine tx_in_ret ?_
          refine tx_then_ret ?_
          refine tx_ret (res1 Tryz.results25 (rok_t rfl)) (fun w' hS => ?_)
          obtain rfl := hcs_
          exact ⟨(false, hcs l s i, z), ⟨hz, read_num hwl4 (j := i) (by omega) (by rw [← hq1.1]; exact hN) s⟩, rfl, pickT (l := [_, _, _, _]) hS [2, 3] rfl (by decide)⟩
        · have hN : q1.2 = true := by simpa using hq8
          refine tr_skip ?_
          refine tx_then ?_
          refine tr_region ?_
          refine tl_step rfl (oj_val (y_move (fe_t rfl)) ?_)
          refine tl_step rfl (oj_val (y_move (fe_t rfl)) ?_)
          refine tl_step rfl (oj_val (y_nilCheck (fe_t rfl)) ?_)
          refine tl_step rfl (oj_store1 2 Tryz.sizeOf3 (fe_t rfl) (fe_t rfl) rfl rfl rfl (by rw [hcs_, Nat.blt_eq]; exact (show i < 4 by omega)) (?_))
          refine tl_nil ?_
          refine tx_in ?_
          refine tx_then ?_
          refine tr_region ?_
          refine tl_step rfl (oj_val (y_inc (fe_t rfl) fe_c (by omega)) ?_)
          refine tl_step rfl (oj_val (y_move (fe_t rfl)) ?_)
          refine tl_nil ?_
          apply tx_back2 (i + 1) (_)
          · exact (cov_cons (by first | rfl | exact v_int (by omega) | exact v_bool (by simp [*])) (cov_nil))
          · repeat (first | exact over_nil | refine over_put rfl ?_ | refine over_drop rfl ?_)
          · exact fun w h => h
          · refine ⟨⟨by omega, ?_, fun j hj => ?_⟩, by omega⟩
            · rw [hcs_, hq1.2 hN]; exact cSc_set (by omega)
            · rcases (show j < i ∨ j = i by omega) with hj | rfl
              · exact hok j hj
              · rw [← hq1.1]; exact hN
      · refine tr_exit ?_
        refine tx_then_exit ?_
        refine tx_then_exit ?_
        refine tx_in_exit ?_
        refine tx_then ?_
        refine tr_seq ?_
        refine tr_region ?_
        refine tl_step rfl (oj_val (y_assign fe_c) ?_)
        refine tl_nil ?_
        refine tx_then ?_
        refine tr_ret ?_
        refine tx_ret (res1 Tryz.results25 (rok_t rfl)) (fun w' hS => ?_)
        obtain rfl : i = 3 := by omega
        obtain rfl := hcs_
        exact ⟨(true, hcs l s 3, z), ⟨hz, hcs_ok hwl4 hw0 hok s⟩, rfl, pickT (l := [_, _, _, _]) hS [2, 3] rfl (by decide)⟩

end Go.Proofs.YtoibebmhfcjpfaaGreatDoor.Bn

namespace Go.Proofs.YtoibebmhfcjpfaaGreatDoor.Bn
open Go.RowKit Go.Lib Go.Proofs.YtoibebmhfcjpfaaGreatDoor.E

set_option maxRecDepth 100000 in
set_option maxHeartbeats 2000000 in
theorem lineE {w0 w : World} {T : List Res} {b : Nat} {s : Sc} {z : Vs} (hw : Gw w0) (hS : St w0 w (blk b (cSc s (.slice z.A z.n z.c)) :: vec 68 2 (.slice z.A z.n z.c) z.n z.xs :: T)) (hz : OpsIs z s.ops) (l : List UInt8) (hl : l.length < 4294967281) {k : Nat} (hk : k ≠ 0) (hn : s.ops.length ≤ 1000000000) :
    Calls Tryz.prog 26 #[str l, .pointer (some ⟨b, 0, none⟩)] w fun e w' => ∃ q : Bool × Sc × Vs, (OpsIs q.2.2 q.2.1.ops ∧ read k s l = if q.1 = true then some q.2.1 else none) ∧ e = .returned (.bool q.1) ∧ St w0 w' (blk b (cSc q.2.1 (.slice q.2.2.A q.2.2.n q.2.2.c)) :: vec 68 2 (.slice q.2.2.A q.2.2.n q.2.2.c) q.2.2.n q.2.2.xs :: T) := by
  refine calls_tr Tryz.func26 Tryz.ntmps26 rfl rfl hS ?_
  refine tr_seq ?_
  refine tr_region ?_
  refine tl_step rfl (oj_val (y_assign fe_c) ?_)
  refine tl_nil ?_
  refine tx_then ?_
  refine tr_seq ?_
  refine tr_region ?_
  refine tl_step rfl (oj_val (y_move (fe_t rfl)) ?_)
  refine tl_step rfl (oj_call Tryz.call27 fe_f (fel_cons (fe_t rfl) (fel_cons fe_c fel_nil)) (fun w' hS => cutE (hw.st hS) l 32 hl) (fun c1 hc1 => ?_))
  refine tl_step rfl (oj_val (y_move (fe_t rfl)) ?_)
  refine tl_step rfl (oj_val (y_extract (fe_t rfl) rfl) ?_)
  refine tl_step rfl (oj_val (y_extract (fe_t rfl) rfl) ?_)
  refine tl_step rfl (oj_val (y_extract (fe_t rfl) rfl) ?_)
  refine tl_step rfl (oj_val (y_assign (fe_t rfl)) ?_)
  refine tl_step rfl (oj_val (y_assign (fe_t rfl)) ?_)
  refine tl_step rfl (oj_val (y_assign (fe_t rfl)) ?_)
  refine tl_nil ?_
  refine tx_then ?_
  refine tr_seq ?_
  refine tr_region ?_
  refine tl_step rfl (oj_val (y_move (fe_t rfl)) ?_)
  refine tl_step rfl (oj_call Tryz.call36 fe_f (fel_cons (fe_t rfl) fel_nil) (fun w' hS => numberE (hw.st hS) c1.2.1 (cut_len hc1 hl)) (fun n2 hn2 => ?_))
  refine tl_step rfl (oj_val (y_move (fe_t rfl)) ?_)
  refine tl_step rfl (oj_val (y_extract (fe_t rfl) rfl) ?_)
  refine tl_step rfl (oj_val (y_extract (fe_t rfl) rfl) ?_)
  refine tl_step rfl (oj_val (y_assign (fe_t rfl)) ?_)
  refine tl_step rfl (oj_val (y_assign (fe_t rfl)) ?_)
  refine tl_nil ?_
  refine tx_then ?_
  refine tr_seq ?_
  refine tr_seq ?_
  refine tr_region ?_
  refine tl_step rfl (oj_call Tryz.call37 fe_f fel_nil (fun w' hS => wordsE w') (fun r3 hr3 => ?_))
  refine tl_step rfl (oj_val (y_len Tryz.underlying39 (fe_t rfl)) ?_)
  refine tl_step rfl (oj_val (y_move fe_c) ?_)
  refine tl_nil ?_
  refine tx_then ?_
  refine tr_block ?_
  refine tr_loop1 [4, 10, 11, 25, 26, 27, 28, 29, 30, 31, 32, 33, 34, 35, 36, 37, 38, 39, 40, 41, 42, 43, 44, 45, 46, 47, 48, 49] (fun (i : Nat) => [(25, .int .i64 (i : Int))]) 0 (fun (i : Nat) => []) (fun (i : Nat) => i ≤ 3 ∧ (n2.2 = true → ∀ j, j < i → ¬ kwds.getD j [] = c1.1)) (fun (i : Nat) => 3 - i) (0) (cov_cons (by first | rfl | exact v_int (by omega) | exact v_bool (by simp [*])) (cov_nil)) (fun w h => h) ?_ ?_
  · try dsimp only
    exact ⟨by omega, fun _ j h => by omega⟩
  intro i hp
  obtain ⟨hi, hno⟩ := hp
  refine tr_seq ?_
  refine tr_region ?_
  refine tl_step rfl (oj_val (y_lss (fe_t rfl) (fe_t rfl)) ?_)
  refine tl_nil ?_
  refine tx_then ?_
  refine tr_seq ?_
  refine tr_condp (fe_t rfl) (fun hq1 => ?_) (fun hq2 => ?_)
  · refine tr_skip ?_
    refine tx_then ?_
    refine tr_seq ?_
    refine tr_block ?_
    refine tr_seq ?_
    refine tr_region ?_
    refine tl_step rfl (oj_val (y_move (fe_t rfl)) ?_)
    refine tl_step rfl (oj_val (y_index Tryz.underlying39 Tryz.sizeOf9 (fe_t rfl) (fe_t rfl) (rdl_vec 0 rfl) (by rw [hr3.2, hr3.1]; rfl) (by decide) (by omega) (Nat.mul_one _)) ?_)
    refine tl_step rfl (oj_val (y_ld Tryz.isAgg9 (fe_t rfl) (rdl_vec 0 rfl) (by rw [hr3.2]; exact getS (ws := kwds) (show i < 3 by omega))) ?_)
    refine tl_step rfl (oj_val (y_assign (fe_t rfl)) ?_)
    refine tl_step rfl (oj_val (y_assign (fe_t rfl)) ?_)
    refine tl_nil ?_
    refine tx_then ?_
    refine tr_seq ?_
    refine tr_region ?_
    refine tl_step rfl (oj_val (y_move (fe_t rfl)) ?_)
    refine tl_step rfl (oj_val (y_move (fe_t rfl)) ?_)
    refine tl_split (d := 31) rfl (fun hq3 => ?_) (fun hq4 => ?_)
    · refine tl_want rfl rfl rfl (oj_val (y_move (fe_t rfl)) ?_)
      refine tl_want rfl rfl rfl (oj_val (y_move (fe_t rfl)) ?_)
      refine tl_want rfl rfl rfl (oj_val (y_eqs (fe_t rfl) (fe_t rfl)) ?_)
      refine tl_step rfl (oj_val (y_pickt (fe_t rfl) (fe_t rfl)) ?_)
      refine tl_nil ?_
      refine tx_then ?_
      refine tr_condp (fe_t rfl) (fun hq5 => ?_) (fun hq6 => ?_)
      · refine tr_seq ?_
        have hT : n2.2 = true := ‹n2.2 = true›
        have hE : kwds.getD i [] = c1.1 := ‹_›
        refine tr_region ?_
        refine tl_step rfl (oj_val (y_move (fe_t rfl)) ?_)
        refine tl_step rfl (oj_val (y_move (fe_t rfl)) ?_)
        refine tl_step rfl (oj_val (y_nilCheck (fe_t rfl)) ?_)
        refine tl_step rfl (oj_val (y_fieldAddr (td := 50) Tryz.underlying52 rfl rfl Tryz.sizeOf50 (o' := 3) rfl (fe_t rfl)) ?_)
        refine tl_step rfl (oj_val (y_ldb 1 Tryz.isAgg50 (fe_t rfl) rfl rfl) ?_)
        refine tl_step rfl (oj_val (y_move (fe_t rfl)) ?_)
        refine tl_step rfl (oj_val (y_add fe_c (fe_t rfl) (by omega)) ?_)
        refine tl_step rfl (oj_val (y_move (fe_t rfl)) ?_)
        refine tl_step rfl (oj_val ((fun {u0 u1} hx hb => y_build (is := [0, 1]) (vs := [u0, u1]) (cs := [u0, u1]) rfl hx hb) (fel_cons (fe_t rfl) (fel_cons (fe_t rfl) fel_nil)) (by kernel_rfl)) ?_)
        refine tl_step rfl (oj_slice1 Tryz.underlying50 Tryz.sizeOf68 Tryz.zeroValue68 (fe_t rfl) (by decide) rfl (fun b1 => ?_))
        refine tl_step rfl (oj_append (i := 3) (s := 2) (z := (.agg #[.int .i64 0, .int .i64 0])) (bytes := 16) Tryz.underlying50 (by kernel_rfl) (fe_t rfl) (fe_t rfl) rfl (rdl_blk 0 rfl) rfl (by decide) (by first | exact oneI | exact oneF (fun _ => rfl) | exact fun u hu => List.all_eq_true.1 (show List.all _ (fun x => x.oneCell') = true from rfl) u hu | (intro u hu; revert u hu; simp [Value.oneCell'])) (by decide) ⟨by rw [hz.1]; omega, by decide⟩ (fun Aa1 ca1 hca1 => ?_))
        refine tl_step rfl (oj_val (y_nilCheck (fe_t rfl)) ?_)
        refine tl_step rfl (oj_val (y_fieldAddr (td := 50) Tryz.underlying52 rfl rfl Tryz.sizeOf50 (o' := 3) rfl (fe_t rfl)) ?_)
        refine tl_step rfl (oj_store1 2 Tryz.sizeOf50 (fe_t rfl) (fe_t rfl) rfl rfl rfl rfl (?_))
        refine tl_nil ?_
        refine tx_then ?_
        refine tr_seq ?_
        refine tr_region ?_
        refine tl_step rfl (oj_val (y_assign fe_c) ?_)
        refine tl_nil ?_
        refine tx_then ?_
        refine tr_ret ?_
        refine tx_in_ret ?_
        refine tx_then_ret ?_
        refine tx_then_ret ?_
        refine tx_in_ret ?_
        refine tx_then_ret ?_
        refine tx_ret (res1 Tryz.results26 (rok_t rfl)) (fun w' hS => ?_)
        refine ⟨(true, { s with ops := s.ops ++ [(1 + i, val c1.2.1)] }, ⟨_, _, _, _⟩), ⟨⟨?_, ?_⟩, ?_⟩, rfl, pickT (l := [_, _, _, _]) hS [2, 3] rfl (by decide)⟩
        · dsimp only; rw [hz.1]; simp
        · dsimp only; rw [hz.2, hn2.2 hT, Int.add_comm]; simp [c2, Int.add_comm]; rfl
        · rw [line_ok hk hc1 (hn2.1.symm.trans hT), kw_at (by omega) hE, if_neg (by omega)]; rfl
      · refine tr_skip ?_
        refine tx_in ?_
        refine tx_then ?_
        refine tr_region ?_
        refine tl_step rfl (oj_val (y_inc (fe_t rfl) fe_c (by omega)) ?_)
        refine tl_step rfl (oj_val (y_move (fe_t rfl)) ?_)
        refine tl_nil ?_
        apply tx_back1 (i + 1)
        · exact (cov_cons (by first | rfl | exact v_int (by omega) | exact v_bool (by simp [*])) (cov_nil))
        · repeat (first | exact over_nil | refine over_put rfl ?_ | refine over_drop rfl ?_)
        · exact fun w h => h
        · refine ⟨⟨by omega, fun hb j hj => ?_⟩, by omega⟩
          rcases (show j < i ∨ j = i by omega) with hj | rfl
          · exact hno hb j hj
          · simp_all
    · refine tl_skip rfl rfl rfl rfl ?_
      refine tl_skip rfl rfl rfl rfl ?_
      refine tl_skip rfl rfl rfl rfl ?_
      refine tl_step rfl (oj_val (y_pickf (fe_t rfl) fe_c) ?_)
      refine tl_nil ?_
      refine tx_then ?_
      refine tr_condf (fe_t rfl) ?_
      refine tr_skip ?_
      refine tx_in ?_
      refine tx_then ?_
      refine tr_region ?_
      refine tl_step rfl (oj_val (y_inc (fe_t rfl) fe_c (by omega)) ?_)
      refine tl_step rfl (oj_val (y_move (fe_t rfl)) ?_)
      refine tl_nil ?_
      apply tx_back1 (i + 1)
      · exact (cov_cons (by first | rfl | exact v_int (by omega) | exact v_bool (by simp [*])) (cov_nil))
      · repeat (first | exact over_nil | refine over_put rfl ?_ | refine over_drop rfl ?_)
      · exact fun w h => h
      · refine ⟨⟨by omega, fun hb j hj => ?_⟩, by omega⟩
        rcases (show j < i ∨ j = i by omega) with hj | rfl
        · exact hno hb j hj
        · simp_all
  · refine tr_exit ?_
    refine tx_then_exit ?_
    refine tx_then_exit ?_
    refine tx_in_exit ?_
    refine tx_then ?_
    refine tr_seq ?_
    refine tr_region ?_
    refine tl_step rfl (oj_val (y_assign fe_c) ?_)
    refine tl_nil ?_
    refine tx_then ?_
    refine tr_ret ?_
    refine tx_ret (res1 Tryz.results26 (rok_t rfl)) (fun w' hS => ?_)
    refine ⟨(false, s, z), ⟨hz, ?_⟩, rfl, pickT (l := [_, _, _]) hS [1, 2] rfl (by decide)⟩
    obtain rfl : i = 3 := by omega
    cases hb : n2.2 with
    | false => exact line_no hk hc1 (hn2.1.symm.trans hb) s
    | true =>
      rw [line_ok hk hc1 (hn2.1.symm.trans hb), kw_no (fun j hj => hno hb j hj), if_pos rfl]; rfl

end Go.Proofs.YtoibebmhfcjpfaaGreatDoor.Bn

namespace Go.Proofs.YtoibebmhfcjpfaaGreatDoor.Bn
open Go.RowKit Go.Lib Go.Proofs.YtoibebmhfcjpfaaGreatDoor.E

/-- The reader of the k-th line. -/
def rdF (k : Nat) : Nat := if k = 0 then 25 else 26
theorem call_rd (k : Nat) : ∀ args w, (callFunc (rdF k) args).run Tryz.prog w = .ok (.enter (rdF k) args) w := by
  unfold rdF
  split
  · exact Tryz.call25
  · exact Tryz.call26
theorem rdE {k : Nat} {w0 w : World} {T : List Res} {b : Nat} {s : Sc} {z : Vs} (hw : Gw w0) (hS : St w0 w (blk b (cSc s (.slice z.A z.n z.c)) :: vec 68 2 (.slice z.A z.n z.c) z.n z.xs :: T)) (hz : OpsIs z s.ops) (l : List UInt8) (hl : l.length < 4294967281) (hn : s.ops.length ≤ 1000000000) :
    Calls Tryz.prog (rdF k) #[str l, .pointer (some ⟨b, 0, none⟩)] w (fun e w' => ∃ q : Bool × Sc × Vs, (OpsIs q.2.2 q.2.1.ops ∧ read k s l = if q.1 = true then some q.2.1 else none) ∧ e = .returned (.bool q.1) ∧ St w0 w' (blk b (cSc q.2.1 (.slice q.2.2.A q.2.2.n q.2.2.c)) :: vec 68 2 (.slice q.2.2.A q.2.2.n q.2.2.c) q.2.2.n q.2.2.xs :: T)) := by
  by_cases h : k = 0
  · subst h
    exact headE hw hS hz l hl
  · have : rdF k = 26 := if_neg h
    rw [this]
    exact lineE hw hS hz l hl h hn

set_option maxRecDepth 100000 in
set_option maxHeartbeats 2000000 in
theorem parseE {w : World} (hw : Gw w) (t : List UInt8) (hl : t.length ≤ 1000000000) :
    Calls Tryz.prog 15 #[str t] w fun e w' => ∃ q : Nat × Sc × Vs × Nat, (OpsIs q.2.2.1 q.2.1.ops ∧ q.2.1.ops.length ≤ t.length ∧ ((q.2.2.2 = 0 ∧ q.1 = 0 ∧ parse t = (0, some q.2.1)) ∨ (q.2.2.2 = 1 ∧ q.2.1 = sc0 ∧ q.2.2.1.A = none ∧ parse t = (q.1, none)))) ∧ e = .returned (.tuple #[.agg (cSc q.2.1 (.slice q.2.2.1.A q.2.2.1.n q.2.2.1.c)).toArray, (.int .i64 ((q.1 : Int))), (.int .i64 ((q.2.2.2 : Int)))]) ∧ St w w' [vec 68 2 (.slice q.2.2.1.A q.2.2.1.n q.2.2.1.c) q.2.2.1.n q.2.2.1.xs] := by
  refine calls_tr Tryz.func15 Tryz.ntmps15 rfl rfl (St.refl _) ?_
  refine tr_seq ?_
  refine tr_region ?_
  refine tl_step rfl (oj_alloc Tryz.zeroValue52 (fun b2 => ?_))
  refine tl_step rfl (oj_val (y_assign fe_c) ?_)
  refine tl_step rfl (oj_val (y_assign fe_c) ?_)
  refine tl_nil ?_
  refine tx_then ?_
  refine tr_seq ?_
  refine tr_region ?_
  refine tl_step rfl (oj_alloc Tryz.zeroValue52 (fun bs => ?_))
  refine tl_nil ?_
  refine tx_then ?_
  refine tr_seq ?_
  refine tr_region ?_
  refine tl_step rfl (oj_val (y_assign fe_c) ?_)
  refine tl_nil ?_
  refine tx_then ?_
  refine tr_seq ?_
  refine tr_seq ?_
  refine tr_region ?_
  refine tl_step rfl (oj_val (y_assign fe_f) ?_)
  refine tl_nil ?_
  refine tx_then ?_
  refine tr_block ?_
  refine tr_add (r := vec 68 2 (.slice none 0 0) 0 []) vec_nil rfl ?_
  refine tr_loop4 [0, 3, 4, 6, 7, 8, 9, 10, 11, 12, 13, 14, 15, 16, 17, 18, 19, 20, 21, 22, 23, 24, 25, 26, 27, 28, 29, 30, 31, 32, 33, 34, 35] (fun (k : Nat) (u : List UInt8) (s : Sc) (z : Vs) => [(6, .int .i64 (k : Int)), (0, str u), (7, .func (.func (rdF k)) #[] #[])]) 0 (fun (k : Nat) (u : List UInt8) (s : Sc) (z : Vs) => [(1, blk bs (cSc s (.slice z.A z.n z.c))), (0, vec 68 2 (.slice z.A z.n z.c) z.n z.xs)]) (fun (k : Nat) (u : List UInt8) (s : Sc) (z : Vs) => OpsIs z s.ops ∧ s.ops.length ≤ k ∧ k + u.length ≤ t.length ∧ prs k s u = parse t) (fun (k : Nat) (u : List UInt8) (s : Sc) (z : Vs) => u.length) (0) (t) (sc0) (⟨none, 0, 0, []⟩ : Vs) (cov_cons (by first | rfl | exact v_int (by omega) | exact v_bool (by simp [*])) (cov_cons (by first | rfl | exact v_int (by omega) | exact v_bool (by simp [*])) (cov_cons (by first | rfl | exact v_int (by omega) | exact v_bool (by simp [*])) (cov_nil)))) (fun w h => h) ?_ ?_
  · try dsimp only
    exact ⟨⟨rfl, rfl⟩, Nat.zero_le _, by omega, rfl⟩
  intro k u s z hp
  obtain ⟨hz, hsk, hku, hpr⟩ := hp
  refine tr_seq ?_
  refine tr_seq ?_
  refine tr_region ?_
  refine tl_step rfl (oj_val (y_move (fe_t rfl)) ?_)
  refine tl_step rfl (oj_val (y_eq (fe_t rfl) fe_c) ?_)
  refine tl_step rfl (oj_val (y_move (fe_t rfl)) ?_)
  refine tl_splitp (d := 13) rfl (fun hq1 => ?_) (fun hq2 => ?_)
  · have hk9 : k = 0 ∨ ¬ u = [] := .inl (by omega)
    refine tl_skip rfl rfl rfl rfl ?_
    refine tl_skip rfl rfl rfl rfl ?_
    refine tl_step rfl (oj_val (y_pickt (fe_t rfl) fe_c) ?_)
    refine tl_nil ?_
    refine tx_then ?_
    refine tr_condt (fe_t rfl) ?_
    refine tr_skip ?_
    refine tx_then ?_
    refine tr_seq ?_
    refine tr_block ?_
    refine tr_seq ?_
    refine tr_region ?_
    refine tl_step rfl (oj_val (y_move (fe_t rfl)) ?_)
    refine tl_step rfl (oj_call Tryz.call27 fe_f (fel_cons (fe_t rfl) (fel_cons fe_c fel_nil)) (fun w' hS => cutE (hw.st hS) u 10 (by omega)) (fun c1 hc1 => ?_))
    refine tl_step rfl (oj_val (y_move (fe_t rfl)) ?_)
    refine tl_step rfl (oj_val (y_extract (fe_t rfl) rfl) ?_)
    refine tl_step rfl (oj_val (y_extract (fe_t rfl) rfl) ?_)
    refine tl_step rfl (oj_val (y_extract (fe_t rfl) rfl) ?_)
    refine tl_step rfl (oj_val (y_assign (fe_t rfl)) ?_)
    refine tl_step rfl (oj_val (y_assign (fe_t rfl)) ?_)
    refine tl_step rfl (oj_val (y_assign (fe_t rfl)) ?_)
    refine tl_nil ?_
    refine tx_then ?_
    refine tr_seq ?_
    refine tr_seq ?_
    refine tr_region ?_
    refine tl_step rfl (oj_val (y_move (fe_t rfl)) ?_)
    refine tl_step rfl (oj_val (y_not (fe_t rfl)) ?_)
    refine tl_step rfl (oj_val (y_move (fe_t rfl)) ?_)
    refine tl_split (d := 25) rfl (fun hq3 => ?_) (fun hq4 => ?_)
    · have hc9 : c1.2.2 = false := by simpa using hq3
      refine tl_skip rfl rfl rfl rfl ?_
      refine tl_skip rfl rfl rfl rfl ?_
      refine tl_skip rfl rfl rfl rfl ?_
      refine tl_skip rfl rfl rfl rfl ?_
      refine tl_step rfl (oj_val (y_pickt (fe_t rfl) fe_c) ?_)
      refine tl_nil ?_
      refine tx_then ?_
      refine tr_condt (fe_t rfl) ?_
      refine tr_seq ?_
      refine tr_add (r := vec 68 2 (.slice none 0 0) 0 []) vec_nil rfl ?_
      refine tr_region ?_
      refine tl_step rfl (oj_val (y_build (is := []) (vs := []) (cs := [.int .i64 0, .int .i64 0, .int .i64 0, .slice none 0 0]) rfl fel_nil (by kernel_rfl)) ?_)
      refine tl_step rfl (oj_val (y_move (fe_t rfl)) ?_)
      refine tl_step rfl (oj_storeW 3 Tryz.sizeOf52 (fe_t rfl) (fe_t rfl) rfl rfl rfl rfl rfl (?_))
      refine tl_step rfl (oj_val (y_assign (fe_t rfl)) ?_)
      refine tl_step rfl (oj_val (y_assign fe_c) ?_)
      refine tl_nil ?_
      refine tx_then ?_
      refine tr_ret ?_
      refine tx_then_ret ?_
      refine tx_in_ret ?_
      refine tx_then_ret ?_
      refine tx_then_ret ?_
      refine tx_in_ret ?_
      refine tx_then_ret ?_
      refine tx_ret (res3 Tryz.results15 (rok_b 3 Tryz.isAgg52 Tryz.sizeOf52 rfl rfl rfl) (rok_t rfl) (rok_t rfl)) (fun w' hS => ?_)
      exact ⟨(k, sc0, ⟨none, 0, 0, []⟩, 1), ⟨⟨rfl, rfl⟩, Nat.zero_le _, .inr ⟨rfl, rfl, rfl, hpr.symm.trans (by exact prs_miss hc1 hc9 hk9)⟩⟩, rfl, hS.pick [0] _ rfl (by decide)⟩
    · have hc9 : c1.2.2 = true := by simpa using hq4
      refine tl_want rfl rfl rfl (oj_val (y_move (fe_t rfl)) ?_)
      refine tl_want rfl rfl rfl (oj_val (y_move (fe_t rfl)) ?_)
      refine tl_want rfl rfl rfl (oj_call2 (call_rd k) (fe_t rfl) (fel_cons (fe_t rfl) (fel_cons (fe_t rfl) fel_nil)) (fun w' hS => rdE (k := k) (T := [_]) hw (hS.pick [1, 0, 2] _ rfl (by decide)) hz c1.1 (cut_len1 hc1 (by omega)) (by omega)) (fun r1 hr1 => ?_))
      refine tl_want rfl rfl rfl (oj_val (y_not (fe_t rfl)) ?_)
      refine tl_step rfl (oj_val (y_pickf (fe_t rfl) (fe_t rfl)) ?_)
      refine tl_nil ?_
      refine tx_then ?_
      refine tr_cond (fe_t rfl) (fun hq5 => ?_) (fun hq6 => ?_)
      · have hp9 : r1.1 = false := by simpa using hq5
        refine tr_seq ?_
        refine tr_add (r := vec 68 2 (.slice none 0 0) 0 []) vec_nil rfl ?_
        refine tr_region ?_
        refine tl_step rfl (oj_val (y_build (is := []) (vs := []) (cs := [.int .i64 0, .int .i64 0, .int .i64 0, .slice none 0 0]) rfl fel_nil (by kernel_rfl)) ?_)
        refine tl_step rfl (oj_val (y_move (fe_t rfl)) ?_)
        refine tl_step rfl (oj_storeW 3 Tryz.sizeOf52 (fe_t rfl) (fe_t rfl) rfl rfl rfl rfl rfl (?_))
        refine tl_step rfl (oj_val (y_assign (fe_t rfl)) ?_)
        refine tl_step rfl (oj_val (y_assign fe_c) ?_)
        refine tl_nil ?_
        refine tx_then ?_
        refine tr_ret ?_
        refine tx_then_ret ?_
        refine tx_in_ret ?_
        refine tx_then_ret ?_
        refine tx_then_ret ?_
        refine tx_in_ret ?_
        refine tx_then_ret ?_
        refine tx_ret (res3 Tryz.results15 (rok_b 3 Tryz.isAgg52 Tryz.sizeOf52 rfl rfl rfl) (rok_t rfl) (rok_t rfl)) (fun w' hS => ?_)
        exact ⟨(k, sc0, ⟨none, 0, 0, []⟩, 1), ⟨⟨rfl, rfl⟩, Nat.zero_le _, .inr ⟨rfl, rfl, rfl, hpr.symm.trans (by exact prs_bad hc1 hc9 hr1.2 hp9)⟩⟩, rfl, hS.pick [0] _ rfl (by decide)⟩
      · have hp9 : r1.1 = true := by simpa using hq6
        refine tr_skip ?_
        refine tx_then ?_
        refine tr_seq ?_
        refine tr_region ?_
        refine tl_step rfl (oj_val (y_move (fe_t rfl)) ?_)
        refine tl_step rfl (oj_val (y_assign (fe_t rfl)) ?_)
        refine tl_nil ?_
        refine tx_then ?_
        refine tr_region ?_
        refine tl_step rfl (oj_val (y_move (fe_t rfl)) ?_)
        refine tl_step rfl (oj_val (y_inc (fe_t rfl) fe_c (by omega)) ?_)
        refine tl_step rfl (oj_val (y_assign (fe_t rfl)) ?_)
        refine tl_nil ?_
        refine tx_in ?_
        refine tx_then ?_
        refine tr_region ?_
        refine tl_step rfl (oj_val (y_assign fe_f) ?_)
        refine tl_nil ?_
        apply tx_back4 (k + 1) (_) (r1.2.1) (_)
        · exact (cov_cons (by first | rfl | exact v_int (by omega) | exact v_bool (by simp [*])) (cov_cons (by first | rfl | exact v_int (by omega) | exact v_bool (by simp [*])) (cov_cons (by first | rfl | exact v_int (by omega) | exact v_bool (by simp [*])) (cov_nil))))
        · repeat (first | exact over_nil | refine over_put rfl ?_ | refine over_drop rfl ?_)
        · exact fun w h => h.pick [1, 0, 2] _ rfl (by decide)
        · exact prs_next hc1 hc9 hr1 hp9 hpr hsk hku
  · refine tl_want rfl rfl rfl (oj_val (y_move (fe_t rfl)) ?_)
    refine tl_want rfl rfl rfl (oj_val (y_nes (fe_t rfl) fe_c) ?_)
    refine tl_step rfl (oj_val (y_pickf (fe_t rfl) (fe_t rfl)) ?_)
    refine tl_nil ?_
    refine tx_then ?_
    refine tr_condp (fe_t rfl) (fun hq7 => ?_) (fun hq8 => ?_)
    · have hk9 : k = 0 ∨ ¬ u = [] := .inr hq7
      refine tr_skip ?_
      refine tx_then ?_
      refine tr_seq ?_
      refine tr_block ?_
      refine tr_seq ?_
      refine tr_region ?_
      refine tl_step rfl (oj_val (y_move (fe_t rfl)) ?_)
      refine tl_step rfl (oj_call Tryz.call27 fe_f (fel_cons (fe_t rfl) (fel_cons fe_c fel_nil)) (fun w' hS => cutE (hw.st hS) u 10 (by omega)) (fun c1 hc1 => ?_))
      refine tl_step rfl (oj_val (y_move (fe_t rfl)) ?_)
      refine tl_step rfl (oj_val (y_extract (fe_t rfl) rfl) ?_)
      refine tl_step rfl (oj_val (y_extract (fe_t rfl) rfl) ?_)
      refine tl_step rfl (oj_val (y_extract (fe_t rfl) rfl) ?_)
      refine tl_step rfl (oj_val (y_assign (fe_t rfl)) ?_)
      refine tl_step rfl (oj_val (y_assign (fe_t rfl)) ?_)
      refine tl_step rfl (oj_val (y_assign (fe_t rfl)) ?_)
      refine tl_nil ?_
      refine tx_then ?_
      refine tr_seq ?_
      refine tr_seq ?_
      refine tr_region ?_
      refine tl_step rfl (oj_val (y_move (fe_t rfl)) ?_)
      refine tl_step rfl (oj_val (y_not (fe_t rfl)) ?_)
      refine tl_step rfl (oj_val (y_move (fe_t rfl)) ?_)
      refine tl_split (d := 25) rfl (fun hq9 => ?_) (fun hq10 => ?_)
      · have hc9 : c1.2.2 = false := by simpa using hq9
        refine tl_skip rfl rfl rfl rfl ?_
        refine tl_skip rfl rfl rfl rfl ?_
        refine tl_skip rfl rfl rfl rfl ?_
        refine tl_skip rfl rfl rfl rfl ?_
        refine tl_step rfl (oj_val (y_pickt (fe_t rfl) fe_c) ?_)
        refine tl_nil ?_
        refine tx_then ?_
        refine tr_condt (fe_t rfl) ?_
        refine tr_seq ?_
        refine tr_add (r := vec 68 2 (.slice none 0 0) 0 []) vec_nil rfl ?_
        refine tr_region ?_
        refine tl_step rfl (oj_val (y_build (is := []) (vs := []) (cs := [.int .i64 0, .int .i64 0, .int .i64 0, .slice none 0 0]) rfl fel_nil (by kernel_rfl)) ?_)
        refine tl_step rfl (oj_val (y_move (fe_t rfl)) ?_)
        refine tl_step rfl (oj_storeW 3 Tryz.sizeOf52 (fe_t rfl) (fe_t rfl) rfl rfl rfl rfl rfl (?_))
        refine tl_step rfl (oj_val (y_assign (fe_t rfl)) ?_)
        refine tl_step rfl (oj_val (y_assign fe_c) ?_)
        refine tl_nil ?_
        refine tx_then ?_
        refine tr_ret ?_
        refine tx_then_ret ?_
        refine tx_in_ret ?_
        refine tx_then_ret ?_
        refine tx_then_ret ?_
        refine tx_in_ret ?_
        refine tx_then_ret ?_
        refine tx_ret (res3 Tryz.results15 (rok_b 3 Tryz.isAgg52 Tryz.sizeOf52 rfl rfl rfl) (rok_t rfl) (rok_t rfl)) (fun w' hS => ?_)
        exact ⟨(k, sc0, ⟨none, 0, 0, []⟩, 1), ⟨⟨rfl, rfl⟩, Nat.zero_le _, .inr ⟨rfl, rfl, rfl, hpr.symm.trans (by exact prs_miss hc1 hc9 hk9)⟩⟩, rfl, hS.pick [0] _ rfl (by decide)⟩
      · have hc9 : c1.2.2 = true := by simpa using hq10
        refine tl_want rfl rfl rfl (oj_val (y_move (fe_t rfl)) ?_)
        refine tl_want rfl rfl rfl (oj_val (y_move (fe_t rfl)) ?_)
        refine tl_want rfl rfl rfl (oj_call2 (call_rd k) (fe_t rfl) (fel_cons (fe_t rfl) (fel_cons (fe_t rfl) fel_nil)) (fun w' hS => rdE (k := k) (T := [_]) hw (hS.pick [1, 0, 2] _ rfl (by decide)) hz c1.1 (cut_len1 hc1 (by omega)) (by omega)) (fun r1 hr1 => ?_))
        refine tl_want rfl rfl rfl (oj_val (y_not (fe_t rfl)) ?_)
        refine tl_step rfl (oj_val (y_pickf (fe_t rfl) (fe_t rfl)) ?_)
        refine tl_nil ?_
        refine tx_then ?_
        refine tr_cond (fe_t rfl) (fun hq11 => ?_) (fun hq12 => ?_)
        · have hp9 : r1.1 = false := by simpa using hq11
          refine tr_seq ?_
          refine tr_add (r := vec 68 2 (.slice none 0 0) 0 []) vec_nil rfl ?_
          refine tr_region ?_
          refine tl_step rfl (oj_val (y_build (is := []) (vs := []) (cs := [.int .i64 0, .int .i64 0, .int .i64 0, .slice none 0 0]) rfl fel_nil (by kernel_rfl)) ?_)
          refine tl_step rfl (oj_val (y_move (fe_t rfl)) ?_)
          refine tl_step rfl (oj_storeW 3 Tryz.sizeOf52 (fe_t rfl) (fe_t rfl) rfl rfl rfl rfl rfl (?_))
          refine tl_step rfl (oj_val (y_assign (fe_t rfl)) ?_)
          refine tl_step rfl (oj_val (y_assign fe_c) ?_)
          refine tl_nil ?_
          refine tx_then ?_
          refine tr_ret ?_
          refine tx_then_ret ?_
          refine tx_in_ret ?_
          refine tx_then_ret ?_
          refine tx_then_ret ?_
          refine tx_in_ret ?_
          refine tx_then_ret ?_
          refine tx_ret (res3 Tryz.results15 (rok_b 3 Tryz.isAgg52 Tryz.sizeOf52 rfl rfl rfl) (rok_t rfl) (rok_t rfl)) (fun w' hS => ?_)
          exact ⟨(k, sc0, ⟨none, 0, 0, []⟩, 1), ⟨⟨rfl, rfl⟩, Nat.zero_le _, .inr ⟨rfl, rfl, rfl, hpr.symm.trans (by exact prs_bad hc1 hc9 hr1.2 hp9)⟩⟩, rfl, hS.pick [0] _ rfl (by decide)⟩
        · have hp9 : r1.1 = true := by simpa using hq12
          refine tr_skip ?_
          refine tx_then ?_
          refine tr_seq ?_
          refine tr_region ?_
          refine tl_step rfl (oj_val (y_move (fe_t rfl)) ?_)
          refine tl_step rfl (oj_val (y_assign (fe_t rfl)) ?_)
          refine tl_nil ?_
          refine tx_then ?_
          refine tr_region ?_
          refine tl_step rfl (oj_val (y_move (fe_t rfl)) ?_)
          refine tl_step rfl (oj_val (y_inc (fe_t rfl) fe_c (by omega)) ?_)
          refine tl_step rfl (oj_val (y_assign (fe_t rfl)) ?_)
          refine tl_nil ?_
          refine tx_in ?_
          refine tx_then ?_
          refine tr_region ?_
          refine tl_step rfl (oj_val (y_assign fe_f) ?_)
          refine tl_nil ?_
          apply tx_back4 (k + 1) (_) (r1.2.1) (_)
          · exact (cov_cons (by first | rfl | exact v_int (by omega) | exact v_bool (by simp [*])) (cov_cons (by first | rfl | exact v_int (by omega) | exact v_bool (by simp [*])) (cov_cons (by first | rfl | exact v_int (by omega) | exact v_bool (by simp [*])) (cov_nil))))
          · repeat (first | exact over_nil | refine over_put rfl ?_ | refine over_drop rfl ?_)
          · exact fun w h => h.pick [1, 0, 2] _ rfl (by decide)
          · exact prs_next hc1 hc9 hr1 hp9 hpr hsk hku
    · have hu9 : u = [] := Classical.not_not.1 hq8
      refine tr_exit ?_
      refine tx_then_exit ?_
      refine tx_then_exit ?_
      refine tx_in_exit ?_
      refine tx_then ?_
      refine tr_seq ?_
      refine tr_region ?_
      refine tl_step rfl (oj_val (y_ldbA 1 Tryz.isAgg52 Tryz.sizeOf52 (fe_t rfl) rfl rfl rfl) ?_)
      refine tl_step rfl (oj_storeW 2 Tryz.sizeOf52 (fe_t rfl) (fe_t rfl) rfl rfl rfl rfl rfl (?_))
      refine tl_step rfl (oj_val (y_assign fe_c) ?_)
      refine tl_step rfl (oj_val (y_assign fe_c) ?_)
      refine tl_nil ?_
      refine tx_then ?_
      refine tr_ret ?_
      refine tx_ret (res3 Tryz.results15 (rok_b 2 Tryz.isAgg52 Tryz.sizeOf52 rfl rfl rfl) (rok_t rfl) (rok_t rfl)) (fun w' hS => ?_)
      exact ⟨(0, s, z, 0), ⟨hz, show s.ops.length ≤ t.length by omega, .inl ⟨rfl, rfl, hpr.symm.trans (prs_end (by omega) hu9)⟩⟩, rfl, hS.pick [0] _ rfl (by decide)⟩

end Go.Proofs.YtoibebmhfcjpfaaGreatDoor.Bn
