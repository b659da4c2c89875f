/- What bench tells, plain. -/
import Derived.Test.YtfcpmcdlgkfolaaDoorBnK
import Derived.Test.YtfcpmcdlgkfolaaDoorPaR
import Derived.Lib.ItoaLen
import Derived.Test.YtfcpmcdlgkfolaaDoorBnV
import Derived.Test.YtfcpmcdlgkfolaaDoorPaG
namespace Go.Proofs.YtfcpmcdlgkfolaaDoor.Bn
open Go.Lib Go.Proofs.YtfcpmcdlgkfolaaDoor.Pace Go.Proofs.YtfcpmcdlgkfolaaDoor.Bucket

def sOk : List UInt8 := [111, 107]
def sError : List UInt8 := [101, 114, 114, 111, 114, 32]
def sSent : List UInt8 := [115, 101, 110, 116]
def sLeft : List UInt8 := [108, 101, 102, 116]
def joinN (l : List UInt8) (ns : List Int) : List UInt8 := ns.foldl (fun l n => l ++ 32 :: itoa n) l
def ansL (k : Int) (a : Ans) : List UInt8 := if a.1 = 0 then (if k = 3 then joinN sSent a.2 else sOk) else sError ++ itoa a.1
def leftL (s : Pc) : List UInt8 := joinN sLeft [(s.zs.length : Int), s.drops, s.sent, s.b.level, s.b.at0]
def opsI (l : List (Nat × Nat)) : List (Int × Int) := l.map fun o => ((o.1 : Int), (o.2 : Int))
def tellL (ks : List (Int × Int)) (an : List Ans) : List (List UInt8) := List.zipWith (fun o a => ansL o.1 a) ks an
def told (s : Sc) : Pc × List Ans := run ⟨s.num, s.den, s.burst, (s.burst : Int) * s.den, 0⟩ (opsI s.ops)
/-- The lines and the error. -/
def tell (t : List UInt8) : List (List UInt8) × Int := match parse t with
  | (_, none) => ([], 1)
  | (_, some s) => if okb s.num s.den s.burst = true then (tellL (opsI s.ops) (told s).2 ++ [leftL (told s).1], 0) else ([], 2)

theorem joinN_snoc (l : List UInt8) (ns : List Int) (n : Int) : joinN l (ns ++ [n]) = joinN l ns ++ 32 :: itoa n := by simp [joinN]
theorem joinN_pre (l m : List UInt8) : ∀ ns : List Int, joinN (l ++ m) ns = l ++ joinN m ns
  | [] => rfl
  | n :: ns => by
    have := joinN_pre l (m ++ 32 :: itoa n) ns
    simp only [joinN, List.foldl_cons, List.append_assoc] at this ⊢
    exact this

theorem itoa_le {n : Int} (h0 : -9223372036854775808 ≤ n) (h1 : n ≤ 9223372036854775807) : (itoa n).length ≤ 21 := itoa_length_le n h0 h1
def i64 (n : Int) : Prop := -9223372036854775808 ≤ n ∧ n ≤ 9223372036854775807
theorem joinN_len : ∀ (ns : List Int) (l : List UInt8), (∀ n ∈ ns, i64 n) → (joinN l ns).length ≤ l.length + 22 * ns.length
  | [], l, _ => by simp [joinN]
  | n :: ns, l, h => by
    have h1 := itoa_le (h n (List.mem_cons_self ..)).1 (h n (List.mem_cons_self ..)).2
    have h2 := joinN_len ns (l ++ 32 :: itoa n) (fun x hx => h x (List.mem_cons_of_mem _ hx))
    have h3 : joinN l (n :: ns) = joinN (l ++ 32 :: itoa n) ns := rfl
    rw [h3]
    simp only [List.length_append, List.length_cons] at h2 ⊢
    omega
theorem joinN_take {l : List UInt8} {ns : List Int} {i : Nat} (h : i < ns.length) : joinN l (ns.take (i + 1)) = joinN l (ns.take i) ++ ([32] ++ itoa ns[i]) := by
  rw [List.take_succ_eq_append_getElem h, joinN_snoc]
  rfl

/-! ### What the answers are made of -/
theorem does_ans {m : Nat} {s : Pc} (h : Gd m s) (k v : Int) : (0 ≤ (does s k v).2.1 ∧ (does s k v).2.1 ≤ 5) ∧ ∀ x ∈ (does s k v).2.2, 1 ≤ x ∧ x ≤ 1500 := by
  have hall := (h.parts).2.1
  unfold does
  split
  · split
    · exact ⟨by dsimp only; decide, fun x hx => by cases hx⟩
    · split
      · exact ⟨by dsimp only; decide, fun x hx => by cases hx⟩
      · exact ⟨by dsimp only; decide, fun x hx => by cases hx⟩
  · split
    · split
      · exact ⟨by dsimp only; decide, fun x hx => by cases hx⟩
      · exact ⟨by dsimp only; decide, fun x hx => by cases hx⟩
    · split
      · split
        · exact ⟨by dsimp only; decide, fun x hx => by cases hx⟩
        · exact ⟨by dsimp only; decide, fun x hx => Ring.okp_iff.1 (List.all_eq_true.1 hall x (List.mem_of_mem_take hx))⟩
      · exact ⟨by dsimp only; decide, fun x hx => by cases hx⟩
theorem run_ans {b : Bkt} (hb : b.right = true) {l : List (Int × Int)} : ∀ k, k ≤ l.length → ∀ a ∈ (run b (l.take k)).2, (0 ≤ a.1 ∧ a.1 ≤ 5) ∧ ∀ x ∈ a.2, 1 ≤ x ∧ x ≤ 1500
  | 0, _, a, ha => by
    rw [run_zero] at ha
    cases ha
  | k + 1, hk, a, ha => by
    rw [run_take (by omega)] at ha
    simp only [List.mem_append, List.mem_singleton] at ha
    rcases ha with ha | rfl
    · exact run_ans hb k (by omega) a ha
    · exact does_ans (run_good hb k (by omega)).1 _ _
/-- The numbers of the last line. -/
def lefts (s : Pc) : List Int := [(s.zs.length : Int), s.drops, s.sent, s.b.level, s.b.at0]
theorem leftL_eq (s : Pc) : leftL s = joinN sLeft (lefts s) := rfl
theorem lefts_ok {m : Nat} {s : Pc} (h : Gd m s) (hm : m ≤ 1048576) : ∀ n ∈ lefts s, i64 n := by
  obtain ⟨q1, _, _, _⟩ := h.parts
  obtain ⟨_, _, _, ⟨b1, b2, b3⟩, b4, b5⟩ := bparts h.b
  have d0 := h.d0
  have d1 := h.d1
  have s0 := h.s0
  have s1 := h.s1
  intro n hn
  simp only [lefts, List.mem_cons, List.not_mem_nil, or_false] at hn
  unfold i64
  rcases hn with rfl | rfl | rfl | rfl | rfl <;> omega

theorem tellL_len {ks : List (Int × Int)} {an : List Ans} (h : an.length = ks.length) : (tellL ks an).length = an.length := by
  simp [tellL, h]
theorem tellL_next {ks : List (Int × Int)} {an : List Ans} {k : Nat} (h : an.length = ks.length) (hk : k < an.length) : (tellL ks an).take (k + 1) = (tellL ks an).take k ++ [ansL (ks[k]'(by omega)).1 an[k]] := by
  rw [List.take_succ_eq_append_getElem (by rw [tellL_len h]; exact hk)]
  simp [tellL]
theorem ans_err {k : Int} {a : Ans} (h : ¬ a.1 = 0) : ansL k a = sError ++ itoa a.1 := if_neg h
theorem ans_sent {k : Int} {a : Ans} (h : a.1 = 0) (hk : k = 3) : ansL k a = joinN sSent a.2 := by rw [ansL, if_pos h, if_pos hk]
theorem ans_ok {k : Int} {a : Ans} (h : a.1 = 0) (hk : ¬ k = 3) : ansL k a = sOk := by rw [ansL, if_pos h, if_neg hk]

/-! ### The text of `alive` -/
def aliveT : List UInt8 := [114, 97, 116, 101, 32, 49, 32, 49, 32, 49, 53, 48, 48, 10, 105, 110, 32, 55, 48, 48, 10, 112, 111, 108, 108, 32, 54, 57, 57, 10, 112, 111, 108, 108, 32, 55, 48, 48, 10]
theorem dec3 {a b c : Nat} (ha : 1 ≤ a) (ha9 : a ≤ 9) (hb : b ≤ 9) (hc : c ≤ 9) : itoa ((100 * a + 10 * b + c : Nat) : Int) = [UInt8.ofNat (48 + a), UInt8.ofNat (48 + b), UInt8.ofNat (48 + c)] := by
  rw [itoa_nonneg, decDigits, dif_neg (by omega), decDigits, dif_neg (by omega), decDigits, dif_pos (by omega)]
  have h1 : (100 * a + 10 * b + c) / 10 / 10 = a := by omega
  have h2 : (100 * a + 10 * b + c) / 10 % 10 = b := by omega
  have h3 : (100 * a + 10 * b + c) % 10 = c := by omega
  rw [h1, h2, h3]
  rfl
theorem dec1 {a : Nat} (ha : a ≤ 9) : itoa (a : Int) = [UInt8.ofNat (48 + a)] := by rw [itoa_nonneg, decDigits, dif_pos (by omega)]
theorem alive_parse : parse aliveT = (0, some ⟨1, 1, 1500, [(1, 700), (3, 699), (3, 700)]⟩) := by
  rfl
theorem alive_tell : tell aliveT = ([sOk, sSent, sSent ++ [32, 55, 48, 48], sLeft ++ [32, 48, 32, 48, 32, 55, 48, 48, 32, 56, 48, 48, 32, 48]], 0) := by
  have e0 : itoa 0 = [48] := dec1 (a := 0) (by omega)
  have e7 : itoa 700 = [55, 48, 48] := dec3 (a := 7) (b := 0) (c := 0) (by omega) (by omega) (by omega) (by omega)
  have e8 : itoa 800 = [56, 48, 48] := dec3 (a := 8) (b := 0) (c := 0) (by omega) (by omega) (by omega) (by omega)
  have ht : told ⟨1, 1, 1500, [(1, 700), (3, 699), (3, 700)]⟩ = (⟨[], 0, ⟨1, 1, 1500, 800, 0⟩, 700⟩, [(0, []), (0, []), (0, [700])]) := by rfl
  have hk : okb ((1 : Nat) : Int) ((1 : Nat) : Int) ((1500 : Nat) : Int) = true := by decide
  unfold tell
  rw [alive_parse]
  simp only
  rw [if_pos hk, ht]
  simp [tellL, opsI, ansL, leftL, joinN, e0, e7, e8]

end Go.Proofs.YtfcpmcdlgkfolaaDoor.Bn

namespace Go.Proofs.YtfcpmcdlgkfolaaDoor.Bn
open Go.RowKit Go.Lib Go.Proofs.YtfcpmcdlgkfolaaDoor.E Go.Proofs.YtfcpmcdlgkfolaaDoor.Pace Go.Proofs.YtfcpmcdlgkfolaaDoor.Bucket

theorem cP_len (l : List PA) : (l.flatMap cP).length = l.length * 2 := by
  induction l with
  | nil => rfl
  | cons a l ih => rw [List.flatMap_cons, List.length_append, ih]; simp [cP]; omega
theorem ops_I (l : List (Nat × Nat)) : l.flatMap c2 = (opsI l).flatMap Go.Proofs.YtfcpmcdlgkfolaaDoor.c2 := by
  induction l with
  | nil => rfl
  | cons a l ih => rw [List.flatMap_cons, ih]; rfl
theorem opsI_len (l : List (Nat × Nat)) : (opsI l).length = l.length := by simp [opsI]
theorem okb_iff {a b c : Int} : okb a b c = true ↔ rng a b c = true ∧ 1500 ≤ c := by simp [okb]
/-- What pace.Play answers. -/
abbrev PlIs (s : Sc) (q : Pc × List PA × Vs × Vs) : Prop := run (⟨s.num, s.den, s.burst, (s.burst : Int) * s.den, 0⟩ : Bkt) (opsI s.ops) = (q.1, q.2.1.map PA.a) ∧ q.2.2.1.n = q.1.zs.length ∧ q.2.2.1.xs = cI q.1.zs ∧ q.2.2.2.n = q.2.1.length ∧ q.2.2.2.xs = q.2.1.flatMap cP ∧ q.2.1.length = s.ops.length
theorem PlIs.told {s : Sc} {q : Pc × List PA × Vs × Vs} (h : PlIs s q) : told s = (q.1, q.2.1.map PA.a) := h.1
theorem tell_ok {t : List UInt8} {s : Sc} {q : Pc × List PA × Vs × Vs} (hp : parse t = (0, some s)) (hk : okb s.num s.den s.burst = true) (h : PlIs s q) : tell t = (tellL (opsI s.ops) (q.2.1.map PA.a) ++ [leftL q.1], 0) := by
  unfold tell
  rw [hp]
  simp only
  rw [if_pos hk, h.told]
theorem tell_no {t : List UInt8} {s : Sc} (hp : parse t = (0, some s)) (hk : okb s.num s.den s.burst = false) : tell t = ([], 2) := by
  unfold tell
  rw [hp]
  simp only
  rw [if_neg (by rw [hk]; decide)]
theorem tell_bad {t : List UInt8} {k : Nat} (hp : parse t = (k, none)) : tell t = ([], 1) := by
  unfold tell
  rw [hp]
theorem parse_zero {t : List UInt8} {k : Nat} {s : Sc} (h : parse t = (k, some s)) : k = 0 := by
  unfold parse prs at h
  split at h
  · cases (Prod.mk.inj h).2
  · unfold fin at h
    split at h
    · exact (Prod.mk.inj h).1.symm
    · cases (Prod.mk.inj h).2
theorem prsL_ops : ∀ (ls : List (List UInt8)) (k : Nat) (s r : Sc) (j : Nat), prsL k s ls = (j, some r) → r.ops.length ≤ s.ops.length + ls.length
  | [], k, s, r, j, h => by
    simp only [prsL, Prod.mk.injEq, Option.some.injEq] at h
    rw [h.2]
    omega
  | l :: ls, k, s, r, j, h => by
    unfold prsL at h
    split at h
    · cases (Prod.mk.inj h).2
    · rename_i u hu
      have h1 := read_more hu
      have h2 := prsL_ops ls (k + 1) u r j h
      simp only [List.length_cons]
      omega
theorem lines_le : ∀ t : List UInt8, (lines t).1.length ≤ t.length
  | [] => Nat.le_refl _
  | b :: t => by
    have := lines_le t
    unfold lines
    split
    · simp; omega
    · split
      · simp
      · rename_i w ws h
        rw [h] at this
        simp at this ⊢
        omega
theorem parse_ops {t : List UInt8} {k : Nat} {s : Sc} (h : parse t = (k, some s)) : s.ops.length ≤ t.length := by
  unfold parse prs at h
  split at h
  · cases (Prod.mk.inj h).2
  · rename_i j x hx
    unfold fin at h
    split at h
    · have h1 := prsL_ops _ _ _ _ _ hx
      have h2 := lines_le t
      obtain rfl : x = s := Option.some.inj (Prod.mk.inj h).2
      simp only [sc0, List.length_nil] at h1
      omega
    · cases (Prod.mk.inj h).2
/-- A text that is not too long, of a script that is not. -/
structure TOk (t : List UInt8) : Prop where
  len : t.length ≤ 1000000000
  ops : ∀ k s, parse t = (k, some s) → s.ops.length ≤ 1048576
theorem TOk.of {t : List UInt8} (h : t.length ≤ 1048576) : TOk t := ⟨by omega, fun k s hp => by have := parse_ops hp; omega⟩
theorem alive_TOk : TOk aliveT := TOk.of (by decide)
theorem PIs.ok {t : List UInt8} {s : Sc} {p : Nat × Sc × Vs × Nat} (h : PIs t p) (hp : parse t = (0, some s)) : p.2.1 = s ∧ p.2.2.2 = 0 := by
  rcases h.2.2 with ⟨a1, _, a3⟩ | ⟨_, _, _, a3⟩ <;> rw [hp] at a3
  · exact ⟨(Option.some.inj (Prod.mk.inj a3).2).symm, a1⟩
  · cases (Prod.mk.inj a3).2
theorem PIs.bad {t : List UInt8} {k : Nat} {p : Nat × Sc × Vs × Nat} (h : PIs t p) (hp : parse t = (k, none)) : p.2.2.2 = 1 := by
  rcases h.2.2 with ⟨_, _, a3⟩ | ⟨a1, _, _, _⟩
  · rw [hp] at a3
    cases (Prod.mk.inj a3).2
  · exact a1
theorem PlIs.good {s : Sc} {q : Pc × List PA × Vs × Vs} (h : PlIs s q) (hk : okb s.num s.den s.burst = true) : Gd s.ops.length q.1 := by
  have h1 := (run_good (start_right (okb_iff.1 hk).1) (l := opsI s.ops) s.ops.length (by rw [opsI_len]; exact Nat.le_refl _)).1
  rw [← opsI_len, List.take_length] at h1
  have h2 := h.1
  rw [h2] at h1
  rwa [opsI_len] at h1
theorem PlIs.ans {s : Sc} {q : Pc × List PA × Vs × Vs} (h : PlIs s q) (hk : okb s.num s.den s.burst = true) {k : Nat} (hkl : k < q.2.1.length) : (0 ≤ (q.2.1.getD k PA.nil).er ∧ (q.2.1.getD k PA.nil).er ≤ 5) ∧ (∀ x ∈ (q.2.1.getD k PA.nil).xs, 1 ≤ x ∧ x ≤ 1500) ∧ (q.2.1.getD k PA.nil).xs.length ≤ 100 := by
  have h1 := run_ans (start_right (okb_iff.1 hk).1) (l := opsI s.ops) (opsI s.ops).length (Nat.le_refl _) (PA.a (q.2.1.getD k PA.nil)) (by
    rw [List.take_length, h.1]
    rw [List.getD_eq_getElem?_getD, List.getElem?_eq_getElem hkl]
    exact List.mem_map.2 ⟨_, List.getElem_mem hkl, rfl⟩)
  exact ⟨h1.1, h1.2, ans_short (start_right (okb_iff.1 hk).1) h.1 k hkl⟩
theorem line_next {s : Sc} {q : Pc × List PA × Vs × Vs} (h : PlIs s q) {k : Nat} (hk : k < s.ops.length) : (tellL (opsI s.ops) (q.2.1.map PA.a)).take (k + 1) = (tellL (opsI s.ops) (q.2.1.map PA.a)).take k ++ [ansL ((s.ops[k].1 : Nat) : Int) (PA.a (q.2.1.getD k PA.nil))] := by
  have hl := h.2.2.2.2.2
  rw [tellL_next (by rw [List.length_map, opsI_len, hl]) (by rw [List.length_map, hl]; exact hk)]
  have e1 : q.2.1.getD k PA.nil = q.2.1[k]'(by omega) := by simp [List.getD_eq_getElem?_getD, hl, hk]
  rw [e1]
  simp [opsI]
theorem lines_len {s : Sc} {q : Pc × List PA × Vs × Vs} (h : PlIs s q) : (tellL (opsI s.ops) (q.2.1.map PA.a)).length = s.ops.length := by
  rw [tellL_len (by rw [List.length_map, opsI_len, h.2.2.2.2.2]), List.length_map, h.2.2.2.2.2]
theorem getK {ops : List (Nat × Nat)} {xs : List Value} (hx : xs = ops.flatMap c2) {k : Nat} (h : k < ops.length) : xs[k * 2 + 0]? = some (.int .i64 (((ops[k].1 : Nat) : Int))) := by
  rw [hx]
  exact getF (c := c2) (fun _ => rfl) h 0 _ rfl
theorem getE {n : Nat} {s : Pc} {q : Vs} (hq : q.n = s.zs.length) {i : Nat} (h : i < 5) : ([(.int .i64 ((q.n : Int))), (.int .i64 s.drops), (.int .i64 s.sent), (.int .i64 s.b.level), (.int .i64 s.b.at0)] : List Value)[i]? = some (.int .i64 ((lefts s)[i]'h)) := by
  rcases (show i = 0 ∨ i = 1 ∨ i = 2 ∨ i = 3 ∨ i = 4 by omega) with rfl | rfl | rfl | rfl | rfl
  · simp [lefts, hq]
  · rfl
  · rfl
  · rfl
  · rfl
theorem playE (s : Sc) (A : Option Addr) (n c : Nat) (w : World) (hr : Rd w A (s.ops.flatMap c2)) (hn : s.ops.length = n) (hm : n ≤ 1048576) (hk : okb s.num s.den s.burst = true) :
    Calls Tryd.prog 18 #[(.int .i64 ((s.num : Int))), (.int .i64 ((s.den : Int))), (.int .i64 ((s.burst : Int))), .slice A n c] w fun e w' => ∃ q : Pc × List PA × Vs × Vs, PlIs s q ∧ e = .returned (.tuple #[.slice q.2.2.2.A q.2.2.2.n q.2.2.2.c, .agg #[.slice q.2.2.1.A q.2.2.1.n q.2.2.1.c, (.int .i64 100), (.int .i64 60000), (.int .i64 q.1.drops), (.int .i64 q.1.b.num), (.int .i64 q.1.b.den), (.int .i64 q.1.b.burst), (.int .i64 q.1.b.level), (.int .i64 q.1.b.at0), (.int .i64 q.1.sent)], (.int .i64 0)]) ∧ St w w' [vec 3 1 (.slice q.2.2.1.A q.2.2.1.n q.2.2.1.c) q.2.2.1.n q.2.2.1.xs, vec 49 2 (.slice q.2.2.2.A q.2.2.2.n q.2.2.2.c) q.2.2.2.n q.2.2.2.xs, subs 3 1 (q.2.1.map PA.v)] :=
  (play_ok s.num s.den s.burst A n c (opsI s.ops) w (ops_I s.ops ▸ hr) (by rw [opsI_len]; exact hn) hm (okb_iff.1 hk).1 (okb_iff.1 hk).2).mono fun e w' ⟨q, ⟨a1, a2, a3, a4, a5, a6⟩, he, hS⟩ => ⟨q, ⟨a1, a2, a3, a4, a5, a6.trans hn.symm⟩, he, hS⟩
end Go.Proofs.YtfcpmcdlgkfolaaDoor.Bn
