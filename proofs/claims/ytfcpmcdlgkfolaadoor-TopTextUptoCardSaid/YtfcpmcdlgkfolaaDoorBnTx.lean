/- A text is what it says, plain: what is printed reads back; what lines begin with. -/
import Derived.Test.YtfcpmcdlgkfolaaDoorBnP
import Derived.Test.YtfcpmcdlgkfolaaDoorBnJ
import Derived.Test.YtfcpmcdlgkfolaaDoorBnAl
import Derived.Lib.Strings
namespace Go.Proofs.YtfcpmcdlgkfolaaDoor.Bn
open Go.RowKit Go.Lib Go.Proofs.YtfcpmcdlgkfolaaDoor.E Go.Proofs.YtfcpmcdlgkfolaaDoor.Pace Go.Proofs.YtfcpmcdlgkfolaaDoor.Bucket

theorem pr_err {l : List Int} {ops : List (Int × Int)} (h : ¬ (prR l ops).2 = 0) : (prR l ops).1 = [] := by
  unfold prR at h ⊢
  split
  · rename_i h1
    rw [if_pos h1] at h
    exact absurd rfl h
  · rfl
theorem opI_T {o : Nat × Nat} (h0 : 1 ≤ o.1) (h1 : o.1 ≤ 3) : opI ((o.1 : Int), (o.2 : Int)) = opT o ++ [10] := by
  obtain ⟨k, n⟩ := o
  simp only at h0 h1
  have e : zw (k : Int) = wordOf k ++ [32] := by rcases (show k = 1 ∨ k = 2 ∨ k = 3 by omega) with rfl | rfl | rfl <;> rfl
  simp only [opI, opT, e, itoa_nonneg]
  simp
theorem okI_nat {n : Int} (h : okI n = true) : ∃ m : Nat, n = m ∧ m ≤ 1099511627776 := by
  have := of_decide_eq_true h
  exact ⟨n.toNat, by omega, by omega⟩
theorem ops_nat : ∀ {ops : List (Int × Int)}, ops.all okO = true → ∃ l : List (Nat × Nat), opsI l = ops ∧ ∀ o ∈ l, (1 ≤ o.1 ∧ o.1 ≤ 3) ∧ o.2 ≤ 1099511627776
  | [], _ => ⟨[], rfl, fun o h => by cases h⟩
  | (k, n) :: ops, h => by
    simp only [List.all_cons, Bool.and_eq_true] at h
    obtain ⟨l, h1, h2⟩ := ops_nat h.2
    have h3 := h.1
    simp only [okO, Bool.and_eq_true, decide_eq_true_eq] at h3
    obtain ⟨m, rfl, hm⟩ := okI_nat h3.2
    refine ⟨(k.toNat, m) :: l, ?_, fun o ho => ?_⟩
    · rw [← h1]
      simp only [opsI, List.map_cons]
      rw [Int.toNat_of_nonneg (by omega)]
    · rcases List.mem_cons.1 ho with rfl | ho
      · exact ⟨by dsimp only; omega, hm⟩
      · exact h2 o ho
theorem flat_T {l : List (Nat × Nat)} (h : ∀ o ∈ l, (1 ≤ o.1 ∧ o.1 ≤ 3) ∧ o.2 ≤ 1099511627776) : (opsI l).flatMap opI = l.flatMap fun o => opT o ++ [10] := by
  induction l with
  | nil => rfl
  | cons o l ih =>
    have h1 := h o (List.mem_cons_self ..)
    have e : opsI (o :: l) = ((o.1 : Int), (o.2 : Int)) :: opsI l := rfl
    rw [e, List.flatMap_cons, List.flatMap_cons, ih (fun x hx => h x (List.mem_cons_of_mem _ hx)), opI_T h1.1.1 h1.1.2]
/-- What is printed reads back. -/
theorem pr_parse {a b c : Int} {ops : List (Int × Int)} (h : (prR [a, b, c] ops).2 = 0) : ∃ s : Sc, (a = s.num ∧ b = s.den ∧ c = s.burst ∧ ops = opsI s.ops) ∧ parse (prR [a, b, c] ops).1 = (0, some s) := by
  unfold prR at h ⊢
  split at h
  · rename_i hok
    rw [if_pos hok]
    simp only [prOk, List.all_cons, List.all_nil, Bool.and_true, Bool.and_eq_true] at hok
    obtain ⟨⟨ha, hb, hc⟩, ho⟩ := hok
    obtain ⟨x, rfl, hx⟩ := okI_nat ha
    obtain ⟨y, rfl, hy⟩ := okI_nat hb
    obtain ⟨z, rfl, hz⟩ := okI_nat hc
    obtain ⟨l, rfl, hl⟩ := ops_nat ho
    refine ⟨⟨x, y, z, l⟩, ⟨rfl, rfl, rfl, rfl⟩, ?_⟩
    have e : prT [(x : Int), (y : Int), (z : Int)] (opsI l) = printT x y z l := by
      simp only [prT, printT, flat_T hl, headI, headT, List.flatMap_cons, List.flatMap_nil, numI, itoa_nonneg]
      simp
    rw [e]
    exact parse_print hx hy hz hl
  · cases h
theorem pr_len {l : List Int} {ops : List (Int × Int)} : (prR l ops).1.length ≤ 5 + 22 * l.length + 27 * ops.length := by
  unfold prR
  split
  · rename_i h
    simp only [prOk, Bool.and_eq_true] at h
    have h1 := headI_len h.1
    have h2 := flat_len (f := opI) (g := okO) (m := 27) (fun _ h => opI_len h) h.2
    simp only [prT, List.length_append, List.length_cons]
    omega
  · simp
theorem pr_TOk {s : Sc} (hp : parse (prR [(s.num : Int), (s.den : Int), (s.burst : Int)] (opsI s.ops)).1 = (0, some s)) (hm : s.ops.length ≤ 1048576) : TOk (prR [(s.num : Int), (s.den : Int), (s.burst : Int)] (opsI s.ops)).1 := by
  refine ⟨?_, fun k r hr => ?_⟩
  · have := pr_len (l := [(s.num : Int), (s.den : Int), (s.burst : Int)]) (ops := opsI s.ops)
    rw [opsI_len] at this
    simp only [List.length_cons, List.length_nil] at this
    omega
  · rw [hp] at hr
    obtain rfl := Option.some.inj (Prod.mk.inj hr).2
    exact hm

theorem pre_app (p l : List UInt8) : hasPrefix (p ++ l) p = true := by simp [hasPrefix]
theorem pre_err {k : Int} {a : Ans} : hasPrefix (ansL k a) sError = decide (¬ a.1 = 0) := by
  by_cases h : a.1 = 0
  · rw [decide_eq_false (fun e => e h)]
    by_cases hk : k = 3
    · rw [ans_sent h hk]
      have : joinN sSent a.2 = sSent ++ joinN [] a.2 := by have := joinN_pre sSent [] a.2; simpa using this
      rw [this]
      rfl
    · rw [ans_ok h hk]
      rfl
  · rw [ans_err h, pre_app, decide_eq_true h]
theorem pre_sent {k : Int} {a : Ans} : hasPrefix (ansL k a) sSent = (decide (a.1 = 0) && decide (k = 3)) := by
  by_cases h : a.1 = 0
  · by_cases hk : k = 3
    · rw [ans_sent h hk]
      have : joinN sSent a.2 = sSent ++ joinN [] a.2 := by have := joinN_pre sSent [] a.2; simpa using this
      rw [this, pre_app, decide_eq_true h, decide_eq_true hk]
      rfl
    · rw [ans_ok h hk, decide_eq_true h, decide_eq_false hk]
      rfl
  · rw [ans_err h, decide_eq_false h]
    rfl
theorem pre_left {s : Pc} : hasPrefix (leftL s) ([108, 101, 102, 116, 32] ++ itoa (s.zs.length : Int) ++ [32]) = true := by
  have e : leftL s = ([108, 101, 102, 116, 32] ++ itoa (s.zs.length : Int) ++ [32]) ++ (itoa s.drops ++ 32 :: (itoa s.sent ++ 32 :: (itoa s.b.level ++ 32 :: itoa s.b.at0))) := by
    simp [leftL, joinN, sLeft]
  rw [e, pre_app]
theorem tell_at {t : List UInt8} {s : Sc} {q : Pc × List PA × Vs × Vs} (hp : parse t = (0, some s)) (hk : okb s.num s.den s.burst = true) (h : PlIs s q) : (tell t).1.length = s.ops.length + 1 ∧ (∀ k, (hk : k < s.ops.length) → (tell t).1.getD k [] = ansL ((s.ops[k].1 : Nat) : Int) (PA.a (q.2.1.getD k PA.nil))) ∧ (tell t).1.getD s.ops.length [] = leftL q.1 := by
  have hl := lines_len h
  rw [tell_ok hp hk h]
  refine ⟨by simp [hl], fun k hkk => ?_, ?_⟩
  · have h1 := line_next h hkk
    have h2 : (tellL (opsI s.ops) (q.2.1.map PA.a)).take (k + 1) = (tellL (opsI s.ops) (q.2.1.map PA.a)).take k ++ [(tellL (opsI s.ops) (q.2.1.map PA.a))[k]'(by omega)] := List.take_succ_eq_append_getElem (by omega)
    rw [h2] at h1
    have h3 := List.append_cancel_left h1
    rw [List.getD_eq_getElem?_getD, List.getElem?_append_left (by omega), List.getElem?_eq_getElem (by omega)]
    exact (List.cons.inj h3).1
  · rw [List.getD_eq_getElem?_getD, List.getElem?_append_right (by omega), hl]
    simp
end Go.Proofs.YtfcpmcdlgkfolaaDoor.Bn
