/- Shots through a bucket: plain, for the walks by the engine. -/
import Derived.Test.YtdfjeoifeladfaaBucketPlaysM
import Derived.Test.YtdfjeoifeladfaaEA
namespace Go.Proofs.Ytdfjeoifeladfaa.Bucket
open Go.RowKit Go.Proofs.Ytdfjeoifeladfaa.E

section
variable {l : List (Int × Int)} {k : Nat} {b : Bkt} {s : PS}
theorem sorted_at (h : sorted l = true) (h0 : 0 < k) (h1 : k < l.length) : (l[k - 1]'(by omega)).1 ≤ l[k].1 := by
  obtain ⟨j, rfl⟩ : ∃ j, k = j + 1 := ⟨k - 1, by omega⟩
  exact (sorted_iff l).1 h j h1
theorem sorted_of (h : ∀ k, 0 < k → (h1 : k < l.length) → (l[k - 1]'(by omega)).1 ≤ l[k].1) : sorted l = true := (sorted_iff l).2 fun k hk => h (k + 1) (by omega) hk
theorem sorted_no (h0 : 0 < k) (h1 : k < l.length) (h : l[k].1 < (l[k - 1]'(by omega)).1) : sorted l = false := by
  cases hs : sorted l
  · rfl
  · have := sorted_at hs h0 h1
    omega
theorem pst_next (h : k < l.length) (hs : s = pst b (l.take k)) (h0 : s.2.2 = 0) : pst b (l.take (k + 1)) = ((take s.1 l[k].1 l[k].2).1, s.2.1 ++ [(take s.1 l[k].1 l[k].2).2.1], (take s.1 l[k].1 l[k].2).2.2) := by
  rw [pst_take h, ← hs, pnx, if_pos h0]
theorem pst_fault (hs : s = pst b (l.take k)) (h : s.2.2 ≠ 0) : pst b l = s := by
  rw [hs] at h ⊢
  exact pst_stuck h
theorem pst_err (h : k < l.length) (hs : s = pst b (l.take k)) (h0 : s.2.2 = 0) (he : (take s.1 l[k].1 l[k].2).2.2 ≠ 0) : (pst b l).2.2 = (take s.1 l[k].1 l[k].2).2.2 := by
  rw [pst_fault (pst_next h hs h0).symm he]
theorem pst_end (hs : s = pst b (l.take k)) (hk : l.length ≤ k) : s = pst b l := by rw [hs, List.take_of_length_le hk]
end
theorem takeE (b : Bkt) (sat sb : Int) (w : World) : Calls Try.prog 77 #[.agg #[(.int .i64 b.num), (.int .i64 b.den), (.int .i64 b.burst), (.int .i64 b.level), (.int .i64 b.at0)], .agg #[(.int .i64 sat), (.int .i64 sb)]] w fun e w' => e = .returned (.tuple #[.agg #[(.int .i64 ((take b sat sb).1.num)), (.int .i64 ((take b sat sb).1.den)), (.int .i64 ((take b sat sb).1.burst)), (.int .i64 ((take b sat sb).1.level)), (.int .i64 ((take b sat sb).1.at0))], .bool (take b sat sb).2.1, (.int .i64 ((take b sat sb).2.2))]) ∧ E.St w w' [] := of_bel (take_any b.num b.den b.burst b.level b.at0 sat sb w)
theorem itakeE (b : Bkt) (sat sb : Int) (w : World) : Calls Try.prog 25 #[.agg #[(.int .i64 b.num), (.int .i64 b.den), (.int .i64 b.burst), (.int .i64 b.level), (.int .i64 b.at0)], .agg #[(.int .i64 sat), (.int .i64 sb)]] w fun e w' => e = .returned (.tuple #[.agg #[(.int .i64 ((take b sat sb).1.num)), (.int .i64 ((take b sat sb).1.den)), (.int .i64 ((take b sat sb).1.burst)), (.int .i64 ((take b sat sb).1.level)), (.int .i64 ((take b sat sb).1.at0))], .bool (take b sat sb).2.1, (.int .i64 ((take b sat sb).2.2))]) ∧ E.St w w' [] := of_bel (itake_any b.num b.den b.burst b.level b.at0 sat sb w)
theorem irightE (num den burst : Int) (r : Bool) (w : World) (h : rng num den burst = r) : Calls Try.prog 24 #[.agg #[(.int .i64 num), (.int .i64 den), (.int .i64 burst), (.int .i64 0), (.int .i64 0)]] w fun e w' => e = .returned (.bool r) ∧ E.St w w' [] := by
  have := iright_any num den burst 0 0 w
  rw [bright0, h] at this
  exact of_bel this
theorem eq_bkt {x y : Operand} (p : Bool) (a b c d e a' b' c' d' e' : Int) (h : ((a == a') && ((b == b') && ((c == c') && ((d == d') && (e == e'))))) = p) (w : World) : (do eqGuard .eql 43 x y (.agg #[(.int .i64 a), (.int .i64 b), (.int .i64 c), (.int .i64 d), (.int .i64 e)]) (.agg #[(.int .i64 a'), (.int .i64 b'), (.int .i64 c'), (.int .i64 d'), (.int .i64 e')]); binOp .eql 43 (.agg #[(.int .i64 a), (.int .i64 b), (.int .i64 c), (.int .i64 d), (.int .i64 e)]) (.agg #[(.int .i64 a'), (.int .i64 b'), (.int .i64 c'), (.int .i64 d'), (.int .i64 e')]) : Sem Value).run Try.prog w = .ok (.bool p) w := by
  rw [← h]
  have e1 : ∀ x y, Op.equal 43 x y = Op.equalIn (9998 + 1 + 1) 43 x y := fun _ _ => rfl
  by_cases h1 : a = a' <;> by_cases h2 : b = b' <;> by_cases h3 : c = c' <;> by_cases h4 : d = d' <;> by_cases h5 : e = e' <;> simp [eqGuard, binOp, e1, go_sem, h1, h2, h3, h4, h5]
theorem neq_bkt {x y : Operand} (p : Bool) (a b c d e a' b' c' d' e' : Int) (h : (!((a == a') && ((b == b') && ((c == c') && ((d == d') && (e == e')))))) = p) (w : World) : (do eqGuard .neq 43 x y (.agg #[(.int .i64 a), (.int .i64 b), (.int .i64 c), (.int .i64 d), (.int .i64 e)]) (.agg #[(.int .i64 a'), (.int .i64 b'), (.int .i64 c'), (.int .i64 d'), (.int .i64 e')]); binOp .neq 43 (.agg #[(.int .i64 a), (.int .i64 b), (.int .i64 c), (.int .i64 d), (.int .i64 e)]) (.agg #[(.int .i64 a'), (.int .i64 b'), (.int .i64 c'), (.int .i64 d'), (.int .i64 e')]) : Sem Value).run Try.prog w = .ok (.bool p) w := by
  rw [← h]
  have e1 : ∀ x y, Op.equal 43 x y = Op.equalIn (9998 + 1 + 1) 43 x y := fun _ _ => rfl
  by_cases h1 : a = a' <;> by_cases h2 : b = b' <;> by_cases h3 : c = c' <;> by_cases h4 : d = d' <;> by_cases h5 : e = e' <;> simp [eqGuard, binOp, e1, go_sem, h1, h2, h3, h4, h5]
theorem neq_same {x y : Operand} (a : Bool) (w : World) : (do eqGuard .neq 4 x y (.bool a) (.bool a); binOp .neq 4 (.bool a) (.bool a) : Sem Value).run Try.prog w = .ok (.bool false) w := by
  have := run_neq_bool w 4 a a Try.underlying4
  simp only [beq_self_eq_true, Bool.not_true] at this
  simp [eqGuard, this]
theorem getB {l : List Bool} {k : Nat} (h : k < l.length) : (bools l)[k]? = some (.bool l[k]) := by simp [bools, h]
end Go.Proofs.Ytdfjeoifeladfaa.Bucket
