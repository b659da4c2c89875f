/- Walks: Shots through a meter. -/
import Derived.Test.YtdfjeoifeladfaaMeterPlaysM
import Derived.Test.YtdfjeoifeladfaaED
import Derived.Test.YtdfjeoifeladfaaEqE
namespace Go.Proofs.Ytdfjeoifeladfaa.Meter
open Go.RowKit Go.Proofs.Ytdfjeoifeladfaa.E

section
variable {l : List (Int × Int)} {k : Nat} {m : Mtr} {s : MS}
theorem mst_next (h : k < l.length) (hs : s = mst m (l.take k)) (h0 : s.2.2 = 0) : mst m (l.take (k + 1)) = ((col s.1 l[k].1 l[k].2 1).1, s.2.1 ++ [(col s.1 l[k].1 l[k].2 1).2.1], (col s.1 l[k].1 l[k].2 1).2.2) := by
  rw [mst_take h, ← hs, mnx, if_pos h0]
theorem mst_fault (hs : s = mst m (l.take k)) (h : s.2.2 ≠ 0) : mst m l = s := by
  rw [hs] at h ⊢
  exact mst_stuck h
theorem mst_err (h : k < l.length) (hs : s = mst m (l.take k)) (h0 : s.2.2 = 0) (he : (col s.1 l[k].1 l[k].2 1).2.2 ≠ 0) : (mst m l).2.2 = (col s.1 l[k].1 l[k].2 1).2.2 := by
  rw [mst_fault (mst_next h hs h0).symm he]
theorem mst_end (hs : s = mst m (l.take k)) (hk : l.length ≤ k) : s = mst m l := by rw [hs, List.take_of_length_le hk]
end
theorem eq_ints' (A B : Option Addr) (n m c d : Nat) (zs : List Int) (w : World) (h1 : Rd w A (zs.map (.int .i64))) (h2 : Rd w B (zs.map (.int .i64))) (hn : zs.length = n) (hm : n ≤ 140737488355328) (h : m = n) :
    Calls Try.prog 27 #[.slice A n c, .slice B m d] w fun e w' => e = .returned (.bool true) ∧ St w w' [] := by
  subst h
  exact eq_ints A B m c d zs w h1 h2 hn hm
def ints (l : List Int) : List Value := l.map (.int .i64)
theorem ints_app (l : List Int) (b : Int) : ints (l ++ [b]) = ints l ++ [.int .i64 b] := by simp [ints]
theorem eq_mtr {x y : Operand} (a b c d e f : Int) (w : World) : (do eqGuard .eql 23 x y (.agg #[(.int .i64 a), (.int .i64 b), (.int .i64 c), (.int .i64 d), (.int .i64 e), (.int .i64 f)]) (.agg #[(.int .i64 a), (.int .i64 b), (.int .i64 c), (.int .i64 d), (.int .i64 e), (.int .i64 f)]); binOp .eql 23 (.agg #[(.int .i64 a), (.int .i64 b), (.int .i64 c), (.int .i64 d), (.int .i64 e), (.int .i64 f)]) (.agg #[(.int .i64 a), (.int .i64 b), (.int .i64 c), (.int .i64 d), (.int .i64 e), (.int .i64 f)]) : Sem Value).run Try.prog w = .ok (.bool true) w := by
  have e1 : ∀ x y, Op.equal 23 x y = Op.equalIn (9998 + 1 + 1) 23 x y := fun _ _ => rfl
  simp [eqGuard, binOp, e1, go_sem]
theorem colourE (m : Mtr) (now b had : Int) (w : World) : Calls Try.prog 15 #[.agg #[(.int .i64 m.C), (.int .i64 m.B), (.int .i64 m.E), (.int .i64 m.F), (.int .i64 m.S), (.int .i64 m.T)], .agg #[(.int .i64 now), (.int .i64 b)], (.int .i64 had)] w fun e w' => e = .returned (.tuple #[.agg #[(.int .i64 ((col m now b had).1.C)), (.int .i64 ((col m now b had).1.B)), (.int .i64 ((col m now b had).1.E)), (.int .i64 ((col m now b had).1.F)), (.int .i64 ((col m now b had).1.S)), (.int .i64 ((col m now b had).1.T))], (.int .i64 ((col m now b had).2.1)), (.int .i64 ((col m now b had).2.2))]) ∧ St w w' [] := of_bel (colour_any m.C m.B m.E m.F m.S m.T now b had w)
theorem jcolourE (m : Mtr) (now b had : Int) (w : World) : Calls Try.prog 16 #[.agg #[(.int .i64 m.C), (.int .i64 m.B), (.int .i64 m.E), (.int .i64 m.F), (.int .i64 m.S), (.int .i64 m.T)], .agg #[(.int .i64 now), (.int .i64 b)], (.int .i64 had)] w fun e w' => e = .returned (.tuple #[.agg #[(.int .i64 ((col m now b had).1.C)), (.int .i64 ((col m now b had).1.B)), (.int .i64 ((col m now b had).1.E)), (.int .i64 ((col m now b had).1.F)), (.int .i64 ((col m now b had).1.S)), (.int .i64 ((col m now b had).1.T))], (.int .i64 ((col m now b had).2.1)), (.int .i64 ((col m now b had).2.2))]) ∧ St w w' [] := of_bel (jcolour_any m.C m.B m.E m.F m.S m.T now b had w)
theorem rightE {a b c d e f : Int} {r : Bool} (h : mright a b c d e f = r) (w : World) : Calls Try.prog 17 #[.agg #[(.int .i64 a), (.int .i64 b), (.int .i64 c), (.int .i64 d), (.int .i64 e), (.int .i64 f)]] w fun e w' => e = .returned (.bool r) ∧ St w w' [] := by
  have := right_any a b c d e f w
  rw [h] at this
  exact of_bel this
theorem jrghtE {a b c d e f : Int} {r : Bool} (h : mright a b c d e f = r) (w : World) : Calls Try.prog 18 #[.agg #[(.int .i64 a), (.int .i64 b), (.int .i64 c), (.int .i64 d), (.int .i64 e), (.int .i64 f)]] w fun e w' => e = .returned (.bool r) ∧ St w w' [] := by
  have := jright_any a b c d e f w
  rw [h] at this
  exact of_bel this

end Go.Proofs.Ytdfjeoifeladfaa.Meter
