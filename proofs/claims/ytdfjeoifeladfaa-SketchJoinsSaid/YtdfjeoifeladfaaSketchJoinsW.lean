/- The walk of the law SketchJoins. -/
import Derived.Test.YtdfjeoifeladfaaSkF
import Derived.Test.YtdfjeoifeladfaaSkG
import Derived.Test.YtdfjeoifeladfaaSkH
namespace Go.Proofs.Ytdfjeoifeladfaa.SketchJoins
open Go.RowKit Go.Proofs.Ytdfjeoifeladfaa.Sketch Go.Proofs.Ytdfjeoifeladfaa.Big

theorem walk (rows width r1 x1 r2 x2 : Int) (A B : Option Addr) (n m c d : Nat) (za zb : List Int) (w : World) (hr : RdI .i64 w A za) (hr' : RdI .i64 w B zb) (hn : za.length = n) (hm : zb.length = m) (ln : n ≤ 140737488355328) (lm : m ≤ 140737488355328) :
    Calls Try.prog 4 #[(.int .i64 rows), (.int .i64 width), .agg #[(.int .i64 r1), (.int .i64 x1), .slice A n c], .agg #[(.int .i64 r2), (.int .i64 x2), .slice B m d]] w fun e w' => e = .returned (.bool true) ∧ Below w.heap.size w w' := by
  by_cases h : (vright r1 x1 za && vright r2 x2 zb && r1 == r2 && x1 == x2) = false
  · have hbad : vright r1 x1 za = false ∨ (vright r1 x1 za = true ∧ vright r2 x2 zb = false) ∨ (vright r1 x1 za = true ∧ vright r2 x2 zb = true ∧ r1 ≠ r2) ∨ (vright r1 x1 za = true ∧ vright r2 x2 zb = true ∧ r1 = r2 ∧ x1 ≠ x2) := by
      cases h1 : vright r1 x1 za <;> cases h2 : vright r2 x2 zb <;> by_cases h3 : r1 = r2 <;> by_cases h4 : x1 = x2 <;> simp_all
    cases hd : dims rows width
    · exact E.to_bel (walk_bad_bad rows width r1 x1 r2 x2 A B n m c d za zb w hr hr' hn hm ln lm hd hbad)
    · exact E.to_bel (walk_ok_bad rows width r1 x1 r2 x2 A B n m c d za zb w hr hr' hn hm ln lm hd hbad)
  · simp only [Bool.not_eq_false, Bool.and_eq_true, beq_iff_eq] at h
    obtain ⟨⟨⟨va, vb⟩, rfl⟩, rfl⟩ := h
    have hl : n = m := by
      have h1 := va
      have h2 := vb
      simp only [vright, Bool.and_eq_true, beq_iff_eq] at h1 h2
      omega
    subst hl
    cases hd : dims rows width
    · cases hf : full za zb
      · exact E.to_bel (walk_bad_ok rows width r1 x1 A B n c d za zb w hr hr' hn hm ln hd va vb hf)
      · exact E.to_bel (walk_bad_full rows width r1 x1 A B n c d za zb w hr hr' hn hm ln hd va vb hf)
    · cases hf : full za zb
      · exact E.to_bel (walk_ok_ok rows width r1 x1 A B n c d za zb w hr hr' hn hm ln hd va vb hf)
      · exact E.to_bel (walk_ok_full rows width r1 x1 A B n c d za zb w hr hr' hn hm ln hd va vb hf)
end Go.Proofs.Ytdfjeoifeladfaa.SketchJoins
