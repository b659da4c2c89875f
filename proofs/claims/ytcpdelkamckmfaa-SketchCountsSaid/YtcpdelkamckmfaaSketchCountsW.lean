/- The walk of the law SketchCounts. -/
import Derived.Test.YtcpdelkamckmfaaSkL
namespace Go.Proofs.Ytcpdelkamckmfaa.SketchCounts
open Go.RowKit

theorem walk (r width : Int) (A : Option Addr) (n c : Nat) (zs : List Int) (row id nn : Int) (cf : Bool) (w : World) (hr : Rd w A (zs.map (.int .i64))) (hn : zs.length = n) (hm : n ≤ 140737488355328) (i0 : 0 ≤ id) (i1 : id ≤ 18446744073709551615) :
    Calls Try.prog 8 #[.agg #[(.int .i64 r), (.int .i64 width), .slice A n c], (.int .i64 row), .int .u64 id, (.int .i64 nn), .bool cf] w fun e w' => e = .returned (.bool true) ∧ Below w.heap.size w w' := by
  refine E.to_bel ?_
  have i2 : id < 18446744073709551616 := by omega
  cases va : Sketch.vright r width zs
  · by_cases hp : (0 ≤ row ∧ row ≤ 7) ∧ 1 ≤ width ∧ width ≤ 64
    · exact Frac.law_p_bad A n c zs w hr hn va i0 i2 hp hm
    · exact Frac.law_x_bad A n c zs w hr hn va i0 i2 (by omega) hm
  · obtain ⟨⟨d0, d1⟩, hw, _⟩ := Frac.vright_facts va
    obtain ⟨R, rfl⟩ := Int.eq_ofNat_of_zero_le (show 0 ≤ r by omega)
    by_cases hb : nn < 0 ∨ 1073741824 < nn
    · by_cases hp : (0 ≤ row ∧ row ≤ 7) ∧ 1 ≤ width ∧ width ≤ 64
      · exact Frac.law_p_rng R A n c zs w hr hn va i0 i2 hp hb
      · exact Frac.law_x_rng R A n c zs w hr hn va i0 i2 (by omega) hb
    · cases hf : Big.bigs zs (Big.nw cf (Big.least zs width id R) nn) width id R
      · by_cases hp : (0 ≤ row ∧ row ≤ 7) ∧ 1 ≤ width ∧ width ≤ 64
        · exact Frac.law_p_ok R A n c zs w hr hn va i0 i2 hp (by omega) (by omega) hf
        · exact Frac.law_x_ok R A n c zs w hr hn va i0 i2 (by omega) (by omega) (by omega) hf
      · by_cases hp : (0 ≤ row ∧ row ≤ 7) ∧ 1 ≤ width ∧ width ≤ 64
        · exact Frac.law_p_full R A n c zs w hr hn va i0 i2 hp (by omega) (by omega) hf
        · exact Frac.law_x_full R A n c zs w hr hn va i0 i2 (by omega) (by omega) (by omega) hf
end Go.Proofs.Ytcpdelkamckmfaa.SketchCounts
