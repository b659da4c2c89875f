/- Fractions of small numbers: Right. -/
import Derived.Test.YtpknjfeiiaopgaaBV
namespace Go.Proofs.Ytpknjfeiiaopgaa.Frac
open Go.RowKit Go.Proofs.Ytpknjfeiiaopgaa.E Go.Proofs.Ytpknjfeiiaopgaa.Big

def bright (n d : Int) : Bool := decide (0 < d ∧ d ≤ 1073741824 ∧ n ≤ 1073741824 ∧ -1073741824 ≤ n)
theorem bright_iff {n d : Int} : bright n d = true ↔ 0 < d ∧ d ≤ 1073741824 ∧ n ≤ 1073741824 ∧ -1073741824 ≤ n := by simp [bright]
/-- In lowest terms, if that is small enough. -/
def lo (n d : Int) : Int × Int × Int := if bright (n.tdiv (Int.gcd n d : Int)) (d.tdiv (Int.gcd n d : Int)) then (n.tdiv (Int.gcd n d : Int), d.tdiv (Int.gcd n d : Int), 0) else (0, 0, 4)
def cmpv (n d n' d' : Int) : Int := if n * d' < n' * d then -1 else if n' * d < n * d' then 1 else 0
theorem tdiv_bd {a : Int} (b : Int) : (a.tdiv b).natAbs ≤ a.natAbs := by
  have h : (a.tdiv b).natAbs = a.natAbs / b.natAbs := Int.natAbs_tdiv a b
  rw [h]; exact Nat.div_le_self _ _
theorem tmod_bd {a b : Int} (hb : b ≠ 0) : (a.tmod b).natAbs < b.natAbs := by
  have h : (a.tmod b).natAbs = a.natAbs % b.natAbs := Int.natAbs_tmod a b
  rw [h]; exact Nat.mod_lt _ (by omega)
theorem gcd_tmod (a b : Int) : Int.gcd b (a.tmod b) = Int.gcd a b := by
  have h : (a.tmod b).natAbs = a.natAbs % b.natAbs := Int.natAbs_tmod a b
  unfold Int.gcd
  rw [h, Nat.gcd_comm b.natAbs, ← Nat.gcd_rec, Nat.gcd_comm]
section
variable {P : Program} {N : Nat} {w0 : World} {F : Frm} {L : List Res} {d : Option Tmp} {x y : Operand} {ty t t' : TypeId} {pos : String} {af : Array Edge} {gd : Option (Nat × Bool)} {k : IntKind} {a b : Int}
theorem y_remt (hx : FE N F x (.int k a)) (hy : FE N F y (.int k b)) (h : b ≠ 0) : Yld P N w0 F L ⟨d, .binOp .rem t x y t', ty, pos, af, gd⟩ (.int k (a.tmod b)) := fun c w hF _ => by
  simp [execOp, hx c hF, hy c hF, eqGuard, binOp, Op.intDiv, h]
theorem y_quot (hx : FE N F x (.int .i64 a)) (hy : FE N F y (.int .i64 b)) (h : b ≠ 0) (h' : -9223372036854775808 < a ∧ a ≤ 9223372036854775807) : Yld P N w0 F L ⟨d, .binOp .quo t x y t', ty, pos, af, gd⟩ (.int .i64 (a.tdiv b)) := fun c w hF _ => by
  have h2 := tdiv_bd (a := a) b
  have h5 : IntKind.i64.wrap (a.tdiv b) = a.tdiv b := IntWalk.i64_in _ (by omega)
  simp [execOp, hx c hF, hy c hF, eqGuard, binOp, Op.intDiv, h, h5]
end
theorem prod_bd {a b A B : Int} (h0 : -A ≤ a) (h1 : a ≤ A) (h2 : -B ≤ b) (h3 : b ≤ B) : -(A * B) ≤ a * b ∧ a * b ≤ A * B := by
  have ha : 0 ≤ A := by omega
  have hb : 0 ≤ B := by omega
  have e : (a * b).natAbs = a.natAbs * b.natAbs := Int.natAbs_mul a b
  have f : a.natAbs * b.natAbs ≤ A.natAbs * B.natAbs := Nat.mul_le_mul (by omega) (by omega)
  have g : ((A.natAbs * B.natAbs : Nat) : Int) = A * B := by rw [Int.natCast_mul]; congr 1 <;> omega
  omega
/-- What is small enough, multiplied. -/
theorem bd4 {n d n' d' : Int} (ha : bright n d = true) (hb : bright n' d' = true) : (-1152921504606846976 ≤ n * d' ∧ n * d' ≤ 1152921504606846976) ∧ (-1152921504606846976 ≤ n' * d ∧ n' * d ≤ 1152921504606846976) ∧ (0 < d * d' ∧ d * d' ≤ 1152921504606846976) ∧ (-1152921504606846976 ≤ n * n' ∧ n * n' ≤ 1152921504606846976) := by
  obtain ⟨a1, a2, a3, a4⟩ := bright_iff.1 ha
  obtain ⟨b1, b2, b3, b4⟩ := bright_iff.1 hb
  refine ⟨?_, ?_, ⟨Int.mul_pos a1 b1, ?_⟩, ?_⟩
  · have := prod_bd (a := n) (b := d') (A := 1073741824) (B := 1073741824) (by omega) (by omega) (by omega) (by omega); omega
  · have := prod_bd (a := n') (b := d) (A := 1073741824) (B := 1073741824) (by omega) (by omega) (by omega) (by omega); omega
  · have := prod_bd (a := d) (b := d') (A := 1073741824) (B := 1073741824) (by omega) (by omega) (by omega) (by omega); omega
  · have := prod_bd (a := n) (b := n') (A := 1073741824) (B := 1073741824) (by omega) (by omega) (by omega) (by omega); omega





end Go.Proofs.Ytpknjfeiiaopgaa.Frac
