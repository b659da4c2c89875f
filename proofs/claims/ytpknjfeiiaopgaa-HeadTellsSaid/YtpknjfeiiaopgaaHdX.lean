/- Numbers of bytes, for the readers of heads. -/
import Derived.Test.YtpknjfeiiaopgaaHdW
import Derived.Test.YtpknjfeiiaopgaaFlO
namespace Go.Proofs.Ytpknjfeiiaopgaa.Head
open Go.RowKit Go.Proofs.Ytpknjfeiiaopgaa.E
section
variable {P : Program} {N : Nat} {w0 : World} {F : Frm} {L : List Res} {d : Option Tmp} {x y : Operand} {t ty t' : TypeId} {pos : String} {af : Array Edge} {gd : Option (Nat × Bool)} {a b : Int}
theorem y_mulq {c : Int} (hx : FE N F x (.int .i64 a)) (hy : FE N F y (.int .i64 b)) (hc : a * b = c) (h : -9223372036854775808 ≤ c ∧ c ≤ 9223372036854775807) : Yld P N w0 F L ⟨d, .binOp .mul t x y t', ty, pos, af, gd⟩ (.int .i64 c) := by
  subst hc
  exact y_mul hx hy h
end
theorem divq {a b m : Int} {k : IntKind} (h : (2 : Int) ^ (min b.toNat k.bits) = m) (hm : 0 ≤ m) : a.fdiv (2 ^ (min b.toNat k.bits)) = a / m := by
  rw [h]; exact Int.fdiv_eq_ediv_of_nonneg _ hm
theorem hl_eq {l : List Int} (h : 0 ≤ at_ l 0 ∧ at_ l 0 ≤ 255) : ((hl l : Nat) : Int) = at_ l 0 % 16 * 4 := by unfold hl; omega
theorem cB_cut (l : List Int) (k : Nat) : cB l = cB (l.take k) ++ cB (l.drop k) := by rw [← cB_app, List.take_append_drop]
theorem rd_sub {w : World} {A : Option Addr} {l : List Int} {n c i : Nat} (h : Rd w A (cB l)) (hn : l.length = n) (hc : n ≤ c) (h1 : i + 4 ≤ n) : Rd w (cutA A i c 1) (cB [at_ l i, at_ l (i + 1), at_ l (i + 2), at_ l (i + 3)]) := by
  have h2 := rd_cut (s := 1) (a := i) (b := i + 4) h (by rw [cB_len, hn, Nat.mul_one]) (by omega) h1 hc
  have e : ((cB l).drop (i * 1)).take ((i + 4 - i) * 1) = cB [at_ l i, at_ l (i + 1), at_ l (i + 2), at_ l (i + 3)] := by
    rw [Nat.mul_one, Nat.mul_one, show i + 4 - i = 4 by omega]
    apply List.ext_getElem?
    intro j
    rw [List.getElem?_take]
    split
    · rw [List.getElem?_drop, getB (by omega)]
      rcases (show j = 0 ∨ j = 1 ∨ j = 2 ∨ j = 3 by omega) with rfl | rfl | rfl | rfl <;> rfl
    · rw [List.getElem?_eq_none (by simp [cB]; omega)]
  rwa [e] at h2
end Go.Proofs.Ytpknjfeiiaopgaa.Head
