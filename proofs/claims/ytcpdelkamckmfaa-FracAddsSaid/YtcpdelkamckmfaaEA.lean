/- More rules: append of things of one byte, x - 1. -/
import Derived.Test.YtcpdelkamckmfaaE9
namespace Go.Proofs.Ytcpdelkamckmfaa.E
open Go.RowKit

section
variable {P : Program} {N : Nat} {w0 : World} {F : Frm} {L : List Res} {d : Option Tmp} {x y : Operand} {v : Value} {ty t : TypeId} {pos : String} {af : Array Edge} {gd : Option (Nat × Bool)} {K : Frm → List Res → Prop}
/-- As oj_append, for things of one byte. -/
theorem oj_append47 {e s bytes n m c i : Nat} {z : Value} {xs news : List Value} {A : Option Addr} (hu : P.underlying t = some (.slice e)) (hi : (P.info? e).map (fun i => (i.zero, i.size, i.bytes)) = some (some z, s, bytes)) (hx : FE N F x v) (hy : FE N F y (.slice A m c))
    (hk : lget L i = some (vec e s v n xs)) (hr : RdL w0 L A news) (hl : news.length = m * s) (hz : z.cells.size = s ∧ 0 < s) (h1 : ∀ u ∈ news, u.oneCell' = true) (hA : 0 < m) (hb : n + m ≤ 140737488355328 ∧ bytes ≤ 1)
    (h : ∀ A' c', n + m ≤ c' → K (fput F d (.slice A' (n + m) c')) (lset L i (vec e s (.slice A' (n + m) c') (n + m) (xs ++ news)))) : OpJ P N w0 F L ⟨d, .call ⟨.builtin .append, #[x, y], #[t, t]⟩, ty, pos, af, gd⟩ K := fun a w hF hS => by
  obtain ⟨inf, h2, h3, h4, h5⟩ := info_parts' hi
  have hbytes : (n + m) * bytes ≤ 140737488355328 := Nat.le_trans (Nat.mul_le_mul hb.1 hb.2) (by omega)
  have h0 : 0 < news.length := by rw [hl]; exact Nat.mul_pos hA hz.2
  rcases hr w hS with hn | ⟨g, o, rfl, hc⟩
  · rw [hn] at h0; simp at h0
  obtain ⟨v', w', hrun, r1, r2, r3⟩ := run_append_ownV (P := P) w t ty e inf z s bytes hu h2 h3 h4 h5 hz.1 hz.2 v n xs (hS.holds i _ hk) ⟨g, o, none⟩ m c news hl (fun j u hu => by rw [Addr.add_lit]; exact hc j u hu) h1 (by unfold maxLen; omega) hbytes
  have hrun2 : (execOp a.eval ⟨d, .call ⟨.builtin .append, #[x, y], #[t, t]⟩, ty, pos, af, gd⟩).run P w = .ok (.value v') w' := by
    simp [execOp, resolve, invoke, builtin, hx a hF, hy a hF, hrun]
  unfold Oper.wp
  rw [hrun2]
  obtain ⟨A', c', rfl, hc', _⟩ := OwnV.form r1
  exact ⟨_, _, h A' c' hc', hF.put _ _, turn_vec hS hk r1 r2 r3⟩
end
/-- x - 1 of a count. -/
theorem y_dec {P : Program} {N : Nat} {w0 : World} {F : Frm} {L : List Res} {d : Option Tmp} {x y : Operand} {ty t t' : TypeId} {pos : String} {af : Array Edge} {gd : Option (Nat × Bool)} {n : Nat} (hx : FE N F x (.int .i64 (n : Int))) (hy : FE N F y (.int .i64 1)) (h : 0 < n ∧ n ≤ 9223372036854775807) : Yld P N w0 F L ⟨d, .binOp .sub t x y t', ty, pos, af, gd⟩ (.int .i64 ((n - 1 : Nat) : Int)) := by
  have := y_sub (P := P) (w0 := w0) (L := L) (d := d) (t := t) (t' := t') (ty := ty) (pos := pos) (af := af) (gd := gd) hx hy (by omega)
  rwa [show ((n - 1 : Nat) : Int) = (n : Int) - 1 from by omega]
end Go.Proofs.Ytcpdelkamckmfaa.E
