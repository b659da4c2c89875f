/- Rules for the heap: facts of what is held, append near the size of memory, a store of two cells of a record. -/
import Derived.Test.YtpknjfeiiaopgaaHpN
namespace Go.Proofs.Ytpknjfeiiaopgaa.E
open Go.RowKit

section
variable {P : Program} {N : Nat} {w0 : World} {F : Frm} {L : List Res} {d : Option Tmp} {x y : Operand} {v : Value} {ty t kt et : TypeId} {pos : String} {af : Array Edge} {gd : Option (Nat × Bool)} {K : Frm → List Res → Prop} {b : Nat} {m : List (Int × Value)} {its : List It}
theorem mp_nodup (i : Nat) (hk : lget L i = some (mpR b m its)) : ∀ w, St w0 w L → (keys m).Nodup := fun w hS => by
  obtain ⟨es, clock, h, _⟩ := hS.holds i _ hk
  exact h.nodup
theorem vec_cap {e s n c : Nat} {A : Option Addr} {xs : List Value} (i : Nat) (hk : lget L i = some (vec e s (.slice A n c) n xs)) : ∀ w, St w0 w L → n ≤ c := fun w hS => by
  obtain ⟨A', c', h1, h2, _⟩ := OwnV.form (hS.holds i _ hk)
  injection h1 with e1 e2 e3
  omega
theorem y_lookup2n {k : Int} (i : Nat) (hm : P.underlying t = some (.map kt et)) (hkt : P.underlying kt = some (.int .i64)) (hz : ∀ w, (zeroValue et).run P w = .ok v w) (hx : FE N F x (.map (some b))) (hy : FE N F y (.int .i64 k)) (hk : lget L i = some (mpR b m its)) (hg : mget m k = none) :
    Yld P N w0 F L ⟨d, .lookup t x y true, ty, pos, af, gd⟩ (.tuple #[v, .bool false]) := by
  have h := y_lookup2 (d := d) (ty := ty) (pos := pos) (af := af) (gd := gd) (w0 := w0) i hm hkt hz hx hy hk
  rwa [hg] at h
theorem y_lookup2s {k : Int} {u : Value} (i : Nat) (hm : P.underlying t = some (.map kt et)) (hkt : P.underlying kt = some (.int .i64)) (hz : ∀ w, (zeroValue et).run P w = .ok v w) (hx : FE N F x (.map (some b))) (hy : FE N F y (.int .i64 k)) (hk : lget L i = some (mpR b m its)) (hg : mget m k = some u) :
    Yld P N w0 F L ⟨d, .lookup t x y true, ty, pos, af, gd⟩ (.tuple #[u, .bool true]) := by
  have h := y_lookup2 (d := d) (ty := ty) (pos := pos) (af := af) (gd := gd) (w0 := w0) i hm hkt hz hx hy hk
  rwa [hg] at h
/-- As oj_append, for as much as memory bears. -/
theorem oj_appendB {e s bytes n m c i : Nat} {z : Value} {xs news : List Value} {A : Option Addr} (hu : P.underlying t = some (.slice e)) (hi : (P.info? e).map (fun i => (i.zero, i.size, i.bytes)) = some (some z, s, bytes)) (hx : FE N F x v) (hy : FE N F y (.slice A m c))
    (hk : lget L i = some (vec e s v n xs)) (hr : RdL w0 L A news) (hl : news.length = m * s) (hz : z.cells.size = s ∧ 0 < s) (h1 : ∀ u ∈ news, u.oneCell' = true) (hA : 0 < m) (hb : n + m ≤ 4398046511104 ∧ bytes ≤ 32)
    (h : ∀ A' c', n + m ≤ c' → K (fput F d (.slice A' (n + m) c')) (lset L i (vec e s (.slice A' (n + m) c') (n + m) (xs ++ news)))) : OpJ P N w0 F L ⟨d, .call ⟨.builtin .append, #[x, y], #[t, t]⟩, ty, pos, af, gd⟩ K := fun a w hF hS => by
  obtain ⟨inf, h2, h3, h4, h5⟩ := info_parts' hi
  have hbytes : (n + m) * bytes ≤ 140737488355328 := Nat.le_trans (Nat.mul_le_mul hb.1 hb.2) (by omega)
  have h0 : 0 < news.length := by rw [hl]; exact Nat.mul_pos hA hz.2
  rcases hr w hS with hn | ⟨g, o, rfl, hc⟩
  · rw [hn] at h0; simp at h0
  obtain ⟨v', w', hrun, r1, r2, r3⟩ := run_append_ownV (P := P) w t ty e inf z s bytes hu h2 h3 h4 h5 hz.1 hz.2 v n xs (hS.holds i _ hk) ⟨g, o, none⟩ m c news hl (fun j u hu => by rw [Addr.add_lit]; exact hc j u hu) h1 (by unfold maxLen; omega) hbytes
  have hrun2 : (execOp a.eval ⟨d, .call ⟨.builtin .append, #[x, y], #[t, t]⟩, ty, pos, af, gd⟩).run P w = .ok (.value v') w' := by
    simp [execOp, resolve, invoke, builtin, hx a hF, hy a hF, hrun]
  unfold Oper.wp
  rw [hrun2]
  obtain ⟨A', c', rfl, hc', _⟩ := OwnV.form r1
  exact ⟨_, _, h A' c' hc', hF.put _ _, turn_vec hS hk r1 r2 r3⟩
end
theorem two_set : ∀ (j : Nat) (xs : List Value) (a b : Value), j + 2 ≤ xs.length → xs.take j ++ [a, b] ++ xs.drop (j + 2) = (xs.set j a).set (j + 1) b
  | 0, x :: y :: xs, a, b, _ => by simp
  | j + 1, x :: xs, a, b, h => by
    have := two_set j xs a b (by simp at h; omega)
    simpa using this
  | 0, [], _, _, h => by simp at h
  | 0, [_], _, _, h => by simp at h
  | _ + 1, [], _, _, h => by simp at h
end Go.Proofs.Ytpknjfeiiaopgaa.E
namespace Go.Proofs.Ytpknjfeiiaopgaa.Heap
open Go.RowKit Go.Proofs.Ytpknjfeiiaopgaa.E Go.Proofs.Ytpknjfeiiaopgaa.Big

theorem flat_tk : ∀ (l : List I3) (k : Nat), (l.flatMap cI3).take (k * 3) = (l.take k).flatMap cI3
  | [], k => by simp
  | x :: l, 0 => by simp
  | x :: l, k + 1 => by
    rw [List.flatMap_cons, List.take_succ_cons, List.flatMap_cons, ← flat_tk l k, show (k + 1) * 3 = (cI3 x).length + k * 3 by rw [hcI]; omega, List.take_length_add_append]
theorem key_set {l : List I3} {k : Nat} {h o : Int} (hk : k < l.length) : (l.flatMap cI3).take (k * 3 + 1) ++ [.int .u64 h, .int .u64 o] ++ (l.flatMap cI3).drop (k * 3 + 1 + 2) = (l.set k ((gl l k).1, h, o)).flatMap cI3 := by
  have hl := flat_len hcI l
  rw [two_set _ _ _ _ (by omega), flat_set hcI l k hk ((gl l k).1, h, (gl l k).2.2) 1 (.int .u64 h) (by rw [gl_lt hk]; rfl) (by decide)]
  have hk2 : k < (l.set k ((gl l k).1, h, (gl l k).2.2)).length := by rw [List.length_set]; exact hk
  rw [Nat.add_assoc, flat_set hcI _ k hk2 ((gl l k).1, h, o) 2 (.int .u64 o) (by rw [List.getElem_set_self]; rfl) (by decide), List.set_set]
end Go.Proofs.Ytpknjfeiiaopgaa.Heap
