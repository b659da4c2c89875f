/- copy, append of noughts, and more room, for elements of any number of cells. -/
import Derived.Test.YtpknjfeiiaopgaaEV
namespace Go.Proofs.Ytpknjfeiiaopgaa.E
open Go.RowKit
section
variable {P : Program} {N : Nat} {w0 : World} {Q : Exit → Act → World → Prop} {F : Frm} {L : List Res} {c : Code} {d : Option Tmp} {x y : Operand} {ty t t' : TypeId} {pos : String} {af : Array Edge} {gd : Option (Nat × Bool)} {K : Frm → List Res → Prop}
theorem run_copy_rowS (w : World) (dT sT ty elem : TypeId) (s g o dLen dCap : Nat) (a : Addr) (sLen sCap : Nat) (cur : Array Value) (t : TypeId) (cs : List Value)
    (hu : P.underlying dT = some (.slice elem)) (hs : (P.info? elem).map (·.size) = some s)
    (hg : w.heap[g]? = some (.cells cur t (0, 0))) (hn : cs.length = Nat.min sLen dLen * s)
    (hsrc : ∀ j v, cs[j]? = some v → w.cell? (a.add j) = some v) (hfit : o + cs.length ≤ cur.size) (h1 : ∀ v ∈ cs, v.oneCell' = true) :
    (Builtin.copy_ #[dT, sT] ty #[.slice (some ⟨g, o, none⟩) dLen dCap, .slice (some a) sLen sCap]).run P w =
      .ok (goInt (Nat.min sLen dLen)) (w.setRow g (cur.toList.take o ++ cs ++ cur.toList.drop (o + cs.length)).toArray) := by
  have hst := run_storeCells_at P g o t cs 0 cur w hg (by simpa using hfit) h1
  cases hq : P.info? elem with
  | none => simp [hq] at hs
  | some i =>
    have hi : i.size = s := by simpa [hq] using hs
    have hf := run_firstCells_some (P := P) w s (Nat.min sLen dLen) a sLen sCap cs hn hsrc
    simp [Builtin.copy_, run_underlying hu, Builtin.lenOf, sizeOf, typeInfo, hq, hi, hf, hst]
theorem OwnV.spareS {w : World} {e n cp s : Nat} {A : Option Addr} {xs : List Value} (h : OwnV w e s (.slice A n cp) n xs) (hc : n + 1 ≤ cp) : ∃ vs : List Value, vs.length = s ∧ OwnV w e s (.slice A (n + 1) cp) (n + 1) (xs ++ vs) := by
  obtain ⟨hl, ⟨h1, _⟩ | ⟨g, o, cp', cur, h1, h2, h3, h4, h5, h6⟩⟩ := h
  · injection h1 with _ _ h1
    omega
  · injection h1 with e1 e2 e3
    subst e1 e3
    have hm : (n + 1) * s ≤ cp * s := Nat.mul_le_mul_right _ hc
    rw [Nat.add_mul, Nat.one_mul] at hm
    have hlt : (cur.toList.drop o).length = cur.size - o := by rw [List.length_drop, Array.length_toList]
    have hvl : (((cur.toList.drop o).drop (n * s)).take s).length = s := by rw [List.length_take, List.length_drop, hlt]; omega
    refine ⟨((cur.toList.drop o).drop (n * s)).take s, hvl, by rw [List.length_append, hl, hvl, Nat.add_mul, Nat.one_mul], .inr ⟨g, o, cp, cur, rfl, h2, hc, h4, h5, ?_⟩⟩
    rw [Nat.add_mul, Nat.one_mul, List.take_add, h6]
theorem tr_spareS {e n cp s : Nat} {A : Option Addr} {xs : List Value} (i : Nat) (hi : lget L i = some (vec e s (.slice A n cp) n xs)) (hc : n + 1 ≤ cp) (h : ∀ vs : List Value, vs.length = s → TR P N w0 Q c F (lset L i (vec e s (.slice A (n + 1) cp) (n + 1) (xs ++ vs)))) : TR P N w0 Q c F L := fun a w hF hS => by
  obtain ⟨vs, hv, h1⟩ := OwnV.spareS (hS.holds i _ hi) hc
  have hfoot : (vec e s (.slice A (n + 1) cp) (n + 1) (xs ++ vs)).foot = (vec e s (.slice A n cp) n xs).foot := by cases A <;> rfl
  exact h vs hv a w hF (hS.turn hi rfl rfl rfl (Nat.le_refl _) (fun _ _ _ => rfl) h1 (fun b hb => by
    rw [hfoot] at hb
    exact ⟨(hS.lt i _ hi b hb).2, .inl hb⟩))
/-- copy into a slice of the call's own, from element lo on; the source may be the same slice. -/
theorem oj_copyW {e s g o n c0 lo k c' m cp : Nat} {xs news : List Value} {B : Option Addr} (i : Nat) (hu : P.underlying t = some (.slice e)) (hi : (P.info? e).map (·.size) = some s) (hx : FE N F x (.slice (some ⟨g, o + lo * s, none⟩) k c')) (hy : FE N F y (.slice B m cp))
    (hk : lget L i = some (vec e s (.slice (some ⟨g, o, none⟩) n c0) n xs)) (hr : RdL w0 L B news) (hm : min m k * s ≤ news.length) (hlo : lo + k ≤ n) (h0 : 0 < min m k * s) (h1 : ∀ u ∈ news.take (min m k * s), u.oneCell' = true)
    (h : K (fput F d (.int .i64 ((min m k : Nat) : Int))) (lset L i (vec e s (.slice (some ⟨g, o, none⟩) n c0) n (xs.take (lo * s) ++ news.take (min m k * s) ++ xs.drop (lo * s + min m k * s))))) : OpJ P N w0 F L ⟨d, .call ⟨.builtin .copy, #[x, y], #[t, t']⟩, ty, pos, af, gd⟩ K := fun a w hF hS => by
  obtain ⟨hlen, ⟨hv, _⟩ | ⟨g', off, cap, cur, hv, hg, hnc, hcm, hcs, htk⟩⟩ := hS.holds i _ hk
  · cases hv
  injection hv with e1 e2 e3
  injection e1 with e1
  injection e1 with e1 e4
  subst e1 e4 e3
  clear e2
  obtain ⟨gb, ob, hB, hc⟩ : ∃ gb ob, B = some ⟨gb, ob, none⟩ ∧ ∀ j u, news[j]? = some u → w.cell? ⟨gb, ob + j, none⟩ = some u := by
    rcases hr w hS with hn | ⟨gb, ob, hB, hc⟩
    · rw [hn] at hm; simp at hm; omega
    · exact ⟨gb, ob, hB, hc⟩
  subst hB
  have hcl : (news.take (min m k * s)).length = min m k * s := by rw [List.length_take]; omega
  have hmk : lo * s + min m k * s ≤ n * s := by
    rw [← Nat.add_mul]
    exact Nat.mul_le_mul_right _ (by omega)
  have hnc' : n * s ≤ c0 * s := Nat.mul_le_mul_right _ hnc
  have hrun := run_copy_rowS (P := P) w t t' ty e s g (o + lo * s) k c' ⟨gb, ob, none⟩ m cp cur e (news.take (min m k * s)) hu hi hg hcl
    (fun j u hu => by
      rw [List.getElem?_take] at hu
      split at hu
      · rw [Addr.add_lit]; exact hc j u hu
      · cases hu)
    (by rw [hcl]; omega) h1
  rw [hcl] at hrun
  have hrun2 : (execOp a.eval ⟨d, .call ⟨.builtin .copy, #[x, y], #[t, t']⟩, ty, pos, af, gd⟩).run P w = .ok (.value (.int .i64 ((min m k : Nat) : Int))) (w.setRow g (cur.toList.take (o + lo * s) ++ news.take (min m k * s) ++ cur.toList.drop (o + lo * s + min m k * s)).toArray) := by
    simp [execOp, resolve, invoke, builtin, hx a hF, hy a hF, hrun, goInt]
  unfold Oper.wp
  rw [hrun2]
  have hgl : g < w.heap.size := (Array.getElem?_eq_some_iff.1 hg).1
  refine ⟨_, _, h, hF.put _ _, turn_vec hS hk ⟨?_, .inr ⟨g, o, _, _, rfl, setRow_heap w g cur _ e _ hg, hnc, hcm, ?_, ?_⟩⟩ ⟨rfl, rfl, rfl, by simp [World.setRow], fun j _ hj => setRow_other w g j _ (fun e => hj (by simp [Value.ownBlock, e]))⟩ (fun j hj => ?_)⟩
  · rw [List.length_append, List.length_append, hcl, List.length_take, List.length_drop, hlen]; omega
  · simp only [List.size_toArray, List.length_append, hcl, List.length_take, List.length_drop, Array.length_toList]; omega
  · have := splice_mid cur.toList (news.take (min m k * s)) o (lo * s) (n * s) (by rw [hcl]; omega) (by rw [Array.length_toList]; omega)
    simp only [hcl] at this
    rw [htk] at this
    simpa using this
  · have : g = j := by simpa [Value.ownBlock] using hj
    subst this
    exact ⟨by simpa [World.setRow] using hgl, .inl (by simp [Value.ownBlock])⟩
/-- append of m noughts to a slice that has no room for them. -/
theorem oj_appzS {e bytes cp m q s : Nat} {z : Value} {xs : List Value} {g o : Nat} {kn kq : IntKind} (hu : P.underlying t = some (.slice e)) (hut : P.underlying t' = some (.int kn)) (hi : (P.info? e).map (fun i => (i.zero, i.size, i.bytes)) = some (some z, s, bytes)) (hx : FE N F x (.slice (some ⟨g, o, none⟩) q cp)) (hy : FE N F y (.int kq (m : Int)))
    (hr : RdL w0 L (some ⟨g, o, none⟩) xs) (hxl : xs.length = q * s) (hz : z.cells.size = s ∧ 0 < s) (hc : cp < q + m) (hm : 0 < m ∧ q + m ≤ 1000000) (hb : bytes ≤ 140)
    (h : ∀ b c', q + m ≤ c' → K (fput F d (.slice (some ⟨b, 0, none⟩) (q + m) c')) (vec e s (.slice (some ⟨b, 0, none⟩) (q + m) c') (q + m) (xs ++ (Builtin.zeroCells z.cells m).toList) :: L)) : OpJ P N w0 F L ⟨d, .call ⟨.builtin .append, #[x, y], #[t, t']⟩, ty, pos, af, gd⟩ K := fun a w hF hS => by
  obtain ⟨inf, h2, h3, h4, h5⟩ := info_parts' hi
  have hby : (q + m) * inf.bytes ≤ 140737488355328 := by
    rw [h5]
    exact Nat.le_trans (Nat.mul_le_mul hm.2 hb) (by decide)
  have hmb : m * inf.bytes ≤ (q + m) * inf.bytes := Nat.mul_le_mul_right _ (by omega)
  have hcell : ∀ j v, xs[j]? = some v → w.cell? ⟨g, o + j, none⟩ = some v := by
    rcases hr w hS with hn | ⟨gb, ob, hB, hc⟩
    · rw [hn]; intro j v hj; simp at hj
    · injection hB with hB
      injection hB with e1 e2
      subst e1 e2
      exact hc
  have hold : (Builtin.firstCells inf.size q (.slice (some ⟨g, o, none⟩) q cp)).run P w.drew = .ok xs.toArray w.drew := by
    rw [h4]
    exact run_firstCells_some w.drew s q ⟨g, o, none⟩ q cp xs hxl (fun j v hj => by rw [Addr.add_lit]; exact hcell j v hj)
  have hr := Lib.run_append_grow_zeros (P := P) w t t' ty e inf z kq kn hu hut h2 h3 (some ⟨g, o, none⟩) q cp xs hold m (by omega) (by omega) (by omega) (by omega) (by omega) (growslice_fits (by omega) hby)
  have hge := grownCap_ge w (q + m) cp e
  have hgm := grownCap_le_maxLen w (q + m) cp e (by unfold maxLen; omega)
  have hrun : (execOp a.eval ⟨d, .call ⟨.builtin .append, #[x, y], #[t, t']⟩, ty, pos, af, gd⟩).run P w = .ok (.value (.slice (some ⟨w.heap.size, 0, none⟩) (q + m) (grownCap w (q + m) cp e))) (w.drew.alloc (.cells (xs.toArray ++ Builtin.zeroCells z.cells m ++ Builtin.zeroCells z.cells (grownCap w (q + m) cp e - (q + m))) e)) := by
    simp only [execOp, resolve, invoke, builtin, Sem.run_bind, Sem.run_pure, Result.andThen_ok, List.map_toArray, List.map_cons, List.map_nil, hx a hF, hy a hF, hr]
  unfold Oper.wp
  rw [hrun]
  have hzl : ∀ q, (Builtin.zeroCells z.cells q).toList.length = q * s := fun q => by rw [Array.length_toList, size_zeroCells, hz.1]
  refine ⟨_, _, h w.heap.size _ hge, hF.put _ _, hS.add ⟨rfl, rfl, rfl, by simp, fun b hb => Go.heap_alloc_old _ _ hb⟩ ⟨by rw [List.length_append, hxl, hzl, Nat.add_mul], .inr ⟨w.heap.size, 0, _, _, rfl, heap_alloc_new w.drew _, hge, hgm, ?_, ?_⟩⟩ (fun b hb => ?_)⟩
  · rw [← Array.length_toList, Array.toList_append, Array.toList_append, List.length_append, List.length_append, hzl, hzl, hxl, ← Nat.add_mul, ← Nat.add_mul, Nat.zero_add]
    exact Nat.mul_le_mul_right _ (by omega)
  · rw [Array.toList_append, Array.toList_append, List.drop_zero]
    exact List.take_left' (by rw [List.length_append, hzl, hxl, Nat.add_mul])
  · simp only [vec, Value.ownBlock, Option.toList_some, List.mem_singleton] at hb
    subst hb
    exact ⟨Nat.le_refl _, by simp⟩
/-- x[l:] where there is more. -/
theorem y_cutS2 {e n cp g o s : Nat} (l : Nat) (hu : P.underlying t = some (.slice e)) (hs : ∀ w, (sizeOf e).run P w = .ok s w) (hx : FE N F x (.slice (some ⟨g, o, none⟩) n cp)) (hy : FE N F y (.int .i64 (l : Int))) (h1 : l ≤ n) (h2 : l < cp) : Yld P N w0 F L ⟨d, .slice t x (some y) none none, ty, pos, af, gd⟩ (.slice (some ⟨g, o + l * s, none⟩) (n - l) (cp - l)) := by
  have h := y_cutL (P := P) (w0 := w0) (L := L) (d := d) (ty := ty) (pos := pos) (af := af) (gd := gd) (l := l) hu hs hx hy h1
  have e1 : cutA (some ⟨g, o, none⟩) l cp s = some ⟨g, o + l * s, none⟩ := by
    unfold cutA
    rw [if_neg (by omega)]
    simp [Addr.add_lit]
  rwa [e1] at h
end
end Go.Proofs.Ytpknjfeiiaopgaa.E
