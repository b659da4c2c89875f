/- copy within and into a slice that the call has made. -/
import Derived.Test.YtfcpmcdlgkfolaaDoorEJ
import Derived.Laws.CopyRow
import Derived.Laws.Externs
import Derived.Lib.Overlaps
import Derived.Lib.AppendZerosOnto
namespace Go.Proofs.YtfcpmcdlgkfolaaDoor.E
open Go.RowKit

section
variable {P : Program} {N : Nat} {w0 : World} {F : Frm} {L : List Res} {d : Option Tmp} {x y z : Operand} {v u : Value} {ty t t' : TypeId} {pos : String} {af : Array Edge} {gd : Option (Nat × Bool)} {K : Frm → List Res → Prop}
/-- What lies behind the first l elements. -/
theorem y_cutS {e g n l : Nat} {k : IntKind} (hu : P.underlying t = some (.slice e)) (hs : ∀ w, (sizeOf e).run P w = .ok 1 w) (hx : FE N F x (.slice (some ⟨g, 0, none⟩) n n)) (hy : FE N F y (.int k (l : Int))) (h1 : l < n) : Yld P N w0 F L ⟨d, .slice t x (some y) none none, ty, pos, af, gd⟩ (.slice (some ⟨g, l, none⟩) (n - l) (n - l)) := by
  have h := y_cutL (P := P) (w0 := w0) (L := L) (d := d) (ty := ty) (pos := pos) (af := af) (gd := gd) hu hs hx hy (Nat.le_of_lt h1)
  have e1 : cutA (some ⟨g, 0, none⟩) l n 1 = some ⟨g, l, none⟩ := by
    unfold cutA
    rw [if_neg (by omega)]
    simp [Addr.add_lit]
  rwa [e1] at h
/-- copy to the cells from lo on. -/
theorem oj_copy {e g n lo k c' m c : Nat} {xs news : List Value} {B : Option Addr} (i : Nat) (hu : P.underlying t = some (.slice e)) (hi : (P.info? e).map (·.size) = some 1) (hx : FE N F x (.slice (some ⟨g, lo, none⟩) k c')) (hy : FE N F y (.slice B m c))
    (hk : lget L i = some (vec e 1 (.slice (some ⟨g, 0, none⟩) n n) n xs)) (hr : RdL w0 L B news) (hm : m ≤ news.length) (hlo : lo + k ≤ n) (h0 : 0 < m) (h1 : ∀ u ∈ news, u.oneCell' = true)
    (h : K (fput F d (.int .i64 ((min m k : Nat) : Int))) (lset L i (vec e 1 (.slice (some ⟨g, 0, none⟩) n n) n (xs.take lo ++ news.take (min m k) ++ xs.drop (lo + min m k))))) : OpJ P N w0 F L ⟨d, .call ⟨.builtin .copy, #[x, y], #[t, t']⟩, ty, pos, af, gd⟩ K := fun a w hF hS => by
  obtain ⟨hlen, ⟨hv, _⟩ | ⟨g', off, cap, cur, hv, hg, hnc, hcm, hcs, htk⟩⟩ := hS.holds i _ hk
  · cases hv
  injection hv with e1 e2 e3
  injection e1 with e1
  injection e1 with e1 e4
  subst e1 e4 e3
  clear e2
  simp only [Nat.mul_one] at hlen hcs htk
  obtain ⟨gb, ob, hB, hc⟩ : ∃ gb ob, B = some ⟨gb, ob, none⟩ ∧ ∀ j u, news[j]? = some u → w.cell? ⟨gb, ob + j, none⟩ = some u := by
    rcases hr w hS with hn | ⟨gb, ob, hB, hc⟩
    · rw [hn] at hm; simp at hm; omega
    · exact ⟨gb, ob, hB, hc⟩
  subst hB
  have hcl : (news.take (min m k)).length = min m k := by rw [List.length_take]; omega
  have hrun := run_copy_row (P := P) w t t' ty e g lo k c' ⟨gb, ob, none⟩ m c cur e (news.take (min m k)) hu hi hg hcl
    (fun j u hu => by
      rw [List.getElem?_take] at hu
      split at hu
      · rw [Addr.add_lit]; exact hc j u hu
      · cases hu)
    (by rw [hcl]; omega) (fun u hu => h1 u (List.mem_of_mem_take hu))
  rw [hcl] at hrun
  have hrun2 : (execOp a.eval ⟨d, .call ⟨.builtin .copy, #[x, y], #[t, t']⟩, ty, pos, af, gd⟩).run P w = .ok (.value (.int .i64 ((min m k : Nat) : Int))) (w.setRow g (cur.toList.take lo ++ news.take (min m k) ++ cur.toList.drop (lo + min m k)).toArray) := by
    simp [execOp, resolve, invoke, builtin, hx a hF, hy a hF, hrun, goInt]
  unfold Oper.wp
  rw [hrun2]
  have hgl : g < w.heap.size := (Array.getElem?_eq_some_iff.1 hg).1
  refine ⟨_, _, h, hF.put _ _, turn_vec hS hk ⟨?_, .inr ⟨g, 0, _, _, rfl, setRow_heap w g cur _ e _ hg, Nat.le_refl _, hcm, ?_, ?_⟩⟩ ⟨rfl, rfl, rfl, by simp [World.setRow], fun j _ hj => setRow_other w g j _ (fun e => hj (by simp [Value.ownBlock, e]))⟩ (fun j hj => ?_)⟩
  · rw [List.length_append, List.length_append, hcl, List.length_take, List.length_drop, hlen]; omega
  · simp only [List.size_toArray, List.length_append, hcl, List.length_take, List.length_drop, Array.length_toList]; omega
  · have := splice_mid cur.toList (news.take (min m k)) 0 lo n (by rw [hcl]; omega) (by rw [Array.length_toList]; omega)
    simp only [hcl, Nat.zero_add] at this
    rw [htk] at this
    simpa using this
  · have : g = j := by simpa [Value.ownBlock] using hj
    subst this
    exact ⟨by simpa [World.setRow] using hgl, .inl (by simp [Value.ownBlock])⟩
end
end Go.Proofs.YtfcpmcdlgkfolaaDoor.E

namespace Go.Proofs.YtfcpmcdlgkfolaaDoor.E
open Go.RowKit
section
variable {P : Program} {N : Nat} {w0 : World} {Q : Exit → Act → World → Prop} {F : Frm} {L : List Res} {c : Code} {d : Option Tmp} {x y : Operand} {ty t t' : TypeId} {pos : String} {af : Array Edge} {gd : Option (Nat × Bool)} {K : Frm → List Res → Prop}
/-- A call whose run is known of the world that holds L. -/
theorem y_extS {xs : Array Operand} {ts : Array TypeId} {f : FuncId} {vs : List Value} {v : Value} {fc : Operand} (hcall : ∀ w, St w0 w L → (callFunc f vs.toArray).run P w = .ok (.value v) w) (hf : FE N F fc (.func (.func f) #[] #[])) (hx : FEL N F xs.toList vs) : Yld P N w0 F L ⟨d, .call ⟨.value fc, xs, ts⟩, ty, pos, af, gd⟩ v := fun a w hF hS => by
  have hargs : xs.map a.eval = vs.toArray := by
    have := hx a hF
    apply Array.toList_inj.1
    simpa using this
  simp [execOp, resolve, hf a hF, Deferred.ofValue, invoke, hargs, hcall w hS]
theorem OwnV.addr {w : World} {e s n cp : Nat} {A : Option Addr} {xs : List Value} (h : OwnV w e s (.slice A n cp) n xs) (h0 : 0 < n) : ∃ g o, A = some ⟨g, o, none⟩ := by
  rcases h.2 with ⟨_, h1⟩ | ⟨g, o, _, _, h1, _⟩
  · omega
  · injection h1 with h2
    exact ⟨g, o, h2⟩
theorem OwnV.spare {w : World} {e n cp : Nat} {A : Option Addr} {xs : List Value} (h : OwnV w e 1 (.slice A n cp) n xs) (hc : n + 1 ≤ cp) : ∃ v, OwnV w e 1 (.slice A (n + 1) cp) (n + 1) (xs ++ [v]) := by
  obtain ⟨hl, ⟨h1, _⟩ | ⟨g, o, cp', cur, h1, h2, h3, h4, h5, h6⟩⟩ := h
  · injection h1 with _ _ h1
    omega
  · injection h1 with e1 e2 e3
    subst e1 e3
    have hlt : n < (cur.toList.drop o).length := by rw [List.length_drop, Array.length_toList]; omega
    refine ⟨(cur.toList.drop o)[n], by simp [hl], .inr ⟨g, o, cp, cur, rfl, h2, hc, h4, h5, ?_⟩⟩
    rw [Nat.mul_one, List.take_succ_eq_append_getElem hlt]
    rw [Nat.mul_one] at h6
    rw [h6]
theorem St.spare {w : World} {i e n cp : Nat} {A : Option Addr} {xs : List Value} (h : St w0 w L) (hi : lget L i = some (vec e 1 (.slice A n cp) n xs)) (hc : n + 1 ≤ cp) : ∃ v, St w0 w (lset L i (vec e 1 (.slice A (n + 1) cp) (n + 1) (xs ++ [v]))) := by
  obtain ⟨v, hv⟩ := OwnV.spare (h.holds i _ hi) hc
  have hfoot : (vec e 1 (.slice A (n + 1) cp) (n + 1) (xs ++ [v])).foot = (vec e 1 (.slice A n cp) n xs).foot := by cases A <;> rfl
  exact ⟨v, h.turn hi rfl rfl rfl (Nat.le_refl _) (fun _ _ _ => rfl) hv (fun b hb => by
    rw [hfoot] at hb
    exact ⟨(h.lt i _ hi b hb).2, .inl hb⟩)⟩
theorem tr_spare {e n cp : Nat} {A : Option Addr} {xs : List Value} (i : Nat) (hi : lget L i = some (vec e 1 (.slice A n cp) n xs)) (hc : n + 1 ≤ cp) (h : ∀ v, TR P N w0 Q c F (lset L i (vec e 1 (.slice A (n + 1) cp) (n + 1) (xs ++ [v])))) : TR P N w0 Q c F L := fun a w hF hS => by
  obtain ⟨v, h1⟩ := hS.spare hi hc
  exact h v a w hF h1
theorem cutA_lt {g o l cp : Nat} (h : l < cp) : cutA (some ⟨g, o, none⟩) l cp 1 = some ⟨g, o + l, none⟩ := by
  unfold cutA
  rw [if_neg (by omega)]
  simp [Addr.add_lit]
/-- copy into a slice of the call's own, from lo on; the source may be the same slice. -/
theorem oj_copyV {e g o n c0 lo k c' m cp : Nat} {xs news : List Value} {B : Option Addr} (i : Nat) (hu : P.underlying t = some (.slice e)) (hi : (P.info? e).map (·.size) = some 1) (hx : FE N F x (.slice (some ⟨g, o + lo, none⟩) k c')) (hy : FE N F y (.slice B m cp))
    (hk : lget L i = some (vec e 1 (.slice (some ⟨g, o, none⟩) n c0) n xs)) (hr : RdL w0 L B news) (hm : min m k ≤ news.length) (hlo : lo + k ≤ n) (h0 : 0 < min m k) (h1 : ∀ u ∈ news.take (min m k), u.oneCell' = true)
    (h : K (fput F d (.int .i64 ((min m k : Nat) : Int))) (lset L i (vec e 1 (.slice (some ⟨g, o, none⟩) n c0) n (xs.take lo ++ news.take (min m k) ++ xs.drop (lo + min m k))))) : OpJ P N w0 F L ⟨d, .call ⟨.builtin .copy, #[x, y], #[t, t']⟩, ty, pos, af, gd⟩ K := fun a w hF hS => by
  obtain ⟨hlen, ⟨hv, _⟩ | ⟨g', off, cap, cur, hv, hg, hnc, hcm, hcs, htk⟩⟩ := hS.holds i _ hk
  · cases hv
  injection hv with e1 e2 e3
  injection e1 with e1
  injection e1 with e1 e4
  subst e1 e4 e3
  clear e2
  simp only [Nat.mul_one] at hlen hcs htk
  obtain ⟨gb, ob, hB, hc⟩ : ∃ gb ob, B = some ⟨gb, ob, none⟩ ∧ ∀ j u, news[j]? = some u → w.cell? ⟨gb, ob + j, none⟩ = some u := by
    rcases hr w hS with hn | ⟨gb, ob, hB, hc⟩
    · rw [hn] at hm; simp at hm; omega
    · exact ⟨gb, ob, hB, hc⟩
  subst hB
  have hcl : (news.take (min m k)).length = min m k := by rw [List.length_take]; omega
  have hrun := run_copy_row (P := P) w t t' ty e g (o + lo) k c' ⟨gb, ob, none⟩ m cp cur e (news.take (min m k)) hu hi hg hcl
    (fun j u hu => by
      rw [List.getElem?_take] at hu
      split at hu
      · rw [Addr.add_lit]; exact hc j u hu
      · cases hu)
    (by rw [hcl]; omega) h1
  rw [hcl] at hrun
  have hrun2 : (execOp a.eval ⟨d, .call ⟨.builtin .copy, #[x, y], #[t, t']⟩, ty, pos, af, gd⟩).run P w = .ok (.value (.int .i64 ((min m k : Nat) : Int))) (w.setRow g (cur.toList.take (o + lo) ++ news.take (min m k) ++ cur.toList.drop (o + lo + min m k)).toArray) := by
    simp [execOp, resolve, invoke, builtin, hx a hF, hy a hF, hrun, goInt]
  unfold Oper.wp
  rw [hrun2]
  have hgl : g < w.heap.size := (Array.getElem?_eq_some_iff.1 hg).1
  refine ⟨_, _, h, hF.put _ _, turn_vec hS hk ⟨?_, .inr ⟨g, o, _, _, rfl, setRow_heap w g cur _ e _ hg, hnc, hcm, ?_, ?_⟩⟩ ⟨rfl, rfl, rfl, by simp [World.setRow], fun j _ hj => setRow_other w g j _ (fun e => hj (by simp [Value.ownBlock, e]))⟩ (fun j hj => ?_)⟩
  · rw [List.length_append, List.length_append, hcl, List.length_take, List.length_drop, hlen]; omega
  · simp only [List.size_toArray, List.length_append, hcl, List.length_take, List.length_drop, Array.length_toList]; omega
  · have := splice_mid cur.toList (news.take (min m k)) o lo n (by rw [hcl]; omega) (by rw [Array.length_toList]; omega)
    simp only [hcl] at this
    rw [htk] at this
    simpa using this
  · have : g = j := by simpa [Value.ownBlock] using hj
    subst this
    exact ⟨by simpa [World.setRow] using hgl, .inl (by simp [Value.ownBlock])⟩
/-- append of m noughts to a slice of length 0 that has no room for them. -/
theorem oj_appz {e bytes cp m : Nat} {z : Value} {g o : Nat} {kn kq : IntKind} (hu : P.underlying t = some (.slice e)) (hut : P.underlying t' = some (.int kn)) (hi : (P.info? e).map (fun i => (i.zero, i.size, i.bytes)) = some (some z, 1, bytes)) (hx : FE N F x (.slice (some ⟨g, o, none⟩) 0 cp)) (hy : FE N F y (.int kq (m : Int)))
    (hz : z.cells = #[z]) (hc : cp < m) (hm : m ≤ 1000000) (hb : bytes ≤ 140)
    (h : ∀ b c', m ≤ c' → K (fput F d (.slice (some ⟨b, 0, none⟩) m c')) (vec e 1 (.slice (some ⟨b, 0, none⟩) m c') m (List.replicate m z) :: L)) : OpJ P N w0 F L ⟨d, .call ⟨.builtin .append, #[x, y], #[t, t']⟩, ty, pos, af, gd⟩ K := fun a w hF hS => by
  obtain ⟨inf, h2, h3, h4, h5⟩ := info_parts' hi
  have hby : m * inf.bytes ≤ 140737488355328 := by
    rw [h5]
    exact Nat.le_trans (Nat.mul_le_mul hm hb) (by decide)
  have hold : (Builtin.firstCells inf.size 0 (.slice (some ⟨g, o, none⟩) 0 cp)).run P w.drew = .ok ([] : List Value).toArray w.drew := by
    rw [h4]
    exact run_firstCells_some w.drew 1 0 ⟨g, o, none⟩ 0 cp [] rfl (fun j v hj => by simp at hj)
  have hr := Lib.run_append_grow_zeros (P := P) w t t' ty e inf z kq kn hu hut h2 h3 (some ⟨g, o, none⟩) 0 cp [] hold m (by omega) (by omega) (by omega) (by omega) (by omega) (growslice_fits (by omega) (by rw [Nat.zero_add]; exact hby))
  rw [Nat.zero_add] at hr
  have hge := grownCap_ge w m cp e
  have hgm := grownCap_le_maxLen w m cp e (by unfold maxLen; omega)
  have hrun : (execOp a.eval ⟨d, .call ⟨.builtin .append, #[x, y], #[t, t']⟩, ty, pos, af, gd⟩).run P w = .ok (.value (.slice (some ⟨w.heap.size, 0, none⟩) m (grownCap w m cp e))) (w.drew.alloc (.cells (([] : List Value).toArray ++ Builtin.zeroCells z.cells m ++ Builtin.zeroCells z.cells (grownCap w m cp e - m)) e)) := by
    simp only [execOp, resolve, invoke, builtin, Sem.run_bind, Sem.run_pure, Result.andThen_ok, List.map_toArray, List.map_cons, List.map_nil, hx a hF, hy a hF, hr]
  unfold Oper.wp
  rw [hrun]
  have hzl : ∀ q, (Builtin.zeroCells z.cells q).toList = List.replicate q z := fun q => by
    apply List.ext_getElem?
    intro j
    simp only [Builtin.zeroCells, hz]
    by_cases hj : j < q
    · simp [hj, List.getElem?_replicate, Nat.mod_one]
    · simp [hj, List.getElem?_replicate]
  refine ⟨_, _, h w.heap.size _ hge, hF.put _ _, hS.add ⟨rfl, rfl, rfl, by simp, fun b hb => Go.heap_alloc_old _ _ hb⟩ ⟨by simp, .inr ⟨w.heap.size, 0, _, _, rfl, heap_alloc_new w.drew _, hge, hgm, ?_, ?_⟩⟩ (fun b hb => ?_)⟩
  · rw [← Array.length_toList, Array.toList_append, Array.toList_append, hzl, hzl]; simp; omega
  · rw [Array.toList_append, Array.toList_append, hzl, hzl]
    simp
  · simp only [vec, Value.ownBlock, Option.toList_some, List.mem_singleton] at hb
    subst hb
    exact ⟨Nat.le_refl _, by simp⟩
/-- x[0:]. -/
theorem y_cutZ {e s n cp : Nat} {A : Option Addr} (hu : P.underlying t = some (.slice e)) (hs : ∀ w, (sizeOf e).run P w = .ok s w) (hx : FE N F x (.slice A n cp)) (hy : FE N F y (.int .i64 0)) : Yld P N w0 F L ⟨d, .slice t x (some y) none none, ty, pos, af, gd⟩ (.slice A n cp) := by
  have h := y_cutL (P := P) (w0 := w0) (L := L) (d := d) (ty := ty) (pos := pos) (af := af) (gd := gd) (l := 0) hu hs hx hy (Nat.zero_le _)
  rw [cutA_zero, Nat.sub_zero, Nat.sub_zero] at h
  exact h
/-- x[l:] where there is more. -/
theorem y_cutT {e n cp g o : Nat} (l : Nat) (hu : P.underlying t = some (.slice e)) (hs : ∀ w, (sizeOf e).run P w = .ok 1 w) (hx : FE N F x (.slice (some ⟨g, o, none⟩) n cp)) (hy : FE N F y (.int .i64 (l : Int))) (h1 : l ≤ n) (h2 : l < cp) : Yld P N w0 F L ⟨d, .slice t x (some y) none none, ty, pos, af, gd⟩ (.slice (some ⟨g, o + l, none⟩) (n - l) (cp - l)) := by
  have h := y_cutL (P := P) (w0 := w0) (L := L) (d := d) (ty := ty) (pos := pos) (af := af) (gd := gd) (l := l) hu hs hx hy h1
  rw [cutA_lt h2] at h
  exact h
end
/-- The call's own slice and a block of its own do not overlap. -/
theorem apart {P : Program} {w w0 : World} {L : List Res} {i j : Nat} {e n cp g o b off n' cp' : Nat} {xs cs : List Value} {tS tR : TypeId} (hS : St w0 w L) (hi : lget L i = some (vec e 1 (.slice (some ⟨g, o, none⟩) n cp) n xs)) (hj : lget L j = some (blk b cs)) (hne : i ≠ j) (hn : 0 < n) (hu : P.underlying tS = some (.slice e)) (hs : ∀ w, (sizeOf e).run P w = .ok 1 w) (lo : Nat) :
    (Extern.SlicesOverlaps.overlaps #[tS, tS] #[tR] #[.slice (some ⟨b, off, none⟩) n' cp', .slice (some ⟨g, o + lo, none⟩) (n - lo) (cp - lo)]).run P w = .ok (.bool false) w := by
  obtain ⟨hl, ⟨h1, _⟩ | ⟨g', o', cp'', cur, h1, h2, h3, h4, h5, h6⟩⟩ := hS.holds i _ hi
  · cases h1
  injection h1 with e1 _ e3
  injection e1 with e1
  injection e1 with e1 e4
  subst e1 e4 e3
  obtain ⟨T, hb⟩ := hS.holds j _ hj
  have hbg : b ≠ g := fun e1 => by
    subst e1
    exact hS.sep i j _ _ hi hj hne b (by simp [vec, Value.ownBlock]) (by simp [blk])
  refine Lib.run_overlaps_apart w tS tR e hu 1 hs ⟨b, off, none⟩ ⟨g, o + lo, none⟩ n' cp' (n - lo) (cp - lo) hbg T e cs.toArray.size cur.size ?_ ?_ ?_ ?_ ?_
  · simp [World.shape?, hb]
  · simp [World.shape?, h2]
  · omega
  · simp [World.frozen?, hb]
  · simp [World.frozen?, hb]
end Go.Proofs.YtfcpmcdlgkfolaaDoor.E

namespace Go.Proofs.YtfcpmcdlgkfolaaDoor.E
open Go.RowKit
section
variable {P : Program} {N : Nat} {w0 : World} {F : Frm} {L : List Res} {d : Option Tmp} {x : Operand} {v : Value} {ty t : TypeId} {pos : String} {af : Array Edge} {gd : Option (Nat × Bool)} {K : Frm → List Res → Prop}
theorem oj_slice1V {e : Nat} {z : Value} (hu : P.underlying t = some (.slice e)) (hs : ∀ w, (sizeOf e).run P w = .ok 1 w) (hz : ∀ w, (zeroValue e).run P w = .ok z w) (hx : FE N F x v) (hl : zc v = [v])
    (h : ∀ b, K (fput F d (.slice (some ⟨b, 0, none⟩) 1 1)) (vec e 1 (.slice (some ⟨b, 0, none⟩) 1 1) 1 [v] :: L)) : OpJ P N w0 F L ⟨d, .buildSlice t 1 #[(0, x)], ty, pos, af, gd⟩ K := fun a w hF hS => by
  have hc : v.cells.toList = [v] := by rw [← zc_cells] at *; simpa using hl
  have hvs : v.cells.size = 1 := by rw [← Array.length_toList, hc]; rfl
  have hfill : Instr.fill (fun i => some (i * 1, 1)) ((Array.range 1).map (z.cells[· % z.cells.size]!)) [(0, v)] = some v.cells := by
    have h3 := fold_set v.cells.toList 0 ((Array.range 1).map (z.cells[· % z.cells.size]!)) (by simp [hvs])
    simp only [List.take_zero, List.nil_append] at h3
    simp only [Instr.fill, Nat.zero_mul, hvs, Nat.zero_add, Array.size_map, Array.size_range, Nat.lt_irrefl, decide_false, bne_self_eq_false, Bool.or_self, Bool.false_eq_true, if_false, gt_iff_lt, ne_eq, not_true_eq_false]
    rw [← Array.foldl_toList, Array.toList_zipIdx]
    simpa using h3
  simp only [Nat.mul_one] at hfill
  have hr : (execOp a.eval ⟨d, .buildSlice t 1 #[(0, x)], ty, pos, af, gd⟩).run P w = .ok (.value (.slice (some ⟨w.heap.size, 0, none⟩) 1 1)) (w.alloc (.cells v.cells e)) := by
    simp [execOp, Instr.buildSlice, hx a hF, run_underlying hu, hs, hz, hfill, newRow, newObj, run_new]
  unfold Oper.wp
  rw [hr]
  refine ⟨_, _, h w.heap.size, hF.put _ _, hS.add (alloc_new w _) ⟨rfl, .inr ⟨w.heap.size, 0, 1, _, rfl, heap_alloc_new w _, Nat.le_refl _, by unfold maxLen; omega, ?_, ?_⟩⟩ (fun b hb => ?_)⟩
  · rw [hvs]; omega
  · rw [hc]; rfl
  · simp only [vec, Value.ownBlock, Option.toList_some, List.mem_singleton] at hb
    subst hb
    exact ⟨Nat.le_refl _, by simp⟩
end
end Go.Proofs.YtfcpmcdlgkfolaaDoor.E
