/- copy within and into a slice that the call has made. -/
import Derived.Test.YtoibebmhfcjpfaaGreatDoorZfEJ
import Derived.Laws.CopyRow
import Derived.Laws.Externs
import Derived.Lib.Overlaps
import Derived.Lib.AppendZerosOnto
namespace Go.Proofs.YtoibebmhfcjpfaaGreatDoor.E
open Go.RowKit

section
variable {P : Program} {N : Nat} {w0 : World} {F : Frm} {L : List Res} {d : Option Tmp} {x y z : Operand} {v u : Value} {ty t t' : TypeId} {pos : String} {af : Array Edge} {gd : Option (Nat × Bool)} {K : Frm → List Res → Prop}
/-- What lies behind the first l elements. -/
theorem y_cutS {e g n l : Nat} {k : IntKind} (hu : P.underlying t = some (.slice e)) (hs : ∀ w, (sizeOf e).run P w = .ok 1 w) (hx : FE N F x (.slice (some ⟨g, 0, none⟩) n n)) (hy : FE N F y (.int k (l : Int))) (h1 : l < n) : Yld P N w0 F L ⟨d, .slice t x (some y) none none, ty, pos, af, gd⟩ (.slice (some ⟨g, l, none⟩) (n - l) (n - l)) := by
  have h := y_cutL (P := P) (w0 := w0) (L := L) (d := d) (ty := ty) (pos := pos) (af := af) (gd := gd) hu hs hx hy (Nat.le_of_lt h1)
  have e1 : cutA (some ⟨g, 0, none⟩) l n 1 = some ⟨g, l, none⟩ := by
    unfold cutA
    rw [if_neg (by omega)]
    simp [Addr.add_lit]
  rwa [e1] at h
/-- copy to the cells from lo on. -/
theorem oj_copy {e g n lo k c' m c : Nat} {xs news : List Value} {B : Option Addr} (i : Nat) (hu : P.underlying t = some (.slice e)) (hi : (P.info? e).map (·.size) = some 1) (hx : FE N F x (.slice (some ⟨g, lo, none⟩) k c')) (hy : FE N F y (.slice B m c))
    (hk : lget L i = some (vec e 1 (.slice (some ⟨g, 0, none⟩) n n) n xs)) (hr : RdL w0 L B news) (hm : m ≤ news.length) (hlo : lo + k ≤ n) (h0 : 0 < m) (h1 : ∀ u ∈ news, u.oneCell' = true)
    (h : K (fput F d (.int .i64 ((min m k : Nat) : Int))) (lset L i (vec e 1 (.slice (some ⟨g, 0, none⟩) n n) n (xs.take lo ++ news.take (min m k) ++ xs.drop (lo + min m k))))) : OpJ P N w0 F L ⟨d, .call ⟨.builtin .copy, #[x, y], #[t, t']⟩, ty, pos, af, gd⟩ K := fun a w hF hS => by
  obtain ⟨hlen, ⟨hv, _⟩ | ⟨g', off, cap, cur, hv, hg, hnc, hcm, hcs, htk⟩⟩ := hS.holds i _ hk
  · cases hv
  injection hv with e1 e2 e3
  injection e1 with e1
  injection e1 with e1 e4
  subst e1 e4 e3
  clear e2
  simp only [Nat.mul_one] at hlen hcs htk
  obtain ⟨gb, ob, hB, hc⟩ : ∃ gb ob, B = some ⟨gb, ob, none⟩ ∧ ∀ j u, news[j]? = some u → w.cell? ⟨gb, ob + j, none⟩ = some u := by
    rcases hr w hS with hn | ⟨gb, ob, hB, hc⟩
    · rw [hn] at hm; simp at hm; omega
    · exact ⟨gb, ob, hB, hc⟩
  subst hB
  have hcl : (news.take (min m k)).length = min m k := by rw [List.length_take]; omega
  have hrun := run_copy_row (P := P) w t t' ty e g lo k c' ⟨gb, ob, none⟩ m c cur e (news.take (min m k)) hu hi hg hcl
    (fun j u hu => by
      rw [List.getElem?_take] at hu
      split at hu
      · rw [Addr.add_lit]; exact hc j u hu
      · cases hu)
    (by rw [hcl]; omega) (fun u hu => h1 u (List.mem_of_mem_take hu))
  rw [hcl] at hrun
  have hrun2 : (execOp a.eval ⟨d, .call ⟨.builtin .copy, #[x, y], #[t, t']⟩, ty, pos, af, gd⟩).run P w = .ok (.value (.int .i64 ((min m k : Nat) : Int))) (w.setRow g (cur.toList.take lo ++ news.take (min m k) ++ cur.toList.drop (lo + min m k)).toArray) := by
    simp [execOp, resolve, invoke, builtin, hx a hF, hy a hF, hrun, goInt]
  unfold Oper.wp
  rw [hrun2]
  have hgl : g < w.heap.size := (Array.getElem?_eq_some_iff.1 hg).1
  refine ⟨_, _, h, hF.put _ _, turn_vec hS hk ⟨?_, .inr ⟨g, 0, _, _, rfl, setRow_heap w g cur _ e _ hg, Nat.le_refl _, hcm, ?_, ?_⟩⟩ ⟨rfl, rfl, rfl, by simp [World.setRow], fun j _ hj => setRow_other w g j _ (fun e => hj (by simp [Value.ownBlock, e]))⟩ (fun j hj => ?_)⟩
  · rw [List.length_append, List.length_append, hcl, List.length_take, List.length_drop, hlen]; omega
  · simp only [List.size_toArray, List.length_append, hcl, List.length_take, List.length_drop, Array.length_toList]; omega
  · have := splice_mid cur.toList (news.take (min m k)) 0 lo n (by rw [hcl]; omega) (by rw [Array.length_toList]; omega)
    simp only [hcl, Nat.zero_add] at this
    rw [htk] at this
    simpa using this
  · have : g = j := by simpa [Value.ownBlock] using hj
    subst this
    exact ⟨by simpa [World.setRow] using hgl, .inl (by simp [Value.ownBlock])⟩
end
end Go.Proofs.YtoibebmhfcjpfaaGreatDoor.E

namespace Go.Proofs.YtoibebmhfcjpfaaGreatDoor.E
open Go.RowKit
section
variable {P : Program} {N : Nat} {w0 : World} {Q : Exit → Act → World → Prop} {F : Frm} {L : List Res} {c : Code} {d : Option Tmp} {x y : Operand} {ty t t' : TypeId} {pos : String} {af : Array Edge} {gd : Option (Nat × Bool)} {K : Frm → List Res → Prop}
theorem OwnV.spare {w : World} {e n cp : Nat} {A : Option Addr} {xs : List Value} (h : OwnV w e 1 (.slice A n cp) n xs) (hc : n + 1 ≤ cp) : ∃ v, OwnV w e 1 (.slice A (n + 1) cp) (n + 1) (xs ++ [v]) := by
  obtain ⟨hl, ⟨h1, _⟩ | ⟨g, o, cp', cur, h1, h2, h3, h4, h5, h6⟩⟩ := h
  · injection h1 with _ _ h1
    omega
  · injection h1 with e1 e2 e3
    subst e1 e3
    have hlt : n < (cur.toList.drop o).length := by rw [List.length_drop, Array.length_toList]; omega
    refine ⟨(cur.toList.drop o)[n], by simp [hl], .inr ⟨g, o, cp, cur, rfl, h2, hc, h4, h5, ?_⟩⟩
    rw [Nat.mul_one, List.take_succ_eq_append_getElem hlt]
    rw [Nat.mul_one] at h6
    rw [h6]
theorem St.spare {w : World} {i e n cp : Nat} {A : Option Addr} {xs : List Value} (h : St w0 w L) (hi : lget L i = some (vec e 1 (.slice A n cp) n xs)) (hc : n + 1 ≤ cp) : ∃ v, St w0 w (lset L i (vec e 1 (.slice A (n + 1) cp) (n + 1) (xs ++ [v]))) := by
  obtain ⟨v, hv⟩ := OwnV.spare (h.holds i _ hi) hc
  have hfoot : (vec e 1 (.slice A (n + 1) cp) (n + 1) (xs ++ [v])).foot = (vec e 1 (.slice A n cp) n xs).foot := by cases A <;> rfl
  exact ⟨v, h.turn hi rfl rfl rfl (Nat.le_refl _) (fun _ _ _ => rfl) hv (fun b hb => by
    rw [hfoot] at hb
    exact ⟨(h.lt i _ hi b hb).2, .inl hb⟩)⟩
end
/-- The call's own slice and a block of its own do not overlap. -/
theorem apart {P : Program} {w w0 : World} {L : List Res} {i j : Nat} {e n cp g o b off n' cp' : Nat} {xs cs : List Value} {tS tR : TypeId} (hS : St w0 w L) (hi : lget L i = some (vec e 1 (.slice (some ⟨g, o, none⟩) n cp) n xs)) (hj : lget L j = some (blk b cs)) (hne : i ≠ j) (hn : 0 < n) (hu : P.underlying tS = some (.slice e)) (hs : ∀ w, (sizeOf e).run P w = .ok 1 w) (lo : Nat) :
    (Extern.SlicesOverlaps.overlaps #[tS, tS] #[tR] #[.slice (some ⟨b, off, none⟩) n' cp', .slice (some ⟨g, o + lo, none⟩) (n - lo) (cp - lo)]).run P w = .ok (.bool false) w := by
  obtain ⟨hl, ⟨h1, _⟩ | ⟨g', o', cp'', cur, h1, h2, h3, h4, h5, h6⟩⟩ := hS.holds i _ hi
  · cases h1
  injection h1 with e1 _ e3
  injection e1 with e1
  injection e1 with e1 e4
  subst e1 e4 e3
  obtain ⟨T, hb⟩ := hS.holds j _ hj
  have hbg : b ≠ g := fun e1 => by
    subst e1
    exact hS.sep i j _ _ hi hj hne b (by simp [vec, Value.ownBlock]) (by simp [blk])
  refine Lib.run_overlaps_apart w tS tR e hu 1 hs ⟨b, off, none⟩ ⟨g, o + lo, none⟩ n' cp' (n - lo) (cp - lo) hbg T e cs.toArray.size cur.size ?_ ?_ ?_ ?_ ?_
  · simp [World.shape?, hb]
  · simp [World.shape?, h2]
  · omega
  · simp [World.frozen?, hb]
  · simp [World.frozen?, hb]
end Go.Proofs.YtoibebmhfcjpfaaGreatDoor.E

namespace Go.Proofs.YtoibebmhfcjpfaaGreatDoor.E
open Go.RowKit
section
variable {P : Program} {N : Nat} {w0 : World} {F : Frm} {L : List Res} {d : Option Tmp} {x : Operand} {v : Value} {ty t : TypeId} {pos : String} {af : Array Edge} {gd : Option (Nat × Bool)} {K : Frm → List Res → Prop}
end
end Go.Proofs.YtoibebmhfcjpfaaGreatDoor.E
