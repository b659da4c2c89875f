/- copy within and into a slice that the call has made. -/
import Derived.Test.YtfcpmcdlgkfolaaDoorZhEJ
import Derived.Laws.CopyRow
import Derived.Laws.Externs
import Derived.Lib.Overlaps
import Derived.Lib.AppendZerosOnto
namespace Go.Proofs.YtfcpmcdlgkfolaaDoor.E
open Go.RowKit

section
variable {P : Program} {N : Nat} {w0 : World} {F : Frm} {L : List Res} {d : Option Tmp} {x y z : Operand} {v u : Value} {ty t t' : TypeId} {pos : String} {af : Array Edge} {gd : Option (Nat × Bool)} {K : Frm → List Res → Prop}
end
end Go.Proofs.YtfcpmcdlgkfolaaDoor.E

namespace Go.Proofs.YtfcpmcdlgkfolaaDoor.E
open Go.RowKit
section
variable {P : Program} {N : Nat} {w0 : World} {Q : Exit → Act → World → Prop} {F : Frm} {L : List Res} {c : Code} {d : Option Tmp} {x y : Operand} {ty t t' : TypeId} {pos : String} {af : Array Edge} {gd : Option (Nat × Bool)} {K : Frm → List Res → Prop}
theorem OwnV.spare {w : World} {e n cp : Nat} {A : Option Addr} {xs : List Value} (h : OwnV w e 1 (.slice A n cp) n xs) (hc : n + 1 ≤ cp) : ∃ v, OwnV w e 1 (.slice A (n + 1) cp) (n + 1) (xs ++ [v]) := by
  obtain ⟨hl, ⟨h1, _⟩ | ⟨g, o, cp', cur, h1, h2, h3, h4, h5, h6⟩⟩ := h
  · injection h1 with _ _ h1
    omega
  · injection h1 with e1 e2 e3
    subst e1 e3
    have hlt : n < (cur.toList.drop o).length := by rw [List.length_drop, Array.length_toList]; omega
    refine ⟨(cur.toList.drop o)[n], by simp [hl], .inr ⟨g, o, cp, cur, rfl, h2, hc, h4, h5, ?_⟩⟩
    rw [Nat.mul_one, List.take_succ_eq_append_getElem hlt]
    rw [Nat.mul_one] at h6
    rw [h6]
theorem St.spare {w : World} {i e n cp : Nat} {A : Option Addr} {xs : List Value} (h : St w0 w L) (hi : lget L i = some (vec e 1 (.slice A n cp) n xs)) (hc : n + 1 ≤ cp) : ∃ v, St w0 w (lset L i (vec e 1 (.slice A (n + 1) cp) (n + 1) (xs ++ [v]))) := by
  obtain ⟨v, hv⟩ := OwnV.spare (h.holds i _ hi) hc
  have hfoot : (vec e 1 (.slice A (n + 1) cp) (n + 1) (xs ++ [v])).foot = (vec e 1 (.slice A n cp) n xs).foot := by cases A <;> rfl
  exact ⟨v, h.turn hi rfl rfl rfl (Nat.le_refl _) (fun _ _ _ => rfl) hv (fun b hb => by
    rw [hfoot] at hb
    exact ⟨(h.lt i _ hi b hb).2, .inl hb⟩)⟩
end
/-- The call's own slice and a block of its own do not overlap. -/
theorem apart {P : Program} {w w0 : World} {L : List Res} {i j : Nat} {e n cp g o b off n' cp' : Nat} {xs cs : List Value} {tS tR : TypeId} (hS : St w0 w L) (hi : lget L i = some (vec e 1 (.slice (some ⟨g, o, none⟩) n cp) n xs)) (hj : lget L j = some (blk b cs)) (hne : i ≠ j) (hn : 0 < n) (hu : P.underlying tS = some (.slice e)) (hs : ∀ w, (sizeOf e).run P w = .ok 1 w) (lo : Nat) :
    (Extern.SlicesOverlaps.overlaps #[tS, tS] #[tR] #[.slice (some ⟨b, off, none⟩) n' cp', .slice (some ⟨g, o + lo, none⟩) (n - lo) (cp - lo)]).run P w = .ok (.bool false) w := by
  obtain ⟨hl, ⟨h1, _⟩ | ⟨g', o', cp'', cur, h1, h2, h3, h4, h5, h6⟩⟩ := hS.holds i _ hi
  · cases h1
  injection h1 with e1 _ e3
  injection e1 with e1
  injection e1 with e1 e4
  subst e1 e4 e3
  obtain ⟨T, hb⟩ := hS.holds j _ hj
  have hbg : b ≠ g := fun e1 => by
    subst e1
    exact hS.sep i j _ _ hi hj hne b (by simp [vec, Value.ownBlock]) (by simp [blk])
  refine Lib.run_overlaps_apart w tS tR e hu 1 hs ⟨b, off, none⟩ ⟨g, o + lo, none⟩ n' cp' (n - lo) (cp - lo) hbg T e cs.toArray.size cur.size ?_ ?_ ?_ ?_ ?_
  · simp [World.shape?, hb]
  · simp [World.shape?, h2]
  · omega
  · simp [World.frozen?, hb]
  · simp [World.frozen?, hb]
end Go.Proofs.YtfcpmcdlgkfolaaDoor.E

namespace Go.Proofs.YtfcpmcdlgkfolaaDoor.E
open Go.RowKit
section
variable {P : Program} {N : Nat} {w0 : World} {F : Frm} {L : List Res} {d : Option Tmp} {x : Operand} {v : Value} {ty t : TypeId} {pos : String} {af : Array Edge} {gd : Option (Nat × Bool)} {K : Frm → List Res → Prop}
end
end Go.Proofs.YtfcpmcdlgkfolaaDoor.E
