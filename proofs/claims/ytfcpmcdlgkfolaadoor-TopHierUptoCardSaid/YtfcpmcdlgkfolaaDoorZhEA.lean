/- Pure facts out of what is held; rows of rows that are read. -/
import Derived.Test.YtfcpmcdlgkfolaaDoorZhE5
import Derived.Test.YtfcpmcdlgkfolaaDoorZhRdR
import Derived.Laws.StructEq
import Derived.Lib.Hide
import Derived.Laws.Cover3
namespace Go.Proofs.YtfcpmcdlgkfolaaDoor.E
open Go.RowKit

def emp : Res := ⟨[], fun _ => True, fun _ _ _ h => h⟩
section
variable {P : Program} {N : Nat} {w0 : World} {ops : Array Oper} {Q : Exit → Act → World → Prop} {F : Frm} {L S : List Res} {c : Code} {l : List Oper}
end

def cI (l : List Int) : List Value := l.map (Value.int .i64)
/-- What the headers are. -/
def Hdr (hs : List Value) (ls : List (List Int)) : Prop := hs.length = ls.length ∧ ∀ i (h : i < ls.length) (h' : i < hs.length), ∃ A c, hs[i] = .slice A ls[i].length c ∧ ls[i].length ≤ c
theorem _root_.Go.Proofs.YtfcpmcdlgkfolaaDoor.RdR.hdr {w : World} {A : Option Addr} {hs : List Value} {ls : List (List Int)} (h : RdR w A hs ls) : Hdr hs ls := ⟨h.len, fun i hi _ => by
  obtain ⟨A, c, h1, h2, _⟩ := h.row i hi
  exact ⟨A, c, h1, h2⟩⟩
theorem _root_.Go.Proofs.YtfcpmcdlgkfolaaDoor.RdR.rd {w : World} {A B : Option Addr} {hs : List Value} {ls : List (List Int)} {i n c : Nat} (h : RdR w A hs ls) (hi : i < ls.length) (h' : i < hs.length) (he : hs[i] = .slice B n c) : Rd w B (ls[i].map (.int .i64)) := by
  obtain ⟨B', c', h1, _, h3⟩ := h.row i hi
  rw [he] at h1
  injection h1 with e1 e2 e3
  subst e1
  exact h3
end Go.Proofs.YtfcpmcdlgkfolaaDoor.E

namespace Go.Proofs.YtfcpmcdlgkfolaaDoor.E
open Go.RowKit

/-- A slice of the call's own, whatever it holds. -/
def vecw (e s : Nat) (v : Value) (n : Nat) : Res where
  foot := v.ownBlock.toList
  holds w := ∃ xs, OwnV w e s v n xs
  stable w w' h := fun ⟨xs, ho⟩ => ⟨xs, (vec e s v n xs).stable w w' h ho⟩

section
variable {P : Program} {N : Nat} {w0 : World} {F : Frm} {L : List Res} {d : Option Tmp} {x y : Operand} {v : Value} {ty t : TypeId} {pos : String} {af : Array Edge} {gd : Option (Nat × Bool)}
theorem St.weak {w : World} {e s n i : Nat} {xs : List Value} (h : St w0 w L) (hi : lget L i = some (vec e s v n xs)) : St w0 w (lset L i (vecw e s v n)) := by
  have key : ∀ k r, lget (lset L i (vecw e s v n)) k = some r → ∃ r', lget L k = some r' ∧ r.foot = r'.foot ∧ r.holds w := by
    intro k r hk
    rw [lget_lset] at hk
    split at hk
    · rename_i e1
      subst e1
      rw [hi] at hk
      simp only [Option.map_some, Option.some.injEq] at hk
      subst hk
      exact ⟨_, hi, rfl, xs, h.holds _ _ hi⟩
    · exact ⟨r, hk, rfl, h.holds k r hk⟩
  refine ⟨h.below, fun k r hk => ?_, fun k r hk b hb => ?_, fun k l r t hk hl hne b hb hb' => ?_⟩
  · exact (key k r hk).choose_spec.2.2
  · obtain ⟨r', h1, h2, _⟩ := key k r hk
    exact h.lt k r' h1 b (h2 ▸ hb)
  · obtain ⟨r', h1, h2, _⟩ := key k r hk
    obtain ⟨t', h3, h4, _⟩ := key l t hl
    exact h.sep k l r' t' h1 h3 hne b (h2 ▸ hb) (h4 ▸ hb')

/-- Where a slice lies. -/
def Rch (w0 : World) (L : List Res) (A : Option Addr) : Prop := ∀ w, St w0 w L → ∃ b o, A = some ⟨b, o, none⟩
theorem rch_w {e s n m c : Nat} {A : Option Addr} (i : Nat) (hi : lget L i = some (vecw e s (.slice A m c) n)) (hn : 0 < n) : Rch w0 L A := fun w hS => by
  obtain ⟨xs, hlen, ⟨_, h0⟩ | ⟨g, off, cap, cur, hv, _⟩⟩ := hS.holds i _ hi
  · omega
  · injection hv with h1
    exact ⟨g, off, h1⟩
end

section
variable {P : Program} {N : Nat} {w0 : World} {Q : Exit → Act → World → Prop} {F : Frm} {L : List Res} {v : Value}
end
end Go.Proofs.YtfcpmcdlgkfolaaDoor.E

namespace Go.Proofs.YtfcpmcdlgkfolaaDoor.E
open Go.RowKit

section
variable {P : Program} {N : Nat} {w0 : World} {F : Frm} {L : List Res} {d : Option Tmp} {x y : Operand} {v : Value} {ty t t' : TypeId} {pos : String} {af : Array Edge} {gd : Option (Nat × Bool)} {k : IntKind} {a b : Int}
/-- Any operator, by what it says of these values. -/
theorem y_binop {op : BinOp} {vx vy : Value} (hx : FE N F x vx) (hy : FE N F y vy) (h : ∀ w, (do eqGuard op t x y vx vy; binOp op t vx vy : Sem Value).run P w = .ok v w) : Yld P N w0 F L ⟨d, .binOp op t x y t', ty, pos, af, gd⟩ v := fun c w hF _ => by
  have := h w
  simp only [execOp, hx c hF, hy c hF]
  simp only [Sem.run_bind, Sem.run_pure] at this ⊢
  rw [this]
  rfl
end
end Go.Proofs.YtfcpmcdlgkfolaaDoor.E

namespace Go.Proofs.YtfcpmcdlgkfolaaDoor.E
open Go.RowKit
section
variable {P : Program} {N : Nat} {w0 : World} {F : Frm} {L : List Res} {d : Option Tmp} {x y : Operand} {ty t t' e : TypeId} {pos : String} {af : Array Edge} {gd : Option (Nat × Bool)} {A : Option Addr} {n c : Nat}
theorem y_eqnil (hu : P.underlying t = some (.slice e)) (hx : FE N F x (.slice A n c)) (hy : FE N F y (.slice none 0 0)) : Yld P N w0 F L ⟨d, .binOp .eql t x y t', ty, pos, af, gd⟩ (.bool A.isNone) :=
  y_binop hx hy fun w => by simp [eqGuard, binOp, run_equal_slice_nil w _ _ _ _ _ hu]
/-- A number that is said otherwise. -/
theorem fe_i {i : Nat} {k : IntKind} {z z' : Int} (hz : z = z') (h : fget N F i = some (.int k z)) : FE N F (.tmp i) (.int k z') := fe_t (hz ▸ h)
end
end Go.Proofs.YtfcpmcdlgkfolaaDoor.E

namespace Go.Proofs.YtfcpmcdlgkfolaaDoor.E
open Go.RowKit

section
variable {P : Program} {N : Nat} {w0 : World} {F : Frm} {L : List Res} {d : Option Tmp} {x y : Operand} {v : Value} {ty t : TypeId} {pos : String} {af : Array Edge} {gd : Option (Nat × Bool)} {K : Frm → List Res → Prop}
end
end Go.Proofs.YtfcpmcdlgkfolaaDoor.E
