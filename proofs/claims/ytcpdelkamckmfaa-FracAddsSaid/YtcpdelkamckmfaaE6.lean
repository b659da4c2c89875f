/- Pure facts out of what is held; rows of rows that are read. -/
import Derived.Test.YtcpdelkamckmfaaE5
import Derived.Test.YtcpdelkamckmfaaRdR
namespace Go.Proofs.Ytcpdelkamckmfaa.E
open Go.RowKit

def emp : Res := ⟨[], fun _ => True, fun _ _ _ h => h⟩
theorem emp_holds : ∀ w, emp.holds w := fun _ => trivial

section
variable {P : Program} {N : Nat} {w0 : World} {ops : Array Oper} {Q : Exit → Act → World → Prop} {F : Frm} {L S : List Res} {c : Code} {l : List Oper}
/-- A fact that hangs on no world. -/
theorem tr_pure {φ : Prop} (hφ : ∀ w, St w0 w L → φ) (h : φ → TR P N w0 Q c F L) : TR P N w0 Q c F L := fun a w hF hS => h (hφ w hS) a w hF hS
theorem tl_pure {φ : Prop} (hφ : ∀ w, St w0 w L → φ) (h : φ → TL P N w0 ops Q l F L) : TL P N w0 ops Q l F L := fun a w hF hS => h (hφ w hS) a w hF hS
theorem ta_pure {φ : Prop} {n : Nat} {listed : Array Bool} (hφ : ∀ w, St w0 w L → φ) (h : φ → TA P N w0 ops Q S n listed F L) : TA P N w0 ops Q S n listed F L := fun a w hF hS hC => h (hφ w hS) a w hF hS hC
end

def cI (l : List Int) : List Value := l.map (Value.int .i64)
theorem row_form {w : World} {e : TypeId} {h : Value} {n : Nat} {zs : List Int} (ho : OwnV w e 1 h n (cI zs)) : HdI w h zs := by
  obtain ⟨A, c, rfl, hc, hr⟩ := ho.form
  have : zs.length = n := by have := ho.1; simpa [cI] using this
  subst this
  exact ⟨A, c, rfl, hc, hr⟩
/-- A slice of the call's own of slices of the call's own, read. -/
theorem rdr_own {w : World} {e e' : TypeId} {A : Option Addr} {m c : Nat} {hs : List Value} {ls : List (List Int)} (h1 : OwnV w e' 1 (.slice A m c) m hs) (h2 : (rows e 1 hs (ls.map cI)).holds w) : RdR w A hs ls :=
  ⟨(OwnV.rd h1).2.2, by simpa using h2.1, fun i hi => by
    have hl : hs.length = ls.length := by simpa using h2.1
    obtain ⟨n, ho⟩ := h2.2 i (hs[i]'(by omega)) (cI ls[i]) (List.getElem?_eq_getElem (by omega)) (by simp [hi])
    exact row_form ho⟩
/-- What the headers are. -/
def Hdr (hs : List Value) (ls : List (List Int)) : Prop := hs.length = ls.length ∧ ∀ i (h : i < ls.length) (h' : i < hs.length), ∃ A c, hs[i] = .slice A ls[i].length c ∧ ls[i].length ≤ c
theorem _root_.Go.Proofs.Ytcpdelkamckmfaa.RdR.hdr {w : World} {A : Option Addr} {hs : List Value} {ls : List (List Int)} (h : RdR w A hs ls) : Hdr hs ls := ⟨h.len, fun i hi _ => by
  obtain ⟨A, c, h1, h2, _⟩ := h.row i hi
  exact ⟨A, c, h1, h2⟩⟩
theorem _root_.Go.Proofs.Ytcpdelkamckmfaa.RdR.rd {w : World} {A B : Option Addr} {hs : List Value} {ls : List (List Int)} {i n c : Nat} (h : RdR w A hs ls) (hi : i < ls.length) (h' : i < hs.length) (he : hs[i] = .slice B n c) : Rd w B (ls[i].map (.int .i64)) := by
  obtain ⟨B', c', h1, _, h3⟩ := h.row i hi
  rw [he] at h1
  injection h1 with e1 e2 e3
  subst e1
  exact h3
theorem getH {hs : List Value} {i : Nat} {v : Value} (h : i < hs.length) (he : hs[i] = v) : hs[i]? = some v := by rw [List.getElem?_eq_getElem h, he]
end Go.Proofs.Ytcpdelkamckmfaa.E
