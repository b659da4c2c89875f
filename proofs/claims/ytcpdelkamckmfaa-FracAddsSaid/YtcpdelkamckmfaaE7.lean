/- A region that writes into a slice: where the slice lies is known throughout. -/
import Derived.Test.YtcpdelkamckmfaaE6
namespace Go.Proofs.Ytcpdelkamckmfaa.E
open Go.RowKit

/-- A slice of the call's own, whatever it holds. -/
def vecw (e s : Nat) (v : Value) (n : Nat) : Res where
  foot := v.ownBlock.toList
  holds w := ∃ xs, OwnV w e s v n xs
  stable w w' h := fun ⟨xs, ho⟩ => ⟨xs, (vec e s v n xs).stable w w' h ho⟩

section
variable {P : Program} {N : Nat} {w0 : World} {F : Frm} {L : List Res} {d : Option Tmp} {x y : Operand} {v : Value} {ty t : TypeId} {pos : String} {af : Array Edge} {gd : Option (Nat × Bool)}
theorem St.weak {w : World} {e s n i : Nat} {xs : List Value} (h : St w0 w L) (hi : lget L i = some (vec e s v n xs)) : St w0 w (lset L i (vecw e s v n)) := by
  have key : ∀ k r, lget (lset L i (vecw e s v n)) k = some r → ∃ r', lget L k = some r' ∧ r.foot = r'.foot ∧ r.holds w := by
    intro k r hk
    rw [lget_lset] at hk
    split at hk
    · rename_i e1
      subst e1
      rw [hi] at hk
      simp only [Option.map_some, Option.some.injEq] at hk
      subst hk
      exact ⟨_, hi, rfl, xs, h.holds _ _ hi⟩
    · exact ⟨r, hk, rfl, h.holds k r hk⟩
  refine ⟨h.below, fun k r hk => ?_, fun k r hk b hb => ?_, fun k l r t hk hl hne b hb hb' => ?_⟩
  · exact (key k r hk).choose_spec.2.2
  · obtain ⟨r', h1, h2, _⟩ := key k r hk
    exact h.lt k r' h1 b (h2 ▸ hb)
  · obtain ⟨r', h1, h2, _⟩ := key k r hk
    obtain ⟨t', h3, h4, _⟩ := key l t hl
    exact h.sep k l r' t' h1 h3 hne b (h2 ▸ hb) (h4 ▸ hb')

/-- Where a slice lies. -/
def Rch (w0 : World) (L : List Res) (A : Option Addr) : Prop := ∀ w, St w0 w L → ∃ b o, A = some ⟨b, o, none⟩
theorem rch_w {e s n m c : Nat} {A : Option Addr} (i : Nat) (hi : lget L i = some (vecw e s (.slice A m c) n)) (hn : 0 < n) : Rch w0 L A := fun w hS => by
  obtain ⟨xs, hlen, ⟨_, h0⟩ | ⟨g, off, cap, cur, hv, _⟩⟩ := hS.holds i _ hi
  · omega
  · injection hv with h1
    exact ⟨g, off, h1⟩
theorem rch_r {A : Option Addr} {xs : List Value} (h : RdL w0 L A xs) (hn : 0 < xs.length) : Rch w0 L A := fun w hS => by
  obtain ⟨b, o, hA, _⟩ := (h w hS).at_ hn
  exact ⟨b, o, hA⟩
theorem y_indexR {A : Option Addr} {n c e s j m : Nat} {k : IntKind} (hu : P.underlying t = some (.slice e)) (hs : ∀ w, (sizeOf e).run P w = .ok s w) (hx : FE N F x (.slice A n c)) (hi : FE N F y (.int k (j : Int))) (hr : Rch w0 L A) (hj : j < n) (hm : j * s = m) :
    Yld P N w0 F L ⟨d, .indexAddr t x y, ty, pos, af, gd⟩ (elt A m) := fun a w hF hS => by
  subst hm
  obtain ⟨b, o, rfl⟩ := hr w hS
  simp [execOp, hx a hF, hi a hF, elt, Instr.indexAt, asIntOf, run_underlying hu, hs, hj]
  unfold Addr.add
  split
  · rename_i h; simp [h]
  · rfl
theorem y_indexRI {A : Option Addr} {n c e s m : Nat} {j : Int} {k : IntKind} (hu : P.underlying t = some (.slice e)) (hs : ∀ w, (sizeOf e).run P w = .ok s w) (hx : FE N F x (.slice A n c)) (hi : FE N F y (.int k j)) (hr : Rch w0 L A) (h0 : 0 ≤ j) (hj : j < n) (hm : j.toNat * s = m) :
    Yld P N w0 F L ⟨d, .indexAddr t x y, ty, pos, af, gd⟩ (elt A m) :=
  y_indexR (j := j.toNat) hu hs hx (by rw [Int.toNat_of_nonneg h0]; exact hi) hr (by omega) hm
end

section
variable {P : Program} {N : Nat} {w0 : World} {Q : Exit → Act → World → Prop} {F : Frm} {L : List Res} {v : Value}
theorem tr_draww {id : Nat} {l : List Oper} {e s n : Nat} {xs : List Value} (i : Nat) (ks : List Nat) (hi : lget L i = some (vec e s v n xs)) (hs : ks.map (lget (lset L i (vecw e s v n))) = (sel (lset L i (vecw e s v n)) ks).map some) (hn : ks.Nodup) (hm : P.follows .mixedOrders = true)
    (h : TA P N w0 l.toArray Q (sel (lset L i (vecw e s v n)) ks) l.length (Array.replicate l.length false) F L) : TR P N w0 Q (.region id l.toArray true) F L :=
  tr_draw (sel (lset L i (vecw e s v n)) ks) (fun w hS => (hS.weak hi).sel ks hs hn) hm h
end
/-- A list of n things, that are g's ahead of k and f's from there on. -/
def mix {α : Type} (f g : Nat → α) (n k : Nat) : List α := (List.range n).map fun q => if q < k then g q else f q
theorem mix_len {α : Type} {f g : Nat → α} {n k : Nat} : (mix f g n k).length = n := by simp [mix]
theorem mix_zero {α : Type} {f g : Nat → α} {n : Nat} : mix f g n 0 = (List.range n).map f := by simp [mix]
theorem mix_all {α : Type} {f g : Nat → α} {n : Nat} : mix f g n n = (List.range n).map g := by
  apply List.map_congr_left
  intro q hq
  rw [if_pos (List.mem_range.1 hq)]
theorem mix_get {α : Type} {f g : Nat → α} {n k : Nat} (h : k < n) : (mix f g n k)[k]? = some (f k) := by simp [mix, h]
theorem mix_set {α : Type} {f g : Nat → α} {n k : Nat} (h : k < n) : (mix f g n k).set k (g k) = mix f g n (k + 1) := by
  apply List.ext_getElem
  · simp [mix]
  · intro i h1 h2
    rw [List.getElem_set]
    simp only [mix, List.getElem_map, List.getElem_range]
    by_cases hik : k = i
    · subst hik; simp
    · rw [if_neg hik]
      by_cases h3 : i < k
      · rw [if_pos h3, if_pos (by omega)]
      · rw [if_neg h3, if_neg (by omega)]
theorem mix_self {α : Type} {f g : Nat → α} {n k : Nat} (h : k < n) : (mix f g n k).set k (f k) = mix f g n k := by
  apply List.ext_getElem
  · simp
  · intro i h1 h2
    rw [List.getElem_set]
    by_cases hik : k = i
    · subst hik; simp [mix]
    · rw [if_neg hik]
theorem set_get {α : Type} {l : List α} {k : Nat} {x : α} (h : k < l.length) : (l.set k x)[k]? = some x := by simp [h]
end Go.Proofs.Ytcpdelkamckmfaa.E
