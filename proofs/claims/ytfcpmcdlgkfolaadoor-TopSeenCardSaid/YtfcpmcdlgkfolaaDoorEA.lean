/- Pure facts out of what is held; rows of rows that are read. -/
import Derived.Test.YtfcpmcdlgkfolaaDoorE5
import Derived.Test.YtfcpmcdlgkfolaaDoorRdR
import Derived.Laws.StructEq
import Derived.Lib.Hide
import Derived.Laws.Cover3
namespace Go.Proofs.YtfcpmcdlgkfolaaDoor.E
open Go.RowKit

def emp : Res := ⟨[], fun _ => True, fun _ _ _ h => h⟩
theorem emp_holds : ∀ w, emp.holds w := fun _ => trivial

section
variable {P : Program} {N : Nat} {w0 : World} {ops : Array Oper} {Q : Exit → Act → World → Prop} {F : Frm} {L S : List Res} {c : Code} {l : List Oper}
/-- A fact that hangs on no world. -/
theorem tr_pure {φ : Prop} (hφ : ∀ w, St w0 w L → φ) (h : φ → TR P N w0 Q c F L) : TR P N w0 Q c F L := fun a w hF hS => h (hφ w hS) a w hF hS
theorem tl_pure {φ : Prop} (hφ : ∀ w, St w0 w L → φ) (h : φ → TL P N w0 ops Q l F L) : TL P N w0 ops Q l F L := fun a w hF hS => h (hφ w hS) a w hF hS
theorem ta_pure {φ : Prop} {n : Nat} {listed : Array Bool} (hφ : ∀ w, St w0 w L → φ) (h : φ → TA P N w0 ops Q S n listed F L) : TA P N w0 ops Q S n listed F L := fun a w hF hS hC => h (hφ w hS) a w hF hS hC
end

def cI (l : List Int) : List Value := l.map (Value.int .i64)
theorem row_form {w : World} {e : TypeId} {h : Value} {n : Nat} {zs : List Int} (ho : OwnV w e 1 h n (cI zs)) : HdI w h zs := by
  obtain ⟨A, c, rfl, hc, hr⟩ := ho.form
  have : zs.length = n := by have := ho.1; simpa [cI] using this
  subst this
  exact ⟨A, c, rfl, hc, hr⟩
/-- A slice of the call's own of slices of the call's own, read. -/
theorem rdr_own {w : World} {e e' : TypeId} {A : Option Addr} {m c : Nat} {hs : List Value} {ls : List (List Int)} (h1 : OwnV w e' 1 (.slice A m c) m hs) (h2 : (rows e 1 hs (ls.map cI)).holds w) : RdR w A hs ls :=
  ⟨(OwnV.rd h1).2.2, by simpa using h2.1, fun i hi => by
    have hl : hs.length = ls.length := by simpa using h2.1
    obtain ⟨n, ho⟩ := h2.2 i (hs[i]'(by omega)) (cI ls[i]) (List.getElem?_eq_getElem (by omega)) (by simp [hi])
    exact row_form ho⟩
/-- What the headers are. -/
def Hdr (hs : List Value) (ls : List (List Int)) : Prop := hs.length = ls.length ∧ ∀ i (h : i < ls.length) (h' : i < hs.length), ∃ A c, hs[i] = .slice A ls[i].length c ∧ ls[i].length ≤ c
theorem _root_.Go.Proofs.YtfcpmcdlgkfolaaDoor.RdR.hdr {w : World} {A : Option Addr} {hs : List Value} {ls : List (List Int)} (h : RdR w A hs ls) : Hdr hs ls := ⟨h.len, fun i hi _ => by
  obtain ⟨A, c, h1, h2, _⟩ := h.row i hi
  exact ⟨A, c, h1, h2⟩⟩
theorem _root_.Go.Proofs.YtfcpmcdlgkfolaaDoor.RdR.rd {w : World} {A B : Option Addr} {hs : List Value} {ls : List (List Int)} {i n c : Nat} (h : RdR w A hs ls) (hi : i < ls.length) (h' : i < hs.length) (he : hs[i] = .slice B n c) : Rd w B (ls[i].map (.int .i64)) := by
  obtain ⟨B', c', h1, _, h3⟩ := h.row i hi
  rw [he] at h1
  injection h1 with e1 e2 e3
  subst e1
  exact h3
theorem getH {hs : List Value} {i : Nat} {v : Value} (h : i < hs.length) (he : hs[i] = v) : hs[i]? = some v := by rw [List.getElem?_eq_getElem h, he]
end Go.Proofs.YtfcpmcdlgkfolaaDoor.E

namespace Go.Proofs.YtfcpmcdlgkfolaaDoor.E
open Go.RowKit

/-- A slice of the call's own, whatever it holds. -/
def vecw (e s : Nat) (v : Value) (n : Nat) : Res where
  foot := v.ownBlock.toList
  holds w := ∃ xs, OwnV w e s v n xs
  stable w w' h := fun ⟨xs, ho⟩ => ⟨xs, (vec e s v n xs).stable w w' h ho⟩

section
variable {P : Program} {N : Nat} {w0 : World} {F : Frm} {L : List Res} {d : Option Tmp} {x y : Operand} {v : Value} {ty t : TypeId} {pos : String} {af : Array Edge} {gd : Option (Nat × Bool)}
theorem St.weak {w : World} {e s n i : Nat} {xs : List Value} (h : St w0 w L) (hi : lget L i = some (vec e s v n xs)) : St w0 w (lset L i (vecw e s v n)) := by
  have key : ∀ k r, lget (lset L i (vecw e s v n)) k = some r → ∃ r', lget L k = some r' ∧ r.foot = r'.foot ∧ r.holds w := by
    intro k r hk
    rw [lget_lset] at hk
    split at hk
    · rename_i e1
      subst e1
      rw [hi] at hk
      simp only [Option.map_some, Option.some.injEq] at hk
      subst hk
      exact ⟨_, hi, rfl, xs, h.holds _ _ hi⟩
    · exact ⟨r, hk, rfl, h.holds k r hk⟩
  refine ⟨h.below, fun k r hk => ?_, fun k r hk b hb => ?_, fun k l r t hk hl hne b hb hb' => ?_⟩
  · exact (key k r hk).choose_spec.2.2
  · obtain ⟨r', h1, h2, _⟩ := key k r hk
    exact h.lt k r' h1 b (h2 ▸ hb)
  · obtain ⟨r', h1, h2, _⟩ := key k r hk
    obtain ⟨t', h3, h4, _⟩ := key l t hl
    exact h.sep k l r' t' h1 h3 hne b (h2 ▸ hb) (h4 ▸ hb')

/-- Where a slice lies. -/
def Rch (w0 : World) (L : List Res) (A : Option Addr) : Prop := ∀ w, St w0 w L → ∃ b o, A = some ⟨b, o, none⟩
theorem rch_w {e s n m c : Nat} {A : Option Addr} (i : Nat) (hi : lget L i = some (vecw e s (.slice A m c) n)) (hn : 0 < n) : Rch w0 L A := fun w hS => by
  obtain ⟨xs, hlen, ⟨_, h0⟩ | ⟨g, off, cap, cur, hv, _⟩⟩ := hS.holds i _ hi
  · omega
  · injection hv with h1
    exact ⟨g, off, h1⟩
theorem rch_r {A : Option Addr} {xs : List Value} (h : RdL w0 L A xs) (hn : 0 < xs.length) : Rch w0 L A := fun w hS => by
  obtain ⟨b, o, hA, _⟩ := (h w hS).at_ hn
  exact ⟨b, o, hA⟩
theorem y_indexR {A : Option Addr} {n c e s j m : Nat} {k : IntKind} (hu : P.underlying t = some (.slice e)) (hs : ∀ w, (sizeOf e).run P w = .ok s w) (hx : FE N F x (.slice A n c)) (hi : FE N F y (.int k (j : Int))) (hr : Rch w0 L A) (hj : j < n) (hm : j * s = m) :
    Yld P N w0 F L ⟨d, .indexAddr t x y, ty, pos, af, gd⟩ (elt A m) := fun a w hF hS => by
  subst hm
  obtain ⟨b, o, rfl⟩ := hr w hS
  simp [execOp, hx a hF, hi a hF, elt, Instr.indexAt, asIntOf, run_underlying hu, hs, hj]
  unfold Addr.add
  split
  · rename_i h; simp [h]
  · rfl
theorem y_indexRI {A : Option Addr} {n c e s m : Nat} {j : Int} {k : IntKind} (hu : P.underlying t = some (.slice e)) (hs : ∀ w, (sizeOf e).run P w = .ok s w) (hx : FE N F x (.slice A n c)) (hi : FE N F y (.int k j)) (hr : Rch w0 L A) (h0 : 0 ≤ j) (hj : j < n) (hm : j.toNat * s = m) :
    Yld P N w0 F L ⟨d, .indexAddr t x y, ty, pos, af, gd⟩ (elt A m) :=
  y_indexR (j := j.toNat) hu hs hx (by rw [Int.toNat_of_nonneg h0]; exact hi) hr (by omega) hm
end

section
variable {P : Program} {N : Nat} {w0 : World} {Q : Exit → Act → World → Prop} {F : Frm} {L : List Res} {v : Value}
theorem tr_draww {id : Nat} {l : List Oper} {e s n : Nat} {xs : List Value} (i : Nat) (ks : List Nat) (hi : lget L i = some (vec e s v n xs)) (hs : ks.map (lget (lset L i (vecw e s v n))) = (sel (lset L i (vecw e s v n)) ks).map some) (hn : ks.Nodup) (hm : P.follows .mixedOrders = true)
    (h : TA P N w0 l.toArray Q (sel (lset L i (vecw e s v n)) ks) l.length (Array.replicate l.length false) F L) : TR P N w0 Q (.region id l.toArray true) F L :=
  tr_draw (sel (lset L i (vecw e s v n)) ks) (fun w hS => (hS.weak hi).sel ks hs hn) hm h
end
/-- A list of n things, that are g's ahead of k and f's from there on. -/
def mix {α : Type} (f g : Nat → α) (n k : Nat) : List α := (List.range n).map fun q => if q < k then g q else f q
theorem mix_len {α : Type} {f g : Nat → α} {n k : Nat} : (mix f g n k).length = n := by simp [mix]
theorem mix_zero {α : Type} {f g : Nat → α} {n : Nat} : mix f g n 0 = (List.range n).map f := by simp [mix]
theorem mix_all {α : Type} {f g : Nat → α} {n : Nat} : mix f g n n = (List.range n).map g := by
  apply List.map_congr_left
  intro q hq
  rw [if_pos (List.mem_range.1 hq)]
theorem mix_get {α : Type} {f g : Nat → α} {n k : Nat} (h : k < n) : (mix f g n k)[k]? = some (f k) := by simp [mix, h]
theorem mix_set {α : Type} {f g : Nat → α} {n k : Nat} (h : k < n) : (mix f g n k).set k (g k) = mix f g n (k + 1) := by
  apply List.ext_getElem
  · simp [mix]
  · intro i h1 h2
    rw [List.getElem_set]
    simp only [mix, List.getElem_map, List.getElem_range]
    by_cases hik : k = i
    · subst hik; simp
    · rw [if_neg hik]
      by_cases h3 : i < k
      · rw [if_pos h3, if_pos (by omega)]
      · rw [if_neg h3, if_neg (by omega)]
theorem mix_self {α : Type} {f g : Nat → α} {n k : Nat} (h : k < n) : (mix f g n k).set k (f k) = mix f g n k := by
  apply List.ext_getElem
  · simp
  · intro i h1 h2
    rw [List.getElem_set]
    by_cases hik : k = i
    · subst hik; simp [mix]
    · rw [if_neg hik]
theorem set_get {α : Type} {l : List α} {k : Nat} {x : α} (h : k < l.length) : (l.set k x)[k]? = some x := by simp [h]
end Go.Proofs.YtfcpmcdlgkfolaaDoor.E

namespace Go.Proofs.YtfcpmcdlgkfolaaDoor.E
open Go.RowKit

section
variable {P : Program} {N : Nat} {w0 : World} {F : Frm} {L : List Res} {d : Option Tmp} {x y : Operand} {v : Value} {ty t t' : TypeId} {pos : String} {af : Array Edge} {gd : Option (Nat × Bool)} {k : IntKind} {a b : Int}
/-- Any operator, by what it says of these values. -/
theorem y_binop {op : BinOp} {vx vy : Value} (hx : FE N F x vx) (hy : FE N F y vy) (h : ∀ w, (do eqGuard op t x y vx vy; binOp op t vx vy : Sem Value).run P w = .ok v w) : Yld P N w0 F L ⟨d, .binOp op t x y t', ty, pos, af, gd⟩ v := fun c w hF _ => by
  have := h w
  simp only [execOp, hx c hF, hy c hF]
  simp only [Sem.run_bind, Sem.run_pure] at this ⊢
  rw [this]
  rfl
end
theorem neq_sent {x y : Operand} (a b c d : Int) (w : World) : (do eqGuard .neq 81 x y (.agg #[(.int .i64 a), (.int .i64 b)]) (.agg #[(.int .i64 c), (.int .i64 d)]); binOp .neq 81 (.agg #[(.int .i64 a), (.int .i64 b)]) (.agg #[(.int .i64 c), (.int .i64 d)]) : Sem Value).run Tryd.prog w = .ok (.bool (decide (¬ (a = c ∧ b = d)))) w := by
  have : (!(a == c && b == d)) = decide (¬ (a = c ∧ b = d)) := by by_cases h : a = c <;> by_cases h2 : b = d <;> simp [h, h2]
  rw [← this]
  have e : ∀ x y, Op.equal 81 x y = Op.equalIn (9998 + 1 + 1) 81 x y := fun _ _ => rfl
  by_cases h : a = c <;> by_cases h2 : b = d <;> simp [eqGuard, binOp, e, go_sem, h, h2]
end Go.Proofs.YtfcpmcdlgkfolaaDoor.E

namespace Go.Proofs.YtfcpmcdlgkfolaaDoor.E
open Go.RowKit
section
variable {P : Program} {N : Nat} {w0 : World} {F : Frm} {L : List Res} {d : Option Tmp} {x y : Operand} {ty t t' e : TypeId} {pos : String} {af : Array Edge} {gd : Option (Nat × Bool)} {A : Option Addr} {n c : Nat}
theorem y_eqnil (hu : P.underlying t = some (.slice e)) (hx : FE N F x (.slice A n c)) (hy : FE N F y (.slice none 0 0)) : Yld P N w0 F L ⟨d, .binOp .eql t x y t', ty, pos, af, gd⟩ (.bool A.isNone) :=
  y_binop hx hy fun w => by simp [eqGuard, binOp, run_equal_slice_nil w _ _ _ _ _ hu]
theorem y_nenil (hu : P.underlying t = some (.slice e)) (hx : FE N F x (.slice A n c)) (hy : FE N F y (.slice none 0 0)) : Yld P N w0 F L ⟨d, .binOp .neq t x y t', ty, pos, af, gd⟩ (.bool (!A.isNone)) :=
  y_binop hx hy fun w => by simp [eqGuard, binOp, run_equal_slice_nil w _ _ _ _ _ hu]
/-- A number that is said otherwise. -/
theorem fe_i {i : Nat} {k : IntKind} {z z' : Int} (hz : z = z') (h : fget N F i = some (.int k z)) : FE N F (.tmp i) (.int k z') := fe_t (hz ▸ h)
end
end Go.Proofs.YtfcpmcdlgkfolaaDoor.E

namespace Go.Proofs.YtfcpmcdlgkfolaaDoor.E
open Go.RowKit

section
variable {P : Program} {N : Nat} {w0 : World} {F : Frm} {L : List Res} {d : Option Tmp} {x y : Operand} {v : Value} {ty t : TypeId} {pos : String} {af : Array Edge} {gd : Option (Nat × Bool)} {K : Frm → List Res → Prop}
/-- As oj_append, for things of one byte. -/
theorem oj_append47 {e s bytes n m c i : Nat} {z : Value} {xs news : List Value} {A : Option Addr} (hu : P.underlying t = some (.slice e)) (hi : (P.info? e).map (fun i => (i.zero, i.size, i.bytes)) = some (some z, s, bytes)) (hx : FE N F x v) (hy : FE N F y (.slice A m c))
    (hk : lget L i = some (vec e s v n xs)) (hr : RdL w0 L A news) (hl : news.length = m * s) (hz : z.cells.size = s ∧ 0 < s) (h1 : ∀ u ∈ news, u.oneCell' = true) (hA : 0 < m) (hb : n + m ≤ 140737488355328 ∧ bytes ≤ 1)
    (h : ∀ A' c', n + m ≤ c' → K (fput F d (.slice A' (n + m) c')) (lset L i (vec e s (.slice A' (n + m) c') (n + m) (xs ++ news)))) : OpJ P N w0 F L ⟨d, .call ⟨.builtin .append, #[x, y], #[t, t]⟩, ty, pos, af, gd⟩ K := fun a w hF hS => by
  obtain ⟨inf, h2, h3, h4, h5⟩ := info_parts' hi
  have hbytes : (n + m) * bytes ≤ 140737488355328 := Nat.le_trans (Nat.mul_le_mul hb.1 hb.2) (by omega)
  have h0 : 0 < news.length := by rw [hl]; exact Nat.mul_pos hA hz.2
  rcases hr w hS with hn | ⟨g, o, rfl, hc⟩
  · rw [hn] at h0; simp at h0
  obtain ⟨v', w', hrun, r1, r2, r3⟩ := run_append_ownV (P := P) w t ty e inf z s bytes hu h2 h3 h4 h5 hz.1 hz.2 v n xs (hS.holds i _ hk) ⟨g, o, none⟩ m c news hl (fun j u hu => by rw [Addr.add_lit]; exact hc j u hu) h1 (by unfold maxLen; omega) hbytes
  have hrun2 : (execOp a.eval ⟨d, .call ⟨.builtin .append, #[x, y], #[t, t]⟩, ty, pos, af, gd⟩).run P w = .ok (.value v') w' := by
    simp [execOp, resolve, invoke, builtin, hx a hF, hy a hF, hrun]
  unfold Oper.wp
  rw [hrun2]
  obtain ⟨A', c', rfl, hc', _⟩ := OwnV.form r1
  exact ⟨_, _, h A' c' hc', hF.put _ _, turn_vec hS hk r1 r2 r3⟩
end
/-- x - 1 of a count. -/
theorem y_dec {P : Program} {N : Nat} {w0 : World} {F : Frm} {L : List Res} {d : Option Tmp} {x y : Operand} {ty t t' : TypeId} {pos : String} {af : Array Edge} {gd : Option (Nat × Bool)} {n : Nat} (hx : FE N F x (.int .i64 (n : Int))) (hy : FE N F y (.int .i64 1)) (h : 0 < n ∧ n ≤ 9223372036854775807) : Yld P N w0 F L ⟨d, .binOp .sub t x y t', ty, pos, af, gd⟩ (.int .i64 ((n - 1 : Nat) : Int)) := by
  have := y_sub (P := P) (w0 := w0) (L := L) (d := d) (t := t) (t' := t') (ty := ty) (pos := pos) (af := af) (gd := gd) hx hy (by omega)
  rwa [show ((n - 1 : Nat) : Int) = (n : Int) - 1 from by omega]
end Go.Proofs.YtfcpmcdlgkfolaaDoor.E
