/- The rules of single operations. -/
import Derived.Test.YtpknjfeiiaopgaaE1
import Derived.Laws.Tables
import Derived.Laws.Slices
import Derived.Laws.MakeOwn
import Derived.Laws.OwnMore
import Derived.Laws.CopyRow
import Derived.Laws.Rows
import Derived.IntWalk
namespace Go.Proofs.Ytpknjfeiiaopgaa.E
open Go.RowKit

/-- The address of cell j of a slice that begins at A. -/
def elt (A : Option Addr) (j : Nat) : Value := match A with | some a => .pointer (some ⟨a.block, a.off + j, none⟩) | none => .pointer none

section
variable {P : Program} {N : Nat} {w0 : World} {F : Frm} {L : List Res} {d : Option Tmp} {x y z : Operand} {v u : Value} {ty t t' : TypeId} {pos : String} {af : Array Edge} {gd : Option (Nat × Bool)} {k : IntKind} {a b : Int}

/-- What a slice reads as. -/
def RdL (w0 : World) (L : List Res) (A : Option Addr) (xs : List Value) : Prop := ∀ w, St w0 w L → Rd w A xs
theorem rdl_out {A : Option Addr} {xs : List Value} (h : Rd w0 A xs) : RdL w0 L A xs := fun _ hS => h.below hS.below
theorem rdl_vec {A : Option Addr} {xs : List Value} {e s m c n : Nat} (i : Nat) (h : lget L i = some (vec e s (.slice A m c) n xs)) : RdL w0 L A xs := fun _ hS => (OwnV.rd (hS.holds i _ h)).2.2

theorem y_move (hx : FE N F x v) : Yld P N w0 F L ⟨d, .move x, ty, pos, af, gd⟩ v := fun a w hF _ => by simp [execOp, hx a hF]
theorem y_assign (hx : FE N F x v) : Yld P N w0 F L ⟨d, .assign x, ty, pos, af, gd⟩ v := fun a w hF _ => by simp [execOp, hx a hF]
theorem y_pick {c : Operand} {b p q : Bool} (hc : FE N F c (.bool b)) (hx : FE N F x (.bool p)) (hy : FE N F y (.bool q)) : Yld P N w0 F L ⟨d, .pick c x y, ty, pos, af, gd⟩ (.bool (bif b then p else q)) := fun a w hF _ => by
  cases b <;> simp [execOp, hc a hF, hx a hF, hy a hF, asBool]
theorem y_pickt {c : Operand} (hc : FE N F c (.bool true)) (hx : FE N F x v) : Yld P N w0 F L ⟨d, .pick c x y, ty, pos, af, gd⟩ v := fun a w hF _ => by
  simp [execOp, hc a hF, hx a hF, asBool]
theorem y_pickf {c : Operand} (hc : FE N F c (.bool false)) (hy : FE N F y v) : Yld P N w0 F L ⟨d, .pick c x y, ty, pos, af, gd⟩ v := fun a w hF _ => by
  simp [execOp, hc a hF, hy a hF, asBool]

theorem y_addk (hx : FE N F x (.int k a)) (hy : FE N F y (.int k b)) : Yld P N w0 F L ⟨d, .binOp .add t x y t', ty, pos, af, gd⟩ (.int k (k.wrap (a + b))) := fun c w hF _ => by
  simp [execOp, hx c hF, hy c hF, eqGuard, binOp, Op.intArith]
theorem y_subk (hx : FE N F x (.int k a)) (hy : FE N F y (.int k b)) : Yld P N w0 F L ⟨d, .binOp .sub t x y t', ty, pos, af, gd⟩ (.int k (k.wrap (a - b))) := fun c w hF _ => by
  simp [execOp, hx c hF, hy c hF, eqGuard, binOp, Op.intArith]
theorem y_mulk (hx : FE N F x (.int k a)) (hy : FE N F y (.int k b)) : Yld P N w0 F L ⟨d, .binOp .mul t x y t', ty, pos, af, gd⟩ (.int k (k.wrap (a * b))) := fun c w hF _ => by
  simp [execOp, hx c hF, hy c hF, eqGuard, binOp, Op.intArith]
theorem y_add (hx : FE N F x (.int .i64 a)) (hy : FE N F y (.int .i64 b)) (h : -9223372036854775808 ≤ a + b ∧ a + b ≤ 9223372036854775807) : Yld P N w0 F L ⟨d, .binOp .add t x y t', ty, pos, af, gd⟩ (.int .i64 (a + b)) := by
  have := y_addk (P := P) (w0 := w0) (L := L) (d := d) (t := t) (t' := t') (ty := ty) (pos := pos) (af := af) (gd := gd) hx hy
  rwa [IntWalk.i64_in _ h] at this
theorem y_sub (hx : FE N F x (.int .i64 a)) (hy : FE N F y (.int .i64 b)) (h : -9223372036854775808 ≤ a - b ∧ a - b ≤ 9223372036854775807) : Yld P N w0 F L ⟨d, .binOp .sub t x y t', ty, pos, af, gd⟩ (.int .i64 (a - b)) := by
  have := y_subk (P := P) (w0 := w0) (L := L) (d := d) (t := t) (t' := t') (ty := ty) (pos := pos) (af := af) (gd := gd) hx hy
  rwa [IntWalk.i64_in _ h] at this
theorem y_mul (hx : FE N F x (.int .i64 a)) (hy : FE N F y (.int .i64 b)) (h : -9223372036854775808 ≤ a * b ∧ a * b ≤ 9223372036854775807) : Yld P N w0 F L ⟨d, .binOp .mul t x y t', ty, pos, af, gd⟩ (.int .i64 (a * b)) := by
  have := y_mulk (P := P) (w0 := w0) (L := L) (d := d) (t := t) (t' := t') (ty := ty) (pos := pos) (af := af) (gd := gd) hx hy
  rwa [IntWalk.i64_in _ h] at this
/-- x + 1 of a count. -/
theorem y_inc {n : Nat} (hx : FE N F x (.int .i64 (n : Int))) (hy : FE N F y (.int .i64 1)) (h : n < 9223372036854775807) : Yld P N w0 F L ⟨d, .binOp .add t x y t', ty, pos, af, gd⟩ (.int .i64 ((n + 1 : Nat) : Int)) := by
  have := y_add (P := P) (w0 := w0) (L := L) (d := d) (t := t) (t' := t') (ty := ty) (pos := pos) (af := af) (gd := gd) hx hy (by omega)
  simpa using this
theorem y_quo (hx : FE N F x (.int .i64 a)) (hy : FE N F y (.int .i64 b)) (h : 0 ≤ a ∧ 0 < b ∧ a ≤ 9223372036854775807) : Yld P N w0 F L ⟨d, .binOp .quo t x y t', ty, pos, af, gd⟩ (.int .i64 (a / b)) := fun c w hF _ => by
  have h1 : b ≠ 0 := by omega
  have h2 : a.tdiv b = a / b := Int.tdiv_eq_ediv_of_nonneg h.1
  have h3 : 0 ≤ a / b := Int.ediv_nonneg h.1 (by omega)
  have h4 : a / b ≤ a := Int.ediv_le_self _ h.1
  have h5 : IntKind.i64.wrap (a / b) = a / b := IntWalk.i64_in _ (by omega)
  simp [execOp, hx c hF, hy c hF, eqGuard, binOp, Op.intDiv, h1, h2, h5]
theorem y_rem (hx : FE N F x (.int k a)) (hy : FE N F y (.int k b)) (h : 0 ≤ a ∧ 0 < b) : Yld P N w0 F L ⟨d, .binOp .rem t x y t', ty, pos, af, gd⟩ (.int k (a % b)) := fun c w hF _ => by
  have h1 : b ≠ 0 := by omega
  have h2 : a.tmod b = a % b := Int.tmod_eq_emod_of_nonneg h.1
  simp [execOp, hx c hF, hy c hF, eqGuard, binOp, Op.intDiv, h1, h2]
theorem y_bits {op : BinOp} {r : Int} (hop : op = .and ∨ op = .or ∨ op = .xor ∨ op = .andNot) (hx : FE N F x (.int k a)) (hy : FE N F y (.int k b)) (h : ∀ w, (Op.intBits op k a b).run P w = .ok (.int k r) w) : Yld P N w0 F L ⟨d, .binOp op t x y t', ty, pos, af, gd⟩ (.int k r) := fun c w hF _ => by
  rcases hop with rfl | rfl | rfl | rfl <;> simp [execOp, hx c hF, hy c hF, eqGuard, binOp, h w]
theorem y_shl {k' : IntKind} (hx : FE N F x (.int k a)) (hy : FE N F y (.int k' b)) (h : 0 ≤ b) : Yld P N w0 F L ⟨d, .binOp .shl t x y t', ty, pos, af, gd⟩ (.int k (k.wrap (a * 2 ^ (min b.toNat k.bits)))) := fun c w hF _ => by
  have : ¬ b < 0 := by omega
  simp [execOp, hx c hF, hy c hF, eqGuard, binOp, Op.shift, this]
theorem y_shr {k' : IntKind} (hx : FE N F x (.int k a)) (hy : FE N F y (.int k' b)) (h : 0 ≤ b) : Yld P N w0 F L ⟨d, .binOp .shr t x y t', ty, pos, af, gd⟩ (.int k (a.fdiv (2 ^ (min b.toNat k.bits)))) := fun c w hF _ => by
  have : ¬ b < 0 := by omega
  simp [execOp, hx c hF, hy c hF, eqGuard, binOp, Op.shift, this]

theorem y_eq (hx : FE N F x (.int k a)) (hy : FE N F y (.int k b)) : Yld P N w0 F L ⟨d, .binOp .eql t x y t', ty, pos, af, gd⟩ (.bool (decide (a = b))) := fun c w hF _ => by
  have : (a == b) = decide (a = b) := by by_cases h : a = b <;> simp [h]
  simp [execOp, hx c hF, hy c hF, eqGuard, binOp, Op.intCmp, this]
theorem y_neq (hx : FE N F x (.int k a)) (hy : FE N F y (.int k b)) : Yld P N w0 F L ⟨d, .binOp .neq t x y t', ty, pos, af, gd⟩ (.bool (decide (¬ a = b))) := fun c w hF _ => by
  have : (a != b) = decide (¬ a = b) := by by_cases h : a = b <;> simp [h]
  simp [execOp, hx c hF, hy c hF, eqGuard, binOp, Op.intCmp, this]
theorem y_lss (hx : FE N F x (.int k a)) (hy : FE N F y (.int k b)) : Yld P N w0 F L ⟨d, .binOp .lss t x y t', ty, pos, af, gd⟩ (.bool (decide (a < b))) := fun c w hF _ => by
  simp [execOp, hx c hF, hy c hF, eqGuard, binOp, Op.intCmp]
theorem y_leq (hx : FE N F x (.int k a)) (hy : FE N F y (.int k b)) : Yld P N w0 F L ⟨d, .binOp .leq t x y t', ty, pos, af, gd⟩ (.bool (decide (a ≤ b))) := fun c w hF _ => by
  simp [execOp, hx c hF, hy c hF, eqGuard, binOp, Op.intCmp]
theorem y_gtr (hx : FE N F x (.int k a)) (hy : FE N F y (.int k b)) : Yld P N w0 F L ⟨d, .binOp .gtr t x y t', ty, pos, af, gd⟩ (.bool (decide (b < a))) := fun c w hF _ => by
  simp [execOp, hx c hF, hy c hF, eqGuard, binOp, Op.intCmp]
theorem y_geq (hx : FE N F x (.int k a)) (hy : FE N F y (.int k b)) : Yld P N w0 F L ⟨d, .binOp .geq t x y t', ty, pos, af, gd⟩ (.bool (decide (b ≤ a))) := fun c w hF _ => by
  simp [execOp, hx c hF, hy c hF, eqGuard, binOp, Op.intCmp]
theorem y_notp {p : Prop} [Decidable p] (hx : FE N F x (.bool (decide p))) : Yld P N w0 F L ⟨d, .unOp .not t x, ty, pos, af, gd⟩ (.bool (decide (¬ p))) := fun c w hF _ => by
  simp [execOp, hx c hF, Op.unary]
theorem y_not {p : Bool} (hx : FE N F x (.bool p)) : Yld P N w0 F L ⟨d, .unOp .not t x, ty, pos, af, gd⟩ (.bool (!p)) := fun c w hF _ => by
  simp [execOp, hx c hF, Op.unary]
theorem y_neg (hx : FE N F x (.int .i64 a)) (h : -9223372036854775807 ≤ a ∧ a ≤ 9223372036854775807) : Yld P N w0 F L ⟨d, .unOp .neg t x, ty, pos, af, gd⟩ (.int .i64 (-a)) := fun c w hF _ => by
  have : IntKind.i64.wrap (-a) = -a := IntWalk.i64_in _ (by omega)
  simp [execOp, hx c hF, Op.unary, Op.intArith, this]
theorem y_conv {k' : IntKind} {ds : TypeDesc} (hs : P.underlying t = some ds) (hd : P.underlying t' = some (.int k')) (hx : FE N F x (.int k a)) : Yld P N w0 F L ⟨d, .convert t t' x, ty, pos, af, gd⟩ (.int k' (k'.wrap a)) := fun c w hF _ => by
  simp [execOp, hx c hF, convert, run_underlying hs, run_underlying hd, Conv.intToInt]
theorem y_convi {k' : IntKind} {ds : TypeDesc} (hs : P.underlying t = some ds) (hd : P.underlying t' = some (.int k')) (hx : FE N F x (.int k a)) (h : k'.wrap a = a) : Yld P N w0 F L ⟨d, .convert t t' x, ty, pos, af, gd⟩ (.int k' a) := by
  have := y_conv (w0 := w0) (L := L) (d := d) (ty := ty) (pos := pos) (af := af) (gd := gd) hs hd hx
  rwa [h] at this

theorem y_len {A : Option Addr} {n c e : Nat} (hu : P.underlying t = some (.slice e)) (hx : FE N F x (.slice A n c)) : Yld P N w0 F L ⟨d, .call ⟨.builtin .len, #[x], #[t]⟩, ty, pos, af, gd⟩ (.int .i64 (n : Int)) := fun a w hF _ => by
  simp [execOp, resolve, invoke, builtin, Builtin.len_, hx a hF, run_underlying hu, goInt]
theorem y_cap {A : Option Addr} {n c e : Nat} (hu : P.underlying t = some (.slice e)) (hx : FE N F x (.slice A n c)) : Yld P N w0 F L ⟨d, .call ⟨.builtin .cap, #[x], #[t]⟩, ty, pos, af, gd⟩ (.int .i64 (c : Int)) := fun a w hF _ => by
  simp [execOp, resolve, invoke, builtin, Builtin.cap_, hx a hF, run_underlying hu, goInt]
theorem y_min {ts : Array TypeId} (hx : FE N F x (.int k a)) (hy : FE N F y (.int k b)) : Yld P N w0 F L ⟨d, .call ⟨.builtin .min, #[x, y], ts⟩, ty, pos, af, gd⟩ (.int k (min a b)) := fun c w hF _ => by
  have : (if b < a then b else a) = min a b := by split <;> omega
  simp [execOp, resolve, invoke, builtin, Builtin.min_, hx c hF, hy c hF, Builtin.min2, this]
theorem y_max {ts : Array TypeId} (hx : FE N F x (.int k a)) (hy : FE N F y (.int k b)) : Yld P N w0 F L ⟨d, .call ⟨.builtin .max, #[x, y], ts⟩, ty, pos, af, gd⟩ (.int k (max a b)) := fun c w hF _ => by
  have : (if a < b then b else a) = max a b := by split <;> omega
  simp [execOp, resolve, invoke, builtin, Builtin.max_, hx c hF, hy c hF, Builtin.max2, this]

theorem y_extract {vs : Array Value} {i : Nat} (hx : FE N F x (.tuple vs)) (hi : vs[i]? = some v) : Yld P N w0 F L ⟨d, .extract x i, ty, pos, af, gd⟩ v := fun a w hF _ => by
  simp [execOp, hx a hF, Instr.extract, hi]
theorem y_field1 {cs : Array Value} {i : Nat} {fs : Array Field} {f : Field} {td : TypeId} (hu : P.underlying t = some (.struct fs)) (hf : fs[i]? = some f) (ht : f.type = td) (ha : ∀ w, (isAgg td).run P w = .ok false w) (hx : FE N F x (.agg cs)) (hv : cs[f.offset]? = some v) : Yld P N w0 F L ⟨d, .field t x i, ty, pos, af, gd⟩ v := fun a w hF _ => by
  subst ht
  simp [execOp, hx a hF, Instr.field, run_underlying hu, hf, part, asAgg, ha, hv]
theorem y_nilCheck {a : Addr} (hx : FE N F x (.pointer (some a))) : Yld P N w0 F L ⟨d, .nilCheck x, ty, pos, af, gd⟩ (.pointer (some a)) := fun c w hF _ => by
  simp [execOp, hx c hF]
theorem y_nilCheckE {A : Option Addr} {j : Nat} {xs : List Value} (hx : FE N F x (elt A j)) (hr : RdL w0 L A xs) (hj : 0 < xs.length) : Yld P N w0 F L ⟨d, .nilCheck x, ty, pos, af, gd⟩ (elt A j) := fun c w hF hS => by
  obtain ⟨b, o, rfl, _⟩ := (hr w hS).at_ hj
  simp [execOp, hx c hF, elt]
theorem y_nilCheckF {fn : Fn} {fi ca : Array Value} (hfn : (match fn with | .method _ => false | _ => true) = true) (hx : FE N F x (.func fn fi ca)) : Yld P N w0 F L ⟨d, .nilCheck x, ty, pos, af, gd⟩ (.func fn fi ca) := fun c w hF _ => by
  cases fn <;> simp_all [execOp, hx c hF]

theorem y_fieldAddr {fs : Array Field} {f : Field} {i b o m o' td : Nat} (hu : P.underlying t = some (.struct fs)) (hf : fs[i]? = some f) (ht : f.type = td) (hz : ∀ w, (sizeOf td).run P w = .ok (m + 1) w) (ho : o + f.offset = o') (hx : FE N F x (.pointer (some ⟨b, o, none⟩))) :
    Yld P N w0 F L ⟨d, .fieldAddr t x i, ty, pos, af, gd⟩ (.pointer (some ⟨b, o', none⟩)) := fun a w hF _ => by
  subst ho ht
  simp [execOp, hx a hF, Instr.fieldAt, run_underlying hu, hf, Instr.sureAddr, fieldPlace, hz]
  unfold Addr.add
  split
  · rename_i h; simp [h]
  · rfl
theorem y_fieldAddrE {fs : Array Field} {f : Field} {i j m j' td : Nat} {A : Option Addr} {xs : List Value} (hu : P.underlying t = some (.struct fs)) (hf : fs[i]? = some f) (ht : f.type = td) (hz : ∀ w, (sizeOf td).run P w = .ok (m + 1) w) (ho : j + f.offset = j') (hx : FE N F x (elt A j)) (hr : RdL w0 L A xs) (hj : 0 < xs.length) :
    Yld P N w0 F L ⟨d, .fieldAddr t x i, ty, pos, af, gd⟩ (elt A j') := fun a w hF hS => by
  subst ho ht
  obtain ⟨b, o, rfl, _⟩ := (hr w hS).at_ hj
  simp [execOp, hx a hF, elt, Instr.fieldAt, run_underlying hu, hf, Instr.sureAddr, fieldPlace, hz]
  unfold Addr.add
  split
  · rename_i h; simp [h]
  · simp [Nat.add_assoc]

theorem y_index {A : Option Addr} {n c e s j m : Nat} {xs : List Value} (hu : P.underlying t = some (.slice e)) (hs : ∀ w, (sizeOf e).run P w = .ok s w) (hx : FE N F x (.slice A n c)) (hi : FE N F y (.int k (j : Int))) (hr : RdL w0 L A xs) (hl : xs.length = n * s) (hs0 : 0 < s) (hj : j < n) (hm : j * s = m) :
    Yld P N w0 F L ⟨d, .indexAddr t x y, ty, pos, af, gd⟩ (elt A m) := fun a w hF hS => by
  subst hm
  have h0 : 0 < xs.length := by rw [hl]; exact Nat.mul_pos (by omega) hs0
  obtain ⟨b, o, rfl, _⟩ := (hr w hS).at_ h0
  simp [execOp, hx a hF, hi a hF, elt, Instr.indexAt, asIntOf, run_underlying hu, hs, hj]
  unfold Addr.add
  split
  · rename_i h; simp [h]
  · rfl
/-- An index that is an Int. -/
theorem y_indexI {A : Option Addr} {n c e s m : Nat} {j : Int} {xs : List Value} (hu : P.underlying t = some (.slice e)) (hs : ∀ w, (sizeOf e).run P w = .ok s w) (hx : FE N F x (.slice A n c)) (hi : FE N F y (.int k j)) (hr : RdL w0 L A xs) (hl : xs.length = n * s) (hs0 : 0 < s) (h0 : 0 ≤ j) (hj : j < n) (hm : j.toNat * s = m) :
    Yld P N w0 F L ⟨d, .indexAddr t x y, ty, pos, af, gd⟩ (elt A m) :=
  y_index (j := j.toNat) hu hs hx (by rw [Int.toNat_of_nonneg h0]; exact hi) hr hl hs0 (by omega) hm
theorem y_ld {A : Option Addr} {j : Nat} {xs : List Value} (ha : ∀ w, (isAgg t).run P w = .ok false w) (hx : FE N F x (elt A j)) (hr : RdL w0 L A xs) (hj : xs[j]? = some v) : Yld P N w0 F L ⟨d, .load t x, ty, pos, af, gd⟩ v := fun a w hF hS => by
  obtain ⟨hjl, hjv⟩ := List.getElem?_eq_some_iff.1 hj
  obtain ⟨b, o, rfl, hc⟩ := (hr w hS).at_ hjl
  rw [hjv] at hc
  simp [execOp, hx a hF, elt, Instr.loadAt, Instr.sureAddr, loadVar, ha, load, Sem.run, hc]
theorem y_ldA {A : Option Addr} {j s : Nat} {xs cs : List Value} (ha : ∀ w, (isAgg t).run P w = .ok true w) (hs : ∀ w, (sizeOf t).run P w = .ok s w) (hx : FE N F x (elt A j)) (hr : RdL w0 L A xs) (hl : cs.length = s) (hs0 : 0 < s) (hc : ∀ i u, cs[i]? = some u → xs[j + i]? = some u) : Yld P N w0 F L ⟨d, .load t x, ty, pos, af, gd⟩ (.agg cs.toArray) := fun a w hF hS => by
  have h0 : xs[j + 0]? = some cs[0] := hc 0 _ (List.getElem?_eq_getElem (by omega))
  obtain ⟨hjl, _⟩ := List.getElem?_eq_some_iff.1 h0
  rcases hr w hS with h | ⟨b, o, rfl, hcell⟩
  · rw [h] at hjl; simp at hjl
  · have hld : (loadCells (⟨b, o + j, none⟩ : Addr) cs.length).run P w = .ok cs.toArray w := run_loadCells_list w ⟨b, o + j, none⟩ cs (fun i u hu => by
      rw [Addr.add_lit]
      have := hcell (j + i) u (hc i u hu)
      rwa [← Nat.add_assoc] at this)
    rw [hl] at hld
    simp [execOp, hx a hF, elt, Instr.loadAt, Instr.sureAddr, loadVar, ha, hs, hld]
theorem y_ldb {b o : Nat} {cs : List Value} (i : Nat) (ha : ∀ w, (isAgg t).run P w = .ok false w) (hx : FE N F x (.pointer (some ⟨b, o, none⟩))) (hk : lget L i = some (blk b cs)) (ho : cs[o]? = some v) : Yld P N w0 F L ⟨d, .load t x, ty, pos, af, gd⟩ v := fun a w hF hS => by
  obtain ⟨T, hg⟩ := hS.holds i _ hk
  have hc : w.cell? ⟨b, o, none⟩ = some v := by rw [cell_of_row w b o _ T (0, 0) hg]; simpa using ho
  simp [execOp, hx a hF, Instr.loadAt, Instr.sureAddr, loadVar, ha, load, Sem.run, hc]
theorem y_ldbA {b o s : Nat} {cs vs : List Value} (i : Nat) (ha : ∀ w, (isAgg t).run P w = .ok true w) (hs : ∀ w, (sizeOf t).run P w = .ok s w) (hx : FE N F x (.pointer (some ⟨b, o, none⟩))) (hk : lget L i = some (blk b cs)) (hv : (cs.drop o).take s = vs) (hl : vs.length = s) : Yld P N w0 F L ⟨d, .load t x, ty, pos, af, gd⟩ (.agg vs.toArray) := fun a w hF hS => by
  obtain ⟨T, hg⟩ := hS.holds i _ hk
  have hld : (loadCells (⟨b, o, none⟩ : Addr) vs.length).run P w = .ok vs.toArray w := run_loadCells_list w ⟨b, o, none⟩ vs (fun i u hu => by
    rw [Addr.add_lit, cell_of_row w b (o + i) _ T (0, 0) hg]
    rw [← hv, List.getElem?_take] at hu
    split at hu
    · rw [List.getElem?_drop] at hu; simpa using hu
    · cases hu)
  rw [hl] at hld
  simp [execOp, hx a hF, Instr.loadAt, Instr.sureAddr, loadVar, ha, hs, hld]
theorem rok_b {b : Nat} {cs : List Value} {r s : Nat} {ty : TypeId} (i : Nat) (ha : ∀ w, (isAgg ty).run P w = .ok true w) (hs : ∀ w, (sizeOf ty).run P w = .ok s w) (hr : fget N F r = some (.pointer (some ⟨b, 0, none⟩))) (hk : lget L i = some (blk b cs)) (hl : cs.length = s) : ROK P N w0 F L (.cell r ty) (.agg cs.toArray) := fun a w hF hS => by
  obtain ⟨T, hg⟩ := hS.holds i _ hk
  have hld : (loadCells (⟨b, 0, none⟩ : Addr) cs.length).run P w = .ok cs.toArray w := run_loadCells_list w ⟨b, 0, none⟩ cs (fun i u hu => by
    rw [Addr.add_lit, Nat.zero_add, cell_of_row w b i _ T (0, 0) hg]; simpa using hu)
  rw [hl] at hld
  simp [rvSem, hF.at_ r _ hr, asAddr, loadVar, ha, hs, hld]
theorem rok_b1 {b : Nat} {cs : List Value} {r : Nat} {ty : TypeId} (i : Nat) (ha : ∀ w, (isAgg ty).run P w = .ok false w) (hr : fget N F r = some (.pointer (some ⟨b, 0, none⟩))) (hk : lget L i = some (blk b cs)) (hl : cs[0]? = some v) : ROK P N w0 F L (.cell r ty) v := fun a w hF hS => by
  obtain ⟨T, hg⟩ := hS.holds i _ hk
  have hc : w.cell? ⟨b, 0, none⟩ = some v := by rw [cell_of_row w b 0 _ T (0, 0) hg]; simpa using hl
  simp [rvSem, hF.at_ r _ hr, asAddr, loadVar, ha, load, Sem.run, hc]

/-- Values of a list of operands. -/
def FEL (N : Nat) (F : Frm) (xs : List Operand) (vs : List Value) : Prop := ∀ a, Fr N a F → xs.map a.eval = vs
theorem fel_nil : FEL N F [] [] := fun _ _ => rfl
theorem fel_cons {xs : List Operand} {vs : List Value} (h : FE N F x v) (hs : FEL N F xs vs) : FEL N F (x :: xs) (v :: vs) := fun a ha => by simp [h a ha, hs a ha]

/-- A struct's value: the parts are numbered is. -/
theorem y_build {is : List Nat} {xs : List Operand} {vs cs : List Value} {parts : Array (Nat × Operand)} (hp : parts = (is.zip xs).toArray) (hx : FEL N F xs vs) (h : P.built t (is.zip vs) = some cs.toArray) : Yld P N w0 F L ⟨d, .build t parts, ty, pos, af, gd⟩ (.agg cs.toArray) := fun a w hF _ => by
  subst hp
  have h1 : (is.zip xs).map (fun p => (p.1, a.eval p.2)) = is.zip vs := by rw [← hx a hF, List.zip_map_right]; rfl
  have h2 : ((is.zip xs).toArray.map fun p => (p.1, a.eval p.2)).toList = is.zip vs := by simpa using h1
  have := run_build (P := P) w t ((is.zip xs).toArray.map fun p => (p.1, a.eval p.2)) cs.toArray (by rw [h2]; exact h)
  simp only [execOp, Sem.run_bind, Sem.run_pure, this, Result.andThen_ok]

/-! Operations that make or write. -/
variable {K : Frm → List Res → Prop}
def zc (z : Value) : List Value := match z with | .agg cs => cs.toList | v => [v]
theorem zc_cells (z : Value) : z.cells.toList = zc z := by cases z <;> rfl

theorem run_new (w : World) (o : Obj) : (Sem.new o Sem.pure).run P w = .ok w.heap.size (w.alloc o) := rfl
theorem alloc_new (w : World) (o : Obj) : Below w.heap.size w (w.alloc o) := (Below.refl _ _).alloc (Nat.le_refl _) o
theorem St.newblk {w : World} {cs : Array Value} {T : TypeId} (h : St w0 w L) : St w0 (w.alloc (.cells cs T)) (blk w.heap.size cs.toList :: L) :=
  h.add (alloc_new w _) ⟨T, by simpa using heap_alloc_new w (.cells cs T)⟩ (fun b hb => by
    simp only [blk, List.mem_singleton] at hb
    subst hb
    exact ⟨Nat.le_refl _, by simp⟩)

theorem oj_alloc {z : Value} (hz : ∀ w, (zeroValue t).run P w = .ok z w) (h : ∀ b, K (fput F d (.pointer (some ⟨b, 0, none⟩))) (blk b (zc z) :: L)) : OpJ P N w0 F L ⟨d, .alloc t, ty, pos, af, gd⟩ K := fun a w hF hS => by
  have hr : (execOp a.eval ⟨d, .alloc t, ty, pos, af, gd⟩).run P w = .ok (.value (.pointer (some ⟨w.heap.size, 0, none⟩))) (w.alloc (.cells z.cells t)) := by
    simp [execOp, Instr.alloc, hz, newVar, newRow, newObj, run_new]
  unfold Oper.wp
  rw [hr]
  refine ⟨_, _, h w.heap.size, hF.put _ _, ?_⟩
  rw [← zc_cells]
  exact hS.newblk
theorem oj_box {t : TypeId} (hx : FE N F x v) (h : ∀ b, K (fput F d (.pointer (some ⟨b, 0, none⟩))) (blk b (zc v) :: L)) : OpJ P N w0 F L ⟨d, .box t x, ty, pos, af, gd⟩ K := fun a w hF hS => by
  have hr : (execOp a.eval ⟨d, .box t x, ty, pos, af, gd⟩).run P w = .ok (.value (.pointer (some ⟨w.heap.size, 0, none⟩))) (w.alloc (.cells v.cells t)) := by
    simp [execOp, Instr.box, hx a hF, newVar, newRow, newObj, run_new]
  unfold Oper.wp
  rw [hr]
  refine ⟨_, _, h w.heap.size, hF.put _ _, ?_⟩
  rw [← zc_cells]
  exact hS.newblk

theorem turn_row {w : World} {b i : Nat} {cs old : List Value} {T : TypeId} (hS : St w0 w L) (hk : lget L i = some (blk b old)) (hg : w.heap[b]? = some (.cells old.toArray T (0, 0))) : St w0 (w.setRow b cs.toArray) (lset L i (blk b cs)) := by
  have hlt := (hS.lt i _ hk b (by simp [blk])).2
  refine hS.turn hk rfl rfl rfl (by simp [World.setRow]) (fun k hk1 hk2 => setRow_other w b k _ (fun e => hk2 (by simp [blk, e]))) ⟨T, setRow_heap w b _ _ T _ hg⟩ (fun k hk1 => ?_)
  simp only [blk, List.mem_singleton] at hk1
  subst hk1
  exact ⟨by simpa [World.setRow] using hlt, .inl (by simp [blk])⟩

/-- A store of the cells vs at cell o of a block. -/
theorem run_storeb {w : World} {b o s : Nat} {cs vs : List Value} {T : TypeId} (hs : ∀ w, (sizeOf t).run P w = .ok s w) (hv : v.cells = vs.toArray) (hl : vs.length = s) (h1 : vs.all (·.oneCell') = true) (hg : w.heap[b]? = some (.cells cs.toArray T (0, 0))) (ho : o + s ≤ cs.length) :
    (storeVar t ⟨b, o, none⟩ v).run P w = .ok () (w.setRow b (cs.take o ++ vs ++ cs.drop (o + s)).toArray) := by
  have hst := run_storeCells_at P b o T vs 0 cs.toArray w hg (by simpa [hl] using ho) (fun u hu => List.all_eq_true.1 h1 u hu)
  simp only [Nat.add_zero, hl] at hst
  have hsz : v.cells.size = s := by rw [hv]; simpa using hl
  simp only [storeVar, Sem.run_bind, hs, Result.andThen_ok, hsz, ne_eq, not_true_eq_false, if_false, hv]
  simpa [hl] using hst
theorem oj_store {b o s : Nat} {cs vs cs' : List Value} (i : Nat) (hs : ∀ w, (sizeOf t).run P w = .ok s w) (hx : FE N F x (.pointer (some ⟨b, o, none⟩))) (hy : FE N F y v) (hv : v.cells = vs.toArray) (hl : vs.length = s) (h1 : vs.all (·.oneCell') = true) (hk : lget L i = some (blk b cs)) (ho : Nat.ble (o + s) cs.length = true) (hc : cs.take o ++ vs ++ cs.drop (o + s) = cs')
    (h : K (fput F d undef) (lset L i (blk b cs'))) : OpJ P N w0 F L ⟨d, .store t x y, ty, pos, af, gd⟩ K := fun a w hF hS => by
  subst hc
  obtain ⟨T, hg⟩ := hS.holds i _ hk
  have hr : (execOp a.eval ⟨d, .store t x y, ty, pos, af, gd⟩).run P w = .ok .skip (w.setRow b (cs.take o ++ vs ++ cs.drop (o + s)).toArray) := by
    simp [execOp, Instr.storeAt, Instr.sureAddr, hx a hF, hy a hF, run_storeb hs hv hl h1 hg (Nat.le_of_ble_eq_true ho)]
  unfold Oper.wp
  rw [hr]
  exact ⟨_, _, h, hF.put _ _, turn_row hS hk hg⟩

theorem fold_set : ∀ (l : List Value) (k : Nat) (cs : Array Value), k + l.length = cs.size → (l.zipIdx k).foldl (fun cs (p : Value × Nat) => cs.setIfInBounds p.2 p.1) cs = (cs.toList.take k ++ l).toArray
  | [], k, cs, h => by
    have : cs.toList.take k = cs.toList := List.take_of_length_le (by simp at h; simp [h])
    simp [this]
  | x :: l, k, cs, h => by
    rw [List.zipIdx_cons, List.foldl_cons, fold_set l (k + 1) _ (by simp only [List.length_cons] at h; simp only [Array.size_setIfInBounds]; omega)]
    congr 1
    have hk : k < cs.toList.length := by rw [Array.length_toList]; simp only [List.length_cons] at h; omega
    rw [Array.toList_setIfInBounds, List.take_set, List.take_succ_eq_append_getElem hk, List.set_append_right _ _ (by rw [List.length_take]; omega)]
    have : (x, k).snd - (cs.toList.take k).length = 0 := by rw [List.length_take]; simp only; omega
    rw [this]
    simp

/-- A slice literal of one element. -/
theorem oj_slice1 {e s : Nat} {z : Value} (hu : P.underlying t = some (.slice e)) (hs : ∀ w, (sizeOf e).run P w = .ok s w) (hz : ∀ w, (zeroValue e).run P w = .ok z w) (hx : FE N F x v) (hs0 : 0 < s ∧ s ≤ 16777216) (hl : (zc v).length = s)
    (h : ∀ b, K (fput F d (.slice (some ⟨b, 0, none⟩) 1 1)) (blk b (zc v) :: L)) : OpJ P N w0 F L ⟨d, .buildSlice t 1 #[(0, x)], ty, pos, af, gd⟩ K := fun a w hF hS => by
  have h1 : ¬ (16777216 < s) := by omega
  have h2 : s ≠ 0 := by omega
  have hvs : v.cells.size = s := by rw [← hl, ← zc_cells]; simp
  have hfill : Instr.fill (fun i => some (i * s, s)) ((Array.range s).map (z.cells[· % z.cells.size]!)) [(0, v)] = some v.cells := by
    have h3 := fold_set v.cells.toList 0 ((Array.range s).map (z.cells[· % z.cells.size]!)) (by simp [hvs])
    simp only [List.take_zero, List.nil_append] at h3
    simp only [Instr.fill, Nat.zero_mul, hvs, Nat.zero_add, Array.size_map, Array.size_range, Nat.lt_irrefl, decide_false, bne_self_eq_false, Bool.or_self, Bool.false_eq_true, if_false, gt_iff_lt, ne_eq, not_true_eq_false]
    rw [← Array.foldl_toList, Array.toList_zipIdx]
    simpa using h3
  have hr : (execOp a.eval ⟨d, .buildSlice t 1 #[(0, x)], ty, pos, af, gd⟩).run P w = .ok (.value (.slice (some ⟨w.heap.size, 0, none⟩) 1 1)) (w.alloc (.cells v.cells e)) := by
    simp [execOp, Instr.buildSlice, hx a hF, run_underlying hu, hs, hz, h1, h2, hfill, newRow, newObj, run_new]
  unfold Oper.wp
  rw [hr]
  refine ⟨_, _, h w.heap.size, hF.put _ _, ?_⟩
  rw [← zc_cells]
  exact hS.newblk
/-- A slice literal without elements. -/
theorem oj_slice0 {e s : Nat} (hu : P.underlying t = some (.slice e)) (hs : ∀ w, (sizeOf e).run P w = .ok s w) (h : ∀ b, K (fput F d (.slice (some ⟨b, 0, none⟩) 0 0)) (vec e s (.slice (some ⟨b, 0, none⟩) 0 0) 0 [] :: L)) : OpJ P N w0 F L ⟨d, .buildSlice t 0 #[], ty, pos, af, gd⟩ K := fun a w hF hS => by
  have hr : (execOp a.eval ⟨d, .buildSlice t 0 #[], ty, pos, af, gd⟩).run P w = .ok (.value (.slice (some ⟨w.heap.size, 0, none⟩) 0 0)) (w.alloc (.cells #[] e)) := by
    simp [execOp, Instr.buildSlice, run_underlying hu, hs, Instr.fill, newRow, newObj, run_new, show Array.range 0 = #[] from rfl]
  unfold Oper.wp
  rw [hr]
  refine ⟨_, _, h w.heap.size, hF.put _ _, hS.add (alloc_new w _) ⟨by simp, .inr ⟨w.heap.size, 0, 0, #[], rfl, heap_alloc_new w _, Nat.le_refl _, Nat.zero_le _, by simp, by simp⟩⟩ (fun b hb => ?_)⟩
  simp only [vec, Value.ownBlock, Option.toList_some, List.mem_singleton] at hb
  subst hb
  exact ⟨Nat.le_refl _, by simp⟩

theorem turn_vec {w w' : World} {e s n n' : Nat} {v v' : Value} {xs xs' : List Value} {i : Nat} (hS : St w0 w L) (hk : lget L i = some (vec e s v n xs)) (ho : OwnV w' e s v' n' xs') (hg : w.grownBy w' v.ownBlock) (hf : ∀ g, v'.ownBlock = some g → g < w'.heap.size ∧ (v.ownBlock = some g ∨ w.heap.size ≤ g)) : St w0 w' (lset L i (vec e s v' n' xs')) :=
  hS.turn hk hg.os hg.tape hg.output hg.size (fun b hb hn => hg.block b hb (fun e => hn (by simp [vec, ← e]))) ho (fun b hb => by
    simp only [vec, Option.mem_toList, Option.mem_def] at hb ⊢
    exact hf b hb)

/-- append of the cells that a slice reads as. -/
theorem oj_append {e s bytes n m c i : Nat} {z : Value} {xs news : List Value} {A : Option Addr} (hu : P.underlying t = some (.slice e)) (hi : (P.info? e).map (fun i => (i.zero, i.size, i.bytes)) = some (some z, s, bytes)) (hx : FE N F x v) (hy : FE N F y (.slice A m c))
    (hk : lget L i = some (vec e s v n xs)) (hr : RdL w0 L A news) (hl : news.length = m * s) (hz : z.cells.size = s ∧ 0 < s) (h1 : ∀ u ∈ news, u.oneCell' = true) (hA : 0 < m) (hb : n + m ≤ 1000000000000 ∧ bytes ≤ 140)
    (h : ∀ A' c', n + m ≤ c' → K (fput F d (.slice A' (n + m) c')) (lset L i (vec e s (.slice A' (n + m) c') (n + m) (xs ++ news)))) : OpJ P N w0 F L ⟨d, .call ⟨.builtin .append, #[x, y], #[t, t]⟩, ty, pos, af, gd⟩ K := fun a w hF hS => by
  obtain ⟨inf, h2, h3, h4, h5⟩ := info_parts' hi
  have hbytes : (n + m) * bytes ≤ 140737488355328 := Nat.le_trans (Nat.mul_le_mul hb.1 hb.2) (by omega)
  have h0 : 0 < news.length := by rw [hl]; exact Nat.mul_pos hA hz.2
  rcases hr w hS with hn | ⟨g, o, rfl, hc⟩
  · rw [hn] at h0; simp at h0
  obtain ⟨v', w', hrun, r1, r2, r3⟩ := run_append_ownV (P := P) w t ty e inf z s bytes hu h2 h3 h4 h5 hz.1 hz.2 v n xs (hS.holds i _ hk) ⟨g, o, none⟩ m c news hl (fun j u hu => by rw [Addr.add_lit]; exact hc j u hu) h1 (by unfold maxLen; omega) hbytes
  have hrun2 : (execOp a.eval ⟨d, .call ⟨.builtin .append, #[x, y], #[t, t]⟩, ty, pos, af, gd⟩).run P w = .ok (.value v') w' := by
    simp [execOp, resolve, invoke, builtin, hx a hF, hy a hF, hrun]
  unfold Oper.wp
  rw [hrun2]
  obtain ⟨A', c', rfl, hc', _⟩ := OwnV.form r1
  exact ⟨_, _, h A' c' hc', hF.put _ _, turn_vec hS hk r1 r2 r3⟩
theorem rdl_blk {b : Nat} {cs : List Value} (i : Nat) (h : lget L i = some (blk b cs)) : RdL w0 L (some ⟨b, 0, none⟩) cs := fun w hS => by
  obtain ⟨T, hg⟩ := hS.holds i _ h
  exact .inr ⟨b, 0, rfl, fun j u hu => by rw [Nat.zero_add, cell_of_row w b j _ T (0, 0) hg]; simpa using hu⟩

/-- A call, by a contract that speaks of this world. -/
theorem oj_call {α : Type} {xs : Array Operand} {ts : Array TypeId} {f : FuncId} {vs : List Value} {p : α → Prop} {r : α → Value} {M : α → List Res} {fc : Operand} (hcall : ∀ args w, (callFunc f args).run P w = .ok (.enter f args) w) (hf : FE N F fc (.func (.func f) #[] #[])) (hx : FEL N F xs.toList vs)
    (hc : ∀ w, St w0 w L → Calls P f vs.toArray w (fun e w' => ∃ q : α, p q ∧ e = .returned (r q) ∧ St w w' (M q))) (h : ∀ q, p q → K (fput F d (r q)) (M q ++ L)) : OpJ P N w0 F L ⟨d, .call ⟨.value fc, xs, ts⟩, ty, pos, af, gd⟩ K := fun a w hF hS => by
  have hargs : xs.map a.eval = vs.toArray := by
    have := hx a hF
    apply Array.toList_inj.1
    simpa using this
  have hr : (execOp a.eval ⟨d, .call ⟨.value fc, xs, ts⟩, ty, pos, af, gd⟩).run P w = .ok (.enter f vs.toArray) w := by
    simp [execOp, resolve, hf a hF, Deferred.ofValue, invoke, hargs, hcall]
  unfold Oper.wp
  rw [hr]
  refine (hc w hS).mono fun e w' ⟨q, hp, he, hS'⟩ => ?_
  subst he
  exact ⟨_, _, h q hp, hF.put _ _, hS.call hS'⟩
/-- A call that turns what is held. -/
theorem oj_call2 {α : Type} {xs : Array Operand} {ts : Array TypeId} {f : FuncId} {vs : List Value} {p : α → Prop} {r : α → Value} {M : α → List Res} {fc : Operand} (hcall : ∀ args w, (callFunc f args).run P w = .ok (.enter f args) w) (hf : FE N F fc (.func (.func f) #[] #[])) (hx : FEL N F xs.toList vs)
    (hc : ∀ w, St w0 w L → Calls P f vs.toArray w (fun e w' => ∃ q : α, p q ∧ e = .returned (r q) ∧ St w0 w' (M q))) (h : ∀ q, p q → K (fput F d (r q)) (M q)) : OpJ P N w0 F L ⟨d, .call ⟨.value fc, xs, ts⟩, ty, pos, af, gd⟩ K := fun a w hF hS => by
  have hargs : xs.map a.eval = vs.toArray := by
    have := hx a hF
    apply Array.toList_inj.1
    simpa using this
  have hr : (execOp a.eval ⟨d, .call ⟨.value fc, xs, ts⟩, ty, pos, af, gd⟩).run P w = .ok (.enter f vs.toArray) w := by
    simp [execOp, resolve, hf a hF, Deferred.ofValue, invoke, hargs, hcall]
  unfold Oper.wp
  rw [hr]
  refine (hc w hS).mono fun e w' ⟨q, hp, he, hS'⟩ => ?_
  subst he
  exact ⟨_, _, h q hp, hF.put _ _, hS'⟩
end
end Go.Proofs.Ytpknjfeiiaopgaa.E
