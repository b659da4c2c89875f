/- A script printed, plain; rules for a text that grows beside a typed block. -/
import Derived.Test.YtfcpmcdlgkfolaaDoorBnD
import Derived.Lib.ItoaLen
namespace Go.Proofs.YtfcpmcdlgkfolaaDoor.Bn
open Go.RowKit Go.Lib Go.Proofs.YtfcpmcdlgkfolaaDoor.E

def zw (k : Int) : List UInt8 := if k = 1 then [105, 110, 32] else if k = 2 then [116, 105, 99, 107, 32] else if k = 3 then [112, 111, 108, 108, 32] else []
def okI (n : Int) : Bool := decide (0 ≤ n ∧ n ≤ 1099511627776)
def okO (o : Int × Int) : Bool := decide (1 ≤ o.1 ∧ o.1 ≤ 3) && okI o.2
def numI (n : Int) : List UInt8 := 32 :: itoa n
def headI (l : List Int) : List UInt8 := sRate ++ l.flatMap numI
def opI (o : Int × Int) : List UInt8 := zw o.1 ++ (itoa o.2 ++ [10])
def prOk (l : List Int) (ops : List (Int × Int)) : Bool := l.all okI && ops.all okO
def prT (l : List Int) (ops : List (Int × Int)) : List UInt8 := headI l ++ 10 :: ops.flatMap opI
def prR (l : List Int) (ops : List (Int × Int)) : List UInt8 × Int := if prOk l ops = true then (prT l ops, 0) else ([], 2)

theorem okI_t {n : Int} (h0 : 0 ≤ n) (h1 : n ≤ 1099511627776) : okI n = true := decide_eq_true ⟨h0, h1⟩
theorem okI_f {n : Int} (h : n < 0 ∨ 1099511627776 < n) : okI n = false := decide_eq_false (by omega)
theorem okO_t {o : Int × Int} (h0 : 1 ≤ o.1) (h1 : o.1 ≤ 3) (h : okI o.2 = true) : okO o = true := by simp [okO, h0, h1, h]
theorem okO_f {o : Int × Int} (h : o.1 < 1 ∨ 3 < o.1 ∨ okI o.2 = false) : okO o = false := by
  unfold okO
  rcases h with h | h | h
  · rw [decide_eq_false (by omega)]; rfl
  · rw [decide_eq_false (by omega)]; rfl
  · rw [h, Bool.and_false]
theorem pr_head {l : List Int} {ops : List (Int × Int)} {i : Nat} (h : i < l.length) (hb : okI l[i] = false) : prR l ops = ([], 2) := by
  unfold prR
  rw [if_neg]
  intro e
  simp only [prOk, Bool.and_eq_true] at e
  have := List.all_eq_true.1 e.1 l[i] (List.getElem_mem h)
  rw [hb] at this
  cases this
theorem pr_op {l : List Int} {ops : List (Int × Int)} {i : Nat} (h : i < ops.length) (hb : okO ops[i] = false) : prR l ops = ([], 2) := by
  unfold prR
  rw [if_neg]
  intro e
  simp only [prOk, Bool.and_eq_true] at e
  have := List.all_eq_true.1 e.2 ops[i] (List.getElem_mem h)
  rw [hb] at this
  cases this
theorem pr_ok {l : List Int} {ops : List (Int × Int)} (h : l.all okI = true) (h2 : ops.all okO = true) : prR l ops = (prT l ops, 0) := by
  unfold prR
  rw [if_pos (by simp [prOk, h, h2])]
theorem all_take {α : Type} {f : α → Bool} {l : List α} {i : Nat} (h : i < l.length) (ha : (l.take i).all f = true) (hb : f l[i] = true) : (l.take (i + 1)).all f = true := by
  rw [List.take_succ_eq_append_getElem h, List.all_append, ha]
  simp [hb]
theorem flat_take {α : Type} {f : α → List UInt8} {l : List α} {i : Nat} (h : i < l.length) : (l.take (i + 1)).flatMap f = (l.take i).flatMap f ++ f l[i] := by
  rw [List.take_succ_eq_append_getElem h, List.flatMap_append]
  simp
theorem zw_len (k : Int) : (zw k).length ≤ 5 := by
  unfold zw
  split
  · decide
  · split
    · decide
    · split <;> decide
theorem zw_nil {k : Int} (h : zw k = []) : k < 1 ∨ 3 < k := by
  unfold zw at h
  split at h
  · cases h
  · split at h
    · cases h
    · split at h
      · cases h
      · omega
theorem zw_some {k : Int} (h : ¬ zw k = []) : 1 ≤ k ∧ k ≤ 3 := by
  unfold zw at h
  split at h
  · omega
  · split at h
    · omega
    · split at h
      · omega
      · exact absurd rfl h
theorem itoa_len {n : Int} (h : okI n = true) : (itoa n).length ≤ 21 := itoa_length_le n (by have := of_decide_eq_true h; omega) (by have := of_decide_eq_true h; omega)
theorem opI_len {o : Int × Int} (h : okO o = true) : (opI o).length ≤ 27 := by
  simp only [okO, Bool.and_eq_true] at h
  have := itoa_len h.2
  have := zw_len o.1
  simp only [opI, List.length_append, List.length_singleton]
  omega
theorem numI_len {n : Int} (h : okI n = true) : (numI n).length ≤ 22 := by
  have := itoa_len h
  simp only [numI, List.length_cons]
  omega
theorem flat_len {α : Type} {f : α → List UInt8} {g : α → Bool} {m : Nat} : ∀ {l : List α}, (∀ a, g a = true → (f a).length ≤ m) → l.all g = true → (l.flatMap f).length ≤ m * l.length
  | [], _, _ => by simp
  | a :: l, h, ha => by
    simp only [List.all_cons, Bool.and_eq_true] at ha
    have h1 := h a ha.1
    have h2 := flat_len h ha.2
    rw [List.flatMap_cons, List.length_append, List.length_cons, Nat.mul_add]
    omega
theorem getL {l : List Int} {i : Nat} (h : i < l.length) : (l.map (Value.int .i64))[i]? = some (.int .i64 (l[i])) := by simp [h]
theorem zw_get (k : Int) : (mget (mput (mput (mput [] 1 (.string (ByteArray.mk #[105, 110, 32]))) 2 (.string (ByteArray.mk #[116, 105, 99, 107, 32]))) 3 (.string (ByteArray.mk #[112, 111, 108, 108, 32]))) k).getD (.string (ByteArray.mk #[])) = str (zw k) := by
  simp only [mput_get, mget, zw]
  by_cases h1 : k = 1
  · subst h1; rfl
  · by_cases h2 : k = 2
    · subst h2; rfl
    · by_cases h3 : k = 3
      · subst h3; rfl
      · simp [h1, h2, h3]

theorem headI_len {l : List Int} (h : l.all okI = true) : (headI l).length ≤ 4 + 22 * l.length := by
  have := flat_len (f := numI) (g := okI) (m := 22) (fun _ h => numI_len h) h
  rw [headI, List.length_append]
  have e : sRate.length = 4 := rfl
  omega
def c2i : Int × Int → List Value := fun o => [(.int .i64 o.1), (.int .i64 o.2)]
theorem flat2_len (l : List (Int × Int)) : (l.flatMap c2i).length = l.length * 2 := by
  induction l with
  | nil => rfl
  | cons a l ih => rw [List.flatMap_cons, List.length_append, ih]; simp [c2i]; omega
/-- The word of a kind. -/
def kw (k : Int) : List UInt8 := kwds.getD (k - 1).toNat []
theorem kw_get {k : Int} (h0 : 1 ≤ k) (h1 : k ≤ 3) : (kwds.map str)[(k - 1).toNat]? = some (str (kw k)) := getS (ws := kwds) (by have : kwds.length = 3 := rfl; omega)
theorem kw_len {k : Int} : (kw k).length ≤ 4 := by
  unfold kw
  generalize (k - 1).toNat = j
  match j with
  | 0 => decide
  | 1 => decide
  | 2 => decide
  | j + 3 => simp [kwds]
theorem kw_zw {k : Int} (h0 : 1 ≤ k) (h1 : k ≤ 3) : kw k ++ [32] = zw k := by
  rcases (show k = 1 ∨ k = 2 ∨ k = 3 by omega) with rfl | rfl | rfl <;> rfl

/-! ### A block of a known type -/

def tblk (T : TypeId) (b : Nat) (cs : List Value) : Res where
  foot := [b]
  holds w := w.heap[b]? = some (.cells cs.toArray T (0, 0))
  stable w w' h h1 := (h b (by simp)).trans h1
section
variable {P : Program} {N : Nat} {w0 : World} {F : Frm} {L : List Res} {d : Option Tmp} {x y : Operand} {v : Value} {ty t : TypeId} {pos : String} {af : Array Edge} {gd : Option (Nat × Bool)} {K : Frm → List Res → Prop}
theorem oj_boxT (hx : FE N F x v) (h : ∀ b, K (fput F d (.pointer (some ⟨b, 0, none⟩))) (tblk t b (zc v) :: L)) : OpJ P N w0 F L ⟨d, .box t x, ty, pos, af, gd⟩ K := fun a w hF hS => by
  have hr : (execOp a.eval ⟨d, .box t x, ty, pos, af, gd⟩).run P w = .ok (.value (.pointer (some ⟨w.heap.size, 0, none⟩))) (w.alloc (.cells v.cells t)) := by
    simp [execOp, Instr.box, hx a hF, newVar, newRow, newObj, run_new]
  unfold Oper.wp
  rw [hr]
  refine ⟨_, _, h w.heap.size, hF.put _ _, hS.add (alloc_new w _) ?_ (fun b hb => ?_)⟩
  · show (w.alloc _).heap[w.heap.size]? = _
    rw [heap_alloc_new, ← zc_cells]
  · simp only [tblk, List.mem_singleton] at hb
    subst hb
    exact ⟨Nat.le_refl _, by simp⟩
theorem oj_allocT {z : Value} (hz : ∀ w, (zeroValue t).run P w = .ok z w) (h : ∀ b, K (fput F d (.pointer (some ⟨b, 0, none⟩))) (tblk t b (zc z) :: L)) : OpJ P N w0 F L ⟨d, .alloc t, ty, pos, af, gd⟩ K := fun a w hF hS => by
  have hr : (execOp a.eval ⟨d, .alloc t, ty, pos, af, gd⟩).run P w = .ok (.value (.pointer (some ⟨w.heap.size, 0, none⟩))) (w.alloc (.cells z.cells t)) := by
    simp [execOp, Instr.alloc, hz, newVar, newRow, newObj, run_new]
  unfold Oper.wp
  rw [hr]
  refine ⟨_, _, h w.heap.size, hF.put _ _, hS.add (alloc_new w _) ?_ (fun b hb => ?_)⟩
  · show (w.alloc _).heap[w.heap.size]? = _
    rw [heap_alloc_new, ← zc_cells]
  · simp only [tblk, List.mem_singleton] at hb
    subst hb
    exact ⟨Nat.le_refl _, by simp⟩
theorem oj_storeT {T : TypeId} {b s : Nat} {cs vs : List Value} (i : Nat) (hs : ∀ w, (sizeOf t).run P w = .ok s w) (hx : FE N F x (.pointer (some ⟨b, 0, none⟩))) (hy : FE N F y v) (hv : v.cells = vs.toArray) (hl : vs.length = s) (h1 : vs.all (·.oneCell') = true) (hk : lget L i = some (tblk T b cs)) (ho : Nat.beq s cs.length = true)
    (h : K (fput F d undef) (lset L i (tblk T b vs))) : OpJ P N w0 F L ⟨d, .store t x y, ty, pos, af, gd⟩ K := fun a w hF hS => by
  have hg : w.heap[b]? = some (.cells cs.toArray T (0, 0)) := hS.holds i _ hk
  have ho' := Nat.eq_of_beq_eq_true ho
  have e : cs.take 0 ++ vs ++ cs.drop (0 + s) = vs := by rw [List.take_zero, Nat.zero_add, ho', List.drop_length]; simp
  have hr : (execOp a.eval ⟨d, .store t x y, ty, pos, af, gd⟩).run P w = .ok .skip (w.setRow b vs.toArray) := by
    have := run_storeb (P := P) hs hv hl h1 hg (o := 0) (by omega)
    rw [e] at this
    simp [execOp, Instr.storeAt, Instr.sureAddr, hx a hF, hy a hF, this]
  unfold Oper.wp
  rw [hr]
  have hlt := (hS.lt i _ hk b (by simp [tblk])).2
  refine ⟨_, _, h, hF.put _ _, hS.turn hk rfl rfl rfl (by simp [World.setRow]) (fun k hk1 hk2 => setRow_other w b k _ (fun e => hk2 (by simp [tblk, e]))) (setRow_heap w b _ _ T _ hg) (fun k hk1 => ?_)⟩
  simp only [tblk, List.mem_singleton] at hk1
  subst hk1
  exact ⟨by simpa [World.setRow] using hlt, .inl (by simp [tblk])⟩
theorem y_ldT {T : TypeId} {b o : Nat} {cs : List Value} (i : Nat) (ha : ∀ w, (isAgg t).run P w = .ok false w) (hx : FE N F x (.pointer (some ⟨b, o, none⟩))) (hk : lget L i = some (tblk T b cs)) (ho : cs[o]? = some v) : Yld P N w0 F L ⟨d, .load t x, ty, pos, af, gd⟩ v := fun a w hF hS => by
  have hg : w.heap[b]? = some (.cells cs.toArray T (0, 0)) := hS.holds i _ hk
  have hc : w.cell? ⟨b, o, none⟩ = some v := by rw [cell_of_row w b o _ T (0, 0) hg]; simpa using ho
  simp [execOp, hx a hF, Instr.loadAt, Instr.sureAddr, loadVar, ha, load, Sem.run, hc]
end

/-- A new builder. -/
theorem oj_allocB {N : Nat} {w0 : World} {F : Frm} {L : List Res} {d : Option Tmp} {ty : TypeId} {pos : String} {af : Array Edge} {gd : Option (Nat × Bool)} {K : Frm → List Res → Prop}
    (h : ∀ b, K (fput F d (.pointer (some ⟨b, 0, none⟩))) (bld b none [] :: L)) : OpJ Tryd.prog N w0 F L ⟨d, .alloc 98, ty, pos, af, gd⟩ K := fun a w hF hS => by
  have hr : (execOp a.eval ⟨d, .alloc 98, ty, pos, af, gd⟩).run Tryd.prog w = .ok (.value (.pointer (some ⟨w.heap.size, 0, none⟩))) (w.alloc (.cells #[.pointer none, .slice none 0 0] 98)) := by
    simp [execOp, Instr.alloc, Tryd.zeroValue98, newVar, newRow, newObj, run_new]
    rfl
  unfold Oper.wp
  rw [hr]
  refine ⟨_, _, h w.heap.size, hF.put _ _, hS.add (alloc_new w _) ⟨_, _, .inl rfl, heap_alloc_new w _, ⟨rfl, .inl ⟨rfl, rfl⟩⟩, rfl, by simp⟩ (fun b hb => ?_)⟩
  simp only [bld, Option.toList_none, List.mem_singleton] at hb
  subst hb
  exact ⟨Nat.le_refl _, by simp⟩

/-- The text in other words. -/
theorem _root_.Go.Proofs.YtfcpmcdlgkfolaaDoor.E.St.txt {w0 w : World} {b : Nat} {g : Option Nat} {l m : List UInt8} {L M : List Res} (h : St w0 w L) (e : L = bld b g l :: M) (hm : l = m) : St w0 w (bld b g m :: M) := by
  subst hm e
  exact h
theorem wsM {w0 w : World} {b : Nat} {g : Option Nat} {l : List UInt8} {M : List Res} (hS : St w0 w (bld b g l :: M)) (hM : ∀ i r, lget M i = some r → ∃ T c cs, r = tblk T c cs ∧ T ≠ YtfcpmcdlgkfolaaDoor.Bench.wsL_ren.t 5) (s : List UInt8) (h : l.length + s.length ≤ 1099511627776) :
    Calls Tryd.prog 35 #[.pointer (some ⟨b, 0, none⟩), str s] w fun e w' => ∃ q : Option Nat, True ∧ e = .returned (.tuple #[(.int .i64 ((s.length : Int))), .nilIface]) ∧ St w0 w' (bld b q (l ++ s) :: M) := by
  refine (Any.Builder_WriteString_k { YtfcpmcdlgkfolaaDoor.Bench.wsL with } wsX w0.heap.size b (byteCells l) ⟨s.toArray⟩ w (bld_is hS) (by rw [byteCells_length, mk_size]; omega) hS.size).mono ?_
  rintro e w' ⟨rfl, hA, hb, hk⟩
  have e1 : byteCells l ++ strCells ⟨s.toArray⟩ = byteCells (l ++ s) := by simp [byteCells, strCells]
  rw [e1] at hA
  obtain ⟨q, hq⟩ := bld_of hS (.inr rfl) hA hb
  have hT : ∀ (i : Nat) (T : TypeId) (c : Nat) (cs : List Value), lget M i = some (tblk T c cs) → T ≠ YtfcpmcdlgkfolaaDoor.Bench.wsL_ren.t 5 → w'.heap[c]? = some (.cells cs.toArray T (0, 0)) ∧ c ∉ (bld b q (l ++ s)).foot := fun i T c cs hi hT => by
    have hc0 : w.heap[c]? = some (.cells cs.toArray T (0, 0)) := hS.holds (i + 1) _ hi
    have hcb : c ≠ b := fun e => hS.sep (i + 1) 0 _ _ hi rfl (by omega) c (by simp [tblk]) (by rw [e]; exact List.mem_cons_self ..)
    have hc1 : w'.heap[c]? = some (.cells cs.toArray T (0, 0)) := hk c _ hc0 (fun e => hcb (Option.some.inj e)) (fun c' fz e => by
      injection e with _ e2 _
      exact hT e2)
    refine ⟨hc1, fun hm => ?_⟩
    rcases List.mem_cons.1 hm with hm | hm
    · exact hcb hm
    · obtain ⟨p, v, _, _, ⟨_, h4⟩, h5, _⟩ := hq.holds 0 _ rfl
      rw [← h5] at hm
      rcases h4 with ⟨rfl, _⟩ | ⟨g', cap, cur, fz, rfl, _, r2, _⟩
      · simp [Value.ownBlock] at hm
      · simp only [Value.ownBlock, Option.map_some, Option.toList_some, List.mem_singleton] at hm
        subst hm
        rw [r2] at hc1
        simp only [Option.some.injEq, Obj.cells.injEq] at hc1
        exact hT hc1.2.1.symm
  refine ⟨q, trivial, by rw [mk_size], hq.below, fun i r hi => ?_, fun i r hi k hk' => ?_, fun i j r s' hi hj hne k hk1 hk2 => ?_⟩
  · match i with
    | 0 => exact hq.holds 0 r hi
    | i + 1 =>
      obtain ⟨T, c, cs, rfl, h1⟩ := hM i r hi
      exact (hT i T c cs hi h1).1
  · match i with
    | 0 => exact hq.lt 0 r hi k hk'
    | i + 1 =>
      obtain ⟨T, c, cs, rfl, h1⟩ := hM i r hi
      simp only [tblk, List.mem_singleton] at hk'
      subst hk'
      exact ⟨(hS.lt (i + 1) _ hi k (by simp [tblk])).1, (Array.getElem?_eq_some_iff.1 (hT i T k cs hi h1).1).1⟩
  · match i, j with
    | 0, 0 => exact absurd rfl hne
    | 0, j + 1 =>
      obtain ⟨T, c, cs, rfl, h1⟩ := hM j s' hj
      simp only [lget, Option.some.injEq] at hi
      subst hi
      simp only [tblk, List.mem_singleton] at hk2
      subst hk2
      exact (hT j T k cs hj h1).2 hk1
    | i + 1, 0 =>
      obtain ⟨T, c, cs, rfl, h1⟩ := hM i r hi
      simp only [lget, Option.some.injEq] at hj
      subst hj
      simp only [tblk, List.mem_singleton] at hk1
      subst hk1
      exact (hT i T k cs hi h1).2 hk2
    | i + 1, j + 1 => exact hS.sep (i + 1) (j + 1) _ _ hi hj hne k hk1 hk2
theorem ws_one {T c : Nat} {cs : List Value} (hT : T ≠ YtfcpmcdlgkfolaaDoor.Bench.wsL_ren.t 5) : ∀ i r, lget [tblk T c cs] i = some r → ∃ T c cs, r = tblk T c cs ∧ T ≠ YtfcpmcdlgkfolaaDoor.Bench.wsL_ren.t 5
  | 0, r, h => ⟨T, c, cs, (Option.some.inj h).symm, hT⟩
  | i + 1, r, h => by simp [lget] at h
theorem ws_two {T c T' c' : Nat} {cs cs' : List Value} (hT : T ≠ YtfcpmcdlgkfolaaDoor.Bench.wsL_ren.t 5) (hT' : T' ≠ YtfcpmcdlgkfolaaDoor.Bench.wsL_ren.t 5) : ∀ i r, lget [tblk T c cs, tblk T' c' cs'] i = some r → ∃ T c cs, r = tblk T c cs ∧ T ≠ YtfcpmcdlgkfolaaDoor.Bench.wsL_ren.t 5
  | 0, r, h => ⟨T, c, cs, (Option.some.inj h).symm, hT⟩
  | 1, r, h => ⟨T', c', cs', (Option.some.inj h).symm, hT'⟩
  | i + 2, r, h => by simp [lget] at h
end Go.Proofs.YtfcpmcdlgkfolaaDoor.Bn
