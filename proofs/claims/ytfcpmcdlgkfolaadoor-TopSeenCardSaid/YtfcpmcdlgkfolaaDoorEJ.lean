/- Rules for the Int library: a thing held is replaced by a lesser one; a slice literal of two numbers; numbers as the old contracts read them. -/
import Derived.Test.YtfcpmcdlgkfolaaDoorEA
import Derived.Test.YtfcpmcdlgkfolaaDoorBigW
import Derived.Test.YtfcpmcdlgkfolaaDoorBigF
namespace Go.Proofs.YtfcpmcdlgkfolaaDoor.E
open Go.RowKit
section
variable {w0 w : World} {L : List Res} {r r' : Res} {k : Nat}
theorem St.less (h : St w0 w L) (hk : lget L k = some r) (hr : r.holds w → r'.holds w) (hf : ∀ b ∈ r'.foot, b ∈ r.foot) : St w0 w (lset L k r') :=
  h.turn hk rfl rfl rfl (Nat.le_refl _) (fun _ _ _ => rfl) (hr (h.holds k r hk)) (fun b hb => ⟨(h.lt _ _ hk b (hf b hb)).2, .inl (hf b hb)⟩)
theorem St.via {M : List Res} (h : St w0 w L) (f : Nat → Nat) (hf : ∀ i r, lget M i = some r → lget L (f i) = some r) (hi : ∀ i j r s, lget M i = some r → lget M j = some s → f i = f j → i = j) : St w0 w M :=
  ⟨h.below, fun i r hr => h.holds _ _ (hf i r hr), fun i r hr => h.lt _ _ (hf i r hr), fun i j r s hr hs hne => h.sep _ _ r s (hf i r hr) (hf j s hs) (fun e => hne (hi i j r s hr hs e))⟩
theorem lget_len : ∀ {l : List Res} {i : Nat} {r : Res}, lget l i = some r → i < l.length
  | [], i, r, h => by simp [lget] at h
  | x :: l, 0, r, _ => by simp
  | x :: l, i + 1, r, h => by have := lget_len (l := l) (i := i) h; simp; omega
theorem lget_at : ∀ (l : List Res) (i : Nat), lget l i = l[i]?
  | [], i => by simp [lget]
  | x :: l, 0 => by simp [lget]
  | x :: l, i + 1 => by simp [lget, lget_at l i]
/-- Some of the first things held, in another order; what comes behind them stays. -/
theorem pickT {l T : List Res} (h : St w0 w (l ++ T)) (ks : List Nat) (hs : ks.map (lget l) = (sel l ks).map some) (hn : ks.Nodup) : St w0 w (sel l ks ++ T) := by
  have hlen : (sel l ks).length = ks.length := by simpa using (congrArg List.length hs).symm
  have key : ∀ (i : Nat) (r : Res), lget (sel l ks) i = some r → ∃ k : Nat, ks[i]? = some k ∧ lget l k = some r := by
    intro i r hi
    rw [lget_at] at hi
    have h1 := congrArg (·[i]?) hs
    simp only [List.getElem?_map, hi, Option.map_some] at h1
    cases hk : ks[i]? with
    | none => rw [hk] at h1; simp at h1
    | some k => rw [hk] at h1; exact ⟨k, rfl, by simpa using h1⟩
  have hb : ∀ (i k : Nat), ks[i]? = some k → k < l.length := by
    intro i k hk
    have h1 := congrArg (·[i]?) hs
    simp only [List.getElem?_map, hk, Option.map_some] at h1
    cases h2 : (sel l ks)[i]? with
    | none => rw [h2] at h1; simp at h1
    | some r => rw [h2] at h1; exact lget_len (by simpa using h1)
  refine St.via h (fun i => match ks[i]? with | some k => k | none => i - ks.length + l.length) (fun i r hi => ?_) (fun i j r s hi hj he => ?_)
  · rw [lget_append] at hi
    split at hi
    · obtain ⟨k, hk, hr⟩ := key i r hi
      rw [hk]
      dsimp only
      rw [lget_append, if_pos (lget_len hr)]
      exact hr
    · rename_i hge
      rw [List.getElem?_eq_none (by omega)]
      dsimp only
      rw [lget_append, if_neg (by omega), ← hi, hlen]
      congr 1
      omega
  · cases h1 : ks[i]? with
    | none =>
      have hi1 := List.getElem?_eq_none_iff.1 h1
      cases h2 : ks[j]? with
      | none =>
        have hj1 := List.getElem?_eq_none_iff.1 h2
        rw [h1, h2] at he
        dsimp only at he
        omega
      | some k2 => rw [h1, h2] at he; have := hb j k2 h2; dsimp only at he; omega
    | some k1 =>
      have := hb i k1 h1
      cases h2 : ks[j]? with
      | none => rw [h1, h2] at he; dsimp only at he; omega
      | some k2 =>
        rw [h1, h2] at he
        dsimp only at he
        subst he
        obtain ⟨hi2, hi3⟩ := List.getElem?_eq_some_iff.1 h1
        obtain ⟨hj2, hj3⟩ := List.getElem?_eq_some_iff.1 h2
        rcases Nat.lt_trichotomy i j with h3 | h3 | h3
        · exact absurd (hi3.trans hj3.symm) (List.pairwise_iff_getElem.1 hn i j hi2 hj2 h3)
        · exact h3
        · exact absurd (hj3.trans hi3.symm) (List.pairwise_iff_getElem.1 hn j i hj2 hi2 h3)
theorem OwnV.take {e s n c m : Nat} {A : Option Addr} {xs : List Value} (h : OwnV w e s (.slice A n c) n xs) (hm : m ≤ n) : OwnV w e s (.slice A m c) m (xs.take (m * s)) := by
  obtain ⟨h1, h2 | ⟨g, off, cap, cur, hv, hh, hl, hx, hs, ht⟩⟩ := h
  · obtain ⟨hv, hn⟩ := h2
    injection hv with e1 e2 e3
    subst e1 e3 hn
    obtain rfl : m = 0 := by omega
    exact ⟨by simp, .inl ⟨rfl, rfl⟩⟩
  · injection hv with e1 e2 e3
    subst e1 e3
    have hle : m * s ≤ n * s := Nat.mul_le_mul_right _ hm
    refine ⟨by rw [List.length_take, h1]; omega, .inr ⟨g, off, c, cur, rfl, hh, by omega, hx, hs, ?_⟩⟩
    rw [← ht, List.take_take]
    congr 1
    omega
end
section
variable {P : Program} {N : Nat} {w0 : World} {F : Frm} {L : List Res} {d : Option Tmp} {x y : Operand} {v u : Value} {ty t : TypeId} {pos : String} {af : Array Edge} {gd : Option (Nat × Bool)} {K : Frm → List Res → Prop} {Q : Exit → Act → World → Prop} {c : Code} {ops : Array Oper} {l : List Oper}
theorem tr_lesser {r r' : Res} (k : Nat) (hk : lget L k = some r) (hr : ∀ w, r.holds w → r'.holds w) (hf : ∀ b ∈ r'.foot, b ∈ r.foot) (h : TR P N w0 Q c F (lset L k r')) : TR P N w0 Q c F L := fun a w hF hS => h a w hF (hS.less hk (hr w) hf)
theorem tl_lesser {r r' : Res} (k : Nat) (hk : lget L k = some r) (hr : ∀ w, r.holds w → r'.holds w) (hf : ∀ b ∈ r'.foot, b ∈ r.foot) (h : TL P N w0 ops Q l F (lset L k r')) : TL P N w0 ops Q l F L := fun a w hF hS => h a w hF (hS.less hk (hr w) hf)
theorem tr_shrink {e s n m cp : Nat} {A : Option Addr} {xs : List Value} (k : Nat) (hk : lget L k = some (vec e s (.slice A n cp) n xs)) (hm : m ≤ n) (h : TR P N w0 Q c F (lset L k (vec e s (.slice A m cp) m (xs.take (m * s))))) : TR P N w0 Q c F L :=
  tr_lesser k hk (fun _ h => OwnV.take h hm) (by cases A <;> exact fun _ h => h) h
theorem y_negk {k : IntKind} {a : Int} (hx : FE N F x (.int k a)) : Yld P N w0 F L ⟨d, .unOp .neg t x, ty, pos, af, gd⟩ (.int k (k.wrap (-a))) := fun c w hF _ => by
  simp [execOp, hx c hF, Op.unary, Op.intArith]
/-- A number that is said otherwise. -/
theorem y_as {k : IntKind} {a b : Int} {o : Oper} (h : Yld P N w0 F L o (.int k a)) (e : a = b) : Yld P N w0 F L o (.int k b) := e ▸ h
theorem y_neqb {a b : Bool} {t' : TypeId} (hu : P.underlying t = some .bool) (hx : FE N F x (.bool a)) (hy : FE N F y (.bool b)) : Yld P N w0 F L ⟨d, .binOp .neq t x y t', ty, pos, af, gd⟩ (.bool (!(a == b))) := y_binop hx hy fun w => by simp [eqGuard, run_neq_bool w t a b hu]
theorem oj_lit2 {e : Nat} {k : IntKind} {a b : Int} (hu : P.underlying t = some (.slice e)) (hs : ∀ w, (sizeOf e).run P w = .ok 1 w) (hz : ∀ w, (zeroValue e).run P w = .ok (.int k 0) w) (hx : FE N F x (.int k a)) (hy : FE N F y (.int k b))
    (h : ∀ g, K (fput F d (.slice (some ⟨g, 0, none⟩) 2 2)) (vec e 1 (.slice (some ⟨g, 0, none⟩) 2 2) 2 [.int k a, .int k b] :: L)) : OpJ P N w0 F L ⟨d, .buildSlice t 2 #[(0, x), (1, y)], ty, pos, af, gd⟩ K := fun ac w hF hS => by
  have hfill : Instr.fill (fun i => some (i, 1)) ((Array.range 2).map ((Value.int k 0).cells[· % (Value.int k 0).cells.size]!)) [(0, .int k a), (1, .int k b)] = some #[.int k a, .int k b] := by
    have h1 : (Array.range 2).map ((Value.int k 0).cells[· % (Value.int k 0).cells.size]!) = #[.int k 0, .int k 0] := by
      simp [show Array.range 2 = #[0, 1] from rfl, Value.cells]
    rw [h1]
    simp [Instr.fill, Value.cells]
    try rfl
  have hr : (execOp ac.eval ⟨d, .buildSlice t 2 #[(0, x), (1, y)], ty, pos, af, gd⟩).run P w = .ok (.value (.slice (some ⟨w.heap.size, 0, none⟩) 2 2)) (w.alloc (.cells #[.int k a, .int k b] e)) := by
    simp [execOp, Instr.buildSlice, hx ac hF, hy ac hF, run_underlying hu, hs, hz, hfill, newRow, newObj, run_new]
  unfold Oper.wp
  rw [hr]
  refine ⟨_, _, h w.heap.size, hF.put _ _, hS.add (alloc_new w _) ⟨rfl, .inr ⟨w.heap.size, 0, 2, #[.int k a, .int k b], rfl, heap_alloc_new w _, Nat.le_refl _, by decide, by simp, by simp⟩⟩ (fun b hb => ?_)⟩
  simp only [vec, Value.ownBlock, Option.toList_some, List.mem_singleton] at hb
  subst hb
  exact ⟨Nat.le_refl _, by simp⟩
end
end Go.Proofs.YtfcpmcdlgkfolaaDoor.E

namespace Go.Proofs.YtfcpmcdlgkfolaaDoor.Big
open Go.RowKit Go.Proofs.YtfcpmcdlgkfolaaDoor.E

/-- Digits as cells. -/
def cU (ds : List Int) : List Value := ds.map (.int .u32)
theorem cU_len (ds : List Int) : (cU ds).length = ds.length := by simp [cU]
theorem cU_take (ds : List Int) (k : Nat) : (cU ds).take (k * 1) = cU (ds.take k) := by simp [cU, List.map_take]
theorem cU_get {ds : List Int} {k : Nat} (h : k < ds.length) : (cU ds)[k]? = some (.int .u32 ds[k]) := by simp [cU, h]
theorem trim_step {ds : List Int} {k : Nat} (h0 : 0 < k) (hk : k ≤ ds.length) (hz : ds[k - 1]'(by omega) = 0) : dval (ds.take k) = dval (ds.take (k - 1)) := by
  obtain ⟨j, rfl⟩ : ∃ j, k = j + 1 := ⟨k - 1, by omega⟩
  simp only [Nat.add_sub_cancel] at hz ⊢
  rw [dval_take_succ (by omega), hz]
  simp
theorem trim_tk {ds : List Int} {k : Nat} (hk : k ≤ ds.length) (h : k = 0 ∨ ∃ hl : k - 1 < ds.length, ds[k - 1] ≠ 0) : Trim (ds.take k) := by
  intro hp
  rw [List.length_take, Nat.min_eq_left hk] at hp
  rcases h with rfl | ⟨hl, h⟩
  · omega
  · simp only [List.length_take, Nat.min_eq_left hk, List.getElem_take]
    exact h
/-- The header of a number. -/
abbrev hdr (b : Nat) (neg : Bool) (A : Option Addr) (n c : Nat) : Res := blk b [.bool neg, .slice A n c]
/-- Its digits. -/
abbrev dig (A : Option Addr) (n c : Nat) (ds : List Int) : Res := vec 200 1 (.slice A n c) n (cU ds)

set_option maxRecDepth 100000 in
set_option maxHeartbeats 1000000 in
theorem trimE {w0 w : World} {T : List Res} (b : Nat) (neg : Bool) (A : Option Addr) (n c : Nat) (ds : List Int) (hS : St w0 w (hdr b neg A n c :: dig A n c ds :: T)) (hn : ds.length = n) (hc : n ≤ c) (hm : n ≤ 140737488355328) (hD : Dig ds) :
    Calls Tryd.prog 125 #[.pointer (some ⟨b, 0, none⟩)] w fun e w' => ∃ k : Nat, (k ≤ n ∧ Trim (ds.take k) ∧ dval (ds.take k) = dval ds) ∧ e = .returned (.pointer (some ⟨b, 0, none⟩)) ∧ St w0 w' (hdr b (neg && decide (k ≠ 0)) A k c :: dig A k c (ds.take k) :: T) := by
  refine calls_tr Tryd.func125 Tryd.ntmps125 rfl rfl hS ?_
  refine tr_seq ?_
  refine tr_region ?_
  refine tl_step rfl (oj_val (y_assign fe_c) ?_)
  refine tl_nil ?_
  refine tx_then ?_
  refine tr_seq ?_
  refine tr_region ?_
  refine tl_step rfl (oj_val (y_move (fe_t rfl)) ?_)
  refine tl_step rfl (oj_val (y_nilCheck (fe_t rfl)) ?_)
  refine tl_step rfl (oj_val (y_fieldAddr (td := 179) Tryd.underlying181 rfl rfl Tryd.sizeOf179 (o' := 1) rfl (fe_t rfl)) ?_)
  refine tl_step rfl (oj_val (y_ldb 0 Tryd.isAgg179 (fe_t rfl) rfl rfl) ?_)
  refine tl_step rfl (oj_val (y_len Tryd.underlying179 (fe_t rfl)) ?_)
  refine tl_step rfl (oj_val (y_assign (fe_t rfl)) ?_)
  refine tl_nil ?_
  refine tx_then ?_
  refine tr_seq ?_
  refine tr_block ?_
  refine tr_loop1 [3, 9, 10, 11, 12, 13, 14, 15, 16, 17, 18, 19, 20, 21, 22, 23] (fun (k : Nat) => [(3, .int .i64 (k : Int))]) 0 (fun (k : Nat) => []) (fun (k : Nat) => k ≤ n ∧ dval (ds.take k) = dval ds) (fun (k : Nat) => k) (n) (cov_cons (by first | rfl | exact v_int (by omega) | exact v_bool (by simp [*])) (cov_nil)) (fun w h => h) ?_ ?_
  · try dsimp only
    exact ⟨Nat.le_refl _, by rw [List.take_of_length_le (by omega)]⟩
  intro k hp
  obtain ⟨hk, hd⟩ := hp
  refine tr_seq ?_
  refine tr_seq ?_
  refine tr_region ?_
  refine tl_step rfl (oj_val (y_move (fe_t rfl)) ?_)
  refine tl_step rfl (oj_val (y_gtr (fe_t rfl) fe_c) ?_)
  refine tl_step rfl (oj_val (y_move (fe_t rfl)) ?_)
  refine tl_splitp (d := 11) rfl (fun hq1 => ?_) (fun hq2 => ?_)
  · refine tl_want rfl rfl rfl (oj_val (y_move (fe_t rfl)) ?_)
    refine tl_want rfl rfl rfl (oj_val (y_nilCheck (fe_t rfl)) ?_)
    refine tl_want rfl rfl rfl (oj_val (y_fieldAddr (td := 179) Tryd.underlying181 rfl rfl Tryd.sizeOf179 (o' := 1) rfl (fe_t rfl)) ?_)
    refine tl_want rfl rfl rfl (oj_val (y_ldb 0 Tryd.isAgg179 (fe_t rfl) rfl rfl) ?_)
    refine tl_want rfl rfl rfl (oj_val (y_move (fe_t rfl)) ?_)
    refine tl_want rfl rfl rfl (oj_val (y_dec (fe_t rfl) fe_c (by omega)) ?_)
    refine tl_want rfl rfl rfl (oj_val (y_index Tryd.underlying179 Tryd.sizeOf200 (fe_t rfl) (fe_t rfl) (rdl_vec 1 rfl) (by rw [cU_len]; omega) (by decide) (by omega) (Nat.mul_one _)) ?_)
    refine tl_want rfl rfl rfl (oj_val (y_ld (v := .int .u32 (ds[k - 1]'(by omega))) Tryd.isAgg200 (fe_t rfl) (rdl_vec 1 rfl) (cU_get (by omega))) ?_)
    refine tl_want rfl rfl rfl (oj_val (y_eq (fe_t rfl) fe_c) ?_)
    refine tl_step rfl (oj_val (y_pickt (fe_t rfl) (fe_t rfl)) ?_)
    refine tl_nil ?_
    refine tx_then ?_
    refine tr_condp (fe_t rfl) (fun hq3 => ?_) (fun hq4 => ?_)
    · refine tr_skip ?_
      refine tx_then ?_
      refine tr_block ?_
      refine tr_region ?_
      refine tl_step rfl (oj_val (y_move (fe_t rfl)) ?_)
      refine tl_step rfl (oj_val (y_dec (fe_t rfl) fe_c (by omega)) ?_)
      refine tl_step rfl (oj_val (y_assign (fe_t rfl)) ?_)
      refine tl_nil ?_
      refine tx_in ?_
      apply tx_back1 (k - 1)
      · exact (cov_cons (by first | rfl | exact v_int (by omega) | exact v_bool (by simp [*])) (cov_nil))
      · repeat (first | exact over_nil | refine over_put rfl ?_ | refine over_drop rfl ?_)
      · exact fun w h => h
      · exact ⟨⟨by omega, (trim_step (by omega) (by omega) (by omega)).symm.trans hd⟩, by omega⟩
    · refine tr_exit ?_
      refine tx_then_exit ?_
      refine tx_then_exit ?_
      refine tx_in_exit ?_
      refine tx_then ?_
      refine tr_seq ?_
      have ht : Trim (ds.take k) := trim_tk (by omega) (by first | exact .inl (by omega) | exact .inr ⟨by omega, by omega⟩)
      refine tr_shrink 1 rfl hk ?_
      rw [cU_take]
      refine tr_region ?_
      refine tl_step rfl (oj_val (y_move (fe_t rfl)) ?_)
      refine tl_step rfl (oj_val (y_move (fe_t rfl)) ?_)
      refine tl_step rfl (oj_val (y_nilCheck (fe_t rfl)) ?_)
      refine tl_step rfl (oj_val (y_fieldAddr (td := 179) Tryd.underlying181 rfl rfl Tryd.sizeOf179 (o' := 1) rfl (fe_t rfl)) ?_)
      refine tl_step rfl (oj_val (y_ldb 0 Tryd.isAgg179 (fe_t rfl) rfl rfl) ?_)
      refine tl_step rfl (oj_val (y_move (fe_t rfl)) ?_)
      refine tl_step rfl (oj_val (y_cutH Tryd.underlying179 Tryd.sizeOf200 (fe_t rfl) (fe_t rfl) (by omega)) ?_)
      refine tl_step rfl (oj_val (y_nilCheck (fe_t rfl)) ?_)
      refine tl_step rfl (oj_val (y_fieldAddr (td := 179) Tryd.underlying181 rfl rfl Tryd.sizeOf179 (o' := 1) rfl (fe_t rfl)) ?_)
      refine tl_step rfl (oj_store1 0 Tryd.sizeOf179 (fe_t rfl) (fe_t rfl) rfl rfl rfl rfl (?_))
      refine tl_nil ?_
      refine tx_then ?_
      refine tr_seq ?_
      refine tr_seq ?_
      refine tr_region ?_
      refine tl_step rfl (oj_val (y_move (fe_t rfl)) ?_)
      refine tl_step rfl (oj_val (y_eq (fe_t rfl) fe_c) ?_)
      refine tl_nil ?_
      refine tx_then ?_
      refine tr_condp (fe_t rfl) (fun hq5 => ?_) (fun hq6 => ?_)
      · refine tr_region ?_
        refine tl_step rfl (oj_val (y_move (fe_t rfl)) ?_)
        refine tl_step rfl (oj_val (y_nilCheck (fe_t rfl)) ?_)
        refine tl_step rfl (oj_val (y_fieldAddr (td := 4) Tryd.underlying181 rfl rfl Tryd.sizeOf4 (o' := 0) rfl (fe_t rfl)) ?_)
        refine tl_step rfl (oj_store1 0 Tryd.sizeOf4 (fe_t rfl) fe_c rfl rfl rfl rfl (?_))
        refine tl_nil ?_
        refine tx_then ?_
        refine tr_seq ?_
        refine tr_region ?_
        refine tl_step rfl (oj_val (y_move (fe_t rfl)) ?_)
        refine tl_step rfl (oj_val (y_assign (fe_t rfl)) ?_)
        refine tl_nil ?_
        refine tx_then ?_
        refine tr_ret ?_
        refine tx_ret (res1 Tryd.results125 (rok_t rfl)) (fun w' hS => ?_)
        refine ⟨k, ⟨hk, ht, hd⟩, rfl, ?_⟩
        first
          | (rw [show (neg && decide (k ≠ 0)) = neg from by rw [show decide (k ≠ 0) = true from decide_eq_true (by omega), Bool.and_true]]; exact hS)
          | (rw [show (neg && decide (k ≠ 0)) = false from by rw [show decide (k ≠ 0) = false from decide_eq_false (by omega), Bool.and_false]]; exact hS)
      · refine tr_skip ?_
        refine tx_then ?_
        refine tr_seq ?_
        refine tr_region ?_
        refine tl_step rfl (oj_val (y_move (fe_t rfl)) ?_)
        refine tl_step rfl (oj_val (y_assign (fe_t rfl)) ?_)
        refine tl_nil ?_
        refine tx_then ?_
        refine tr_ret ?_
        refine tx_ret (res1 Tryd.results125 (rok_t rfl)) (fun w' hS => ?_)
        refine ⟨k, ⟨hk, ht, hd⟩, rfl, ?_⟩
        first
          | (rw [show (neg && decide (k ≠ 0)) = neg from by rw [show decide (k ≠ 0) = true from decide_eq_true (by omega), Bool.and_true]]; exact hS)
          | (rw [show (neg && decide (k ≠ 0)) = false from by rw [show decide (k ≠ 0) = false from decide_eq_false (by omega), Bool.and_false]]; exact hS)
  · refine tl_skip rfl rfl rfl rfl ?_
    refine tl_skip rfl rfl rfl rfl ?_
    refine tl_skip rfl rfl rfl rfl ?_
    refine tl_skip rfl rfl rfl rfl ?_
    refine tl_skip rfl rfl rfl rfl ?_
    refine tl_skip rfl rfl rfl rfl ?_
    refine tl_skip rfl rfl rfl rfl ?_
    refine tl_skip rfl rfl rfl rfl ?_
    refine tl_skip rfl rfl rfl rfl ?_
    refine tl_step rfl (oj_val (y_pickf (fe_t rfl) fe_c) ?_)
    refine tl_nil ?_
    refine tx_then ?_
    refine tr_condf (fe_t rfl) ?_
    refine tr_exit ?_
    refine tx_then_exit ?_
    refine tx_then_exit ?_
    refine tx_in_exit ?_
    refine tx_then ?_
    refine tr_seq ?_
    have ht : Trim (ds.take k) := trim_tk (by omega) (by first | exact .inl (by omega) | exact .inr ⟨by omega, by omega⟩)
    refine tr_shrink 1 rfl hk ?_
    rw [cU_take]
    refine tr_region ?_
    refine tl_step rfl (oj_val (y_move (fe_t rfl)) ?_)
    refine tl_step rfl (oj_val (y_move (fe_t rfl)) ?_)
    refine tl_step rfl (oj_val (y_nilCheck (fe_t rfl)) ?_)
    refine tl_step rfl (oj_val (y_fieldAddr (td := 179) Tryd.underlying181 rfl rfl Tryd.sizeOf179 (o' := 1) rfl (fe_t rfl)) ?_)
    refine tl_step rfl (oj_val (y_ldb 0 Tryd.isAgg179 (fe_t rfl) rfl rfl) ?_)
    refine tl_step rfl (oj_val (y_move (fe_t rfl)) ?_)
    refine tl_step rfl (oj_val (y_cutH Tryd.underlying179 Tryd.sizeOf200 (fe_t rfl) (fe_t rfl) (by omega)) ?_)
    refine tl_step rfl (oj_val (y_nilCheck (fe_t rfl)) ?_)
    refine tl_step rfl (oj_val (y_fieldAddr (td := 179) Tryd.underlying181 rfl rfl Tryd.sizeOf179 (o' := 1) rfl (fe_t rfl)) ?_)
    refine tl_step rfl (oj_store1 0 Tryd.sizeOf179 (fe_t rfl) (fe_t rfl) rfl rfl rfl rfl (?_))
    refine tl_nil ?_
    refine tx_then ?_
    refine tr_seq ?_
    refine tr_seq ?_
    refine tr_region ?_
    refine tl_step rfl (oj_val (y_move (fe_t rfl)) ?_)
    refine tl_step rfl (oj_val (y_eq (fe_t rfl) fe_c) ?_)
    refine tl_nil ?_
    refine tx_then ?_
    refine tr_condp (fe_t rfl) (fun hq7 => ?_) (fun hq8 => ?_)
    · refine tr_region ?_
      refine tl_step rfl (oj_val (y_move (fe_t rfl)) ?_)
      refine tl_step rfl (oj_val (y_nilCheck (fe_t rfl)) ?_)
      refine tl_step rfl (oj_val (y_fieldAddr (td := 4) Tryd.underlying181 rfl rfl Tryd.sizeOf4 (o' := 0) rfl (fe_t rfl)) ?_)
      refine tl_step rfl (oj_store1 0 Tryd.sizeOf4 (fe_t rfl) fe_c rfl rfl rfl rfl (?_))
      refine tl_nil ?_
      refine tx_then ?_
      refine tr_seq ?_
      refine tr_region ?_
      refine tl_step rfl (oj_val (y_move (fe_t rfl)) ?_)
      refine tl_step rfl (oj_val (y_assign (fe_t rfl)) ?_)
      refine tl_nil ?_
      refine tx_then ?_
      refine tr_ret ?_
      refine tx_ret (res1 Tryd.results125 (rok_t rfl)) (fun w' hS => ?_)
      refine ⟨k, ⟨hk, ht, hd⟩, rfl, ?_⟩
      first
        | (rw [show (neg && decide (k ≠ 0)) = neg from by rw [show decide (k ≠ 0) = true from decide_eq_true (by omega), Bool.and_true]]; exact hS)
        | (rw [show (neg && decide (k ≠ 0)) = false from by rw [show decide (k ≠ 0) = false from decide_eq_false (by omega), Bool.and_false]]; exact hS)
    · refine tr_skip ?_
      refine tx_then ?_
      refine tr_seq ?_
      refine tr_region ?_
      refine tl_step rfl (oj_val (y_move (fe_t rfl)) ?_)
      refine tl_step rfl (oj_val (y_assign (fe_t rfl)) ?_)
      refine tl_nil ?_
      refine tx_then ?_
      refine tr_ret ?_
      refine tx_ret (res1 Tryd.results125 (rok_t rfl)) (fun w' hS => ?_)
      refine ⟨k, ⟨hk, ht, hd⟩, rfl, ?_⟩
      first
        | (rw [show (neg && decide (k ≠ 0)) = neg from by rw [show decide (k ≠ 0) = true from decide_eq_true (by omega), Bool.and_true]]; exact hS)
        | (rw [show (neg && decide (k ≠ 0)) = false from by rw [show decide (k ≠ 0) = false from decide_eq_false (by omega), Bool.and_false]]; exact hS)

end Go.Proofs.YtfcpmcdlgkfolaaDoor.Big

namespace Go.Proofs.YtfcpmcdlgkfolaaDoor.Big
open Go.RowKit Go.Proofs.YtfcpmcdlgkfolaaDoor.E

/-- A number as it lies: sign, array, length, room, digits. -/
structure Nm where
  neg : Bool
  A : Option Addr
  n : Nat
  c : Nat
  ds : List Int
structure Nm.is (q : Nm) (z : Int) : Prop where
  len : q.ds.length = q.n
  cap : q.n ≤ q.c
  dig : Dig q.ds
  trim : Trim q.ds
  nz : q.neg = true → q.ds ≠ []
  val : z = sg q.neg (dval q.ds)
abbrev Nm.h (q : Nm) (b : Nat) : Res := hdr b q.neg q.A q.n q.c
abbrev Nm.d (q : Nm) : Res := dig q.A q.n q.c q.ds

theorem trimN {w0 w : World} {T : List Res} (b : Nat) (neg : Bool) (A : Option Addr) (n c : Nat) (ds : List Int) (hS : St w0 w (hdr b neg A n c :: dig A n c ds :: T)) (hn : ds.length = n) (hc : n ≤ c) (hm : n ≤ 140737488355328) (hD : Dig ds) :
    Calls Tryd.prog 125 #[.pointer (some ⟨b, 0, none⟩)] w fun e w' => ∃ q : Nm, q.is (sg neg (dval ds)) ∧ e = .returned (.pointer (some ⟨b, 0, none⟩)) ∧ St w0 w' (q.h b :: q.d :: T) := by
  refine (trimE b neg A n c ds hS hn hc hm hD).mono ?_
  rintro e w' ⟨k, ⟨hk, ht, hd⟩, he, hS'⟩
  refine ⟨⟨neg && decide (k ≠ 0), A, k, c, ds.take k⟩, ⟨?_, by dsimp only; omega, hD.take k, ht, fun h => ?_, ?_⟩, he, hS'⟩
  · simp; omega
  · simp only [Bool.and_eq_true, decide_eq_true_eq] at h
    intro e
    have := congrArg List.length e
    rw [List.length_take] at this
    simp only [List.length_nil] at this
    omega
  · dsimp only
    rw [hd]
    by_cases h0 : k = 0
    · subst h0
      have : dval ds = 0 := by rw [← hd]; simp [dval]
      rw [this]
      cases neg <;> simp [sg]
    · simp [h0]
theorem two_dg (n : Int) (h0 : 0 ≤ n) (h1 : n ≤ 18446744073709551615) : Dig [n % 4294967296, n / 4294967296] ∧ dval [n % 4294967296, n / 4294967296] = n := by
  constructor
  · intro x hx
    simp only [List.mem_cons, List.not_mem_nil, or_false] at hx
    rcases hx with rfl | rfl <;> omega
  · simp only [dval]
    omega
theorem wrap_lo (v : Int) : IntKind.u32.wrap v = v % 4294967296 := by simp [IntKind.wrap, IntKind.signed, IntKind.bits]
theorem wrap_hi {v : Int} (h0 : 0 ≤ v) (h1 : v ≤ 18446744073709551615) : IntKind.u32.wrap (v.fdiv (2 ^ (min (32 : Int).toNat IntKind.u64.bits))) = v / 4294967296 := by
  have : v.fdiv (2 ^ (min (32 : Int).toNat IntKind.u64.bits)) = v / 4294967296 := by
    rw [show (2 : Int) ^ (min (32 : Int).toNat IntKind.u64.bits) = 4294967296 from by decide]
    exact Int.fdiv_eq_ediv_of_nonneg _ (by omega)
  rw [this, wrap_lo]
  omega
theorem nm_zero : (⟨false, none, 0, 0, []⟩ : Nm).is 0 := ⟨rfl, Nat.le_refl _, Dig.nil, Trim.nil, (fun h => by cases h), (by simp [sg, dval])⟩

set_option maxRecDepth 100000 in
set_option maxHeartbeats 1000000 in
theorem setuE {w0 w : World} {T : List Res} (b : Nat) (q : Nm) (hS : St w0 w (q.h b :: q.d :: T)) (v : Int) (h0 : 0 ≤ v) (h1 : v ≤ 18446744073709551615) :
    Calls Tryd.prog 145 #[.pointer (some ⟨b, 0, none⟩), .int .u64 v] w fun e w' => ∃ q' : Nm, q'.is v ∧ e = .returned (.pointer (some ⟨b, 0, none⟩)) ∧ St w0 w' (q'.h b :: q'.d :: T) := by
  refine calls_tr Tryd.func145 Tryd.ntmps145 rfl rfl hS ?_
  refine tr_seq ?_
  refine tr_region ?_
  refine tl_step rfl (oj_val (y_assign fe_c) ?_)
  refine tl_nil ?_
  refine tx_then ?_
  refine tr_seq ?_
  refine tr_region ?_
  refine tl_step rfl (oj_val (y_move (fe_t rfl)) ?_)
  refine tl_step rfl (oj_val (y_move (fe_t rfl)) ?_)
  refine tl_step rfl (oj_val (y_move (fe_t rfl)) ?_)
  refine tl_step rfl (oj_val (y_conv Tryd.underlying60 Tryd.underlying200 (fe_t rfl)) ?_)
  refine tl_step rfl (oj_val (y_move (fe_t rfl)) ?_)
  refine tl_step rfl (oj_val (y_shr (fe_t rfl) fe_c (by omega)) ?_)
  refine tl_step rfl (oj_val (y_conv Tryd.underlying60 Tryd.underlying200 (fe_t rfl)) ?_)
  refine tl_step rfl (oj_lit2 (k := .u32) (a := v % 4294967296) (b := v / 4294967296) Tryd.underlying179 Tryd.sizeOf200 Tryd.zeroValue200 (fe_i (wrap_lo v) rfl) (fe_i (wrap_hi h0 h1) rfl) (fun g => ?_))
  refine tl_step rfl (oj_val (y_nilCheck (fe_t rfl)) ?_)
  refine tl_step rfl (oj_val (y_fieldAddr (td := 4) Tryd.underlying181 rfl rfl Tryd.sizeOf4 (o' := 0) rfl (fe_t rfl)) ?_)
  refine tl_step rfl (oj_store1 1 Tryd.sizeOf4 (fe_t rfl) fe_c rfl rfl rfl rfl (?_))
  refine tl_step rfl (oj_val (y_nilCheck (fe_t rfl)) ?_)
  refine tl_step rfl (oj_val (y_fieldAddr (td := 179) Tryd.underlying181 rfl rfl Tryd.sizeOf179 (o' := 1) rfl (fe_t rfl)) ?_)
  refine tl_step rfl (oj_store1 1 Tryd.sizeOf179 (fe_t rfl) (fe_t rfl) rfl rfl rfl rfl (?_))
  refine tl_nil ?_
  refine tx_then ?_
  refine tr_seq ?_
  refine tr_region ?_
  refine tl_step rfl (oj_val (y_move (fe_t rfl)) ?_)
  refine tl_step rfl (oj_call2 Tryd.call125 fe_f (fel_cons (fe_t rfl) fel_nil) (fun w' hS => trimN b false (some ⟨g, 0, none⟩) 2 2 [v % 4294967296, v / 4294967296] (pickT (l := [_, _, _]) hS [1, 0] rfl (by decide)) rfl (by omega) (by omega) (two_dg v h0 h1).1) (fun q1 hq1 => ?_))
  refine tl_step rfl (oj_val (y_assign (fe_t rfl)) ?_)
  refine tl_nil ?_
  refine tx_then ?_
  refine tr_ret ?_
  refine tx_ret (res1 Tryd.results145 (rok_t rfl)) (fun w' hS => ?_)
  rw [show sg false (dval [v % 4294967296, v / 4294967296]) = v from (two_dg v h0 h1).2] at hq1
  exact ⟨q1, hq1, rfl, hS⟩

end Go.Proofs.YtfcpmcdlgkfolaaDoor.Big

namespace Go.Proofs.YtfcpmcdlgkfolaaDoor.Big
open Go.RowKit Go.Proofs.YtfcpmcdlgkfolaaDoor.E

theorem neg_nm {q : Nm} {u : Int} (h : q.is u) (hu : 0 < u) : (⟨true, q.A, q.n, q.c, q.ds⟩ : Nm).is (-u) := by
  have h0 := dval_nonneg h.dig
  have hv := h.val
  have hn : q.neg = false := by
    cases hn : q.neg
    · rfl
    · rw [hn] at hv
      simp [sg] at hv
      omega
  rw [hn] at hv
  simp [sg] at hv
  refine ⟨h.len, h.cap, h.dig, h.trim, fun _ e => ?_, by simp [sg]; omega⟩
  dsimp only at e
  rw [e] at hv
  simp [dval] at hv
  omega
set_option maxRecDepth 100000 in
set_option maxHeartbeats 1000000 in
theorem setiE {w0 w : World} {T : List Res} (b : Nat) (q : Nm) (hS : St w0 w (q.h b :: q.d :: T)) (v : Int) (h0 : -9223372036854775808 ≤ v) (h1 : v ≤ 9223372036854775807) :
    Calls Tryd.prog 126 #[.pointer (some ⟨b, 0, none⟩), .int .i64 v] w fun e w' => ∃ q' : Nm, q'.is v ∧ e = .returned (.pointer (some ⟨b, 0, none⟩)) ∧ St w0 w' (q'.h b :: q'.d :: T) := by
  refine calls_tr Tryd.func126 Tryd.ntmps126 rfl rfl hS ?_
  refine tr_seq ?_
  refine tr_region ?_
  refine tl_step rfl (oj_val (y_assign fe_c) ?_)
  refine tl_nil ?_
  refine tx_then ?_
  refine tr_seq ?_
  refine tr_seq ?_
  refine tr_region ?_
  refine tl_step rfl (oj_val (y_move (fe_t rfl)) ?_)
  refine tl_step rfl (oj_val (y_lss (fe_t rfl) fe_c) ?_)
  refine tl_nil ?_
  refine tx_then ?_
  refine tr_condp (fe_t rfl) (fun hq1 => ?_) (fun hq2 => ?_)
  · refine tr_seq ?_
    refine tr_region ?_
    refine tl_step rfl (oj_val (y_move (fe_t rfl)) ?_)
    refine tl_step rfl (oj_val (y_move (fe_t rfl)) ?_)
    refine tl_step rfl (oj_val (y_conv Tryd.underlying2 Tryd.underlying60 (fe_t rfl)) ?_)
    refine tl_step rfl (oj_val (y_as (y_negk (fe_t rfl)) (wrap_neg h0 (by omega))) ?_)
    refine tl_step rfl (oj_call2 Tryd.call145 fe_f (fel_cons (fe_t rfl) (fel_cons (fe_t rfl) fel_nil)) (fun w' hS => setuE b q hS (-v) (by omega) (by omega)) (fun q1 hq1 => ?_))
    refine tl_nil ?_
    refine tx_then ?_
    refine tr_seq ?_
    refine tr_region ?_
    refine tl_step rfl (oj_val (y_move (fe_t rfl)) ?_)
    refine tl_step rfl (oj_val (y_nilCheck (fe_t rfl)) ?_)
    refine tl_step rfl (oj_val (y_fieldAddr (td := 4) Tryd.underlying181 rfl rfl Tryd.sizeOf4 (o' := 0) rfl (fe_t rfl)) ?_)
    refine tl_step rfl (oj_store1 0 Tryd.sizeOf4 (fe_t rfl) fe_c rfl rfl rfl rfl (?_))
    refine tl_nil ?_
    refine tx_then ?_
    refine tr_seq ?_
    refine tr_region ?_
    refine tl_step rfl (oj_val (y_move (fe_t rfl)) ?_)
    refine tl_step rfl (oj_val (y_assign (fe_t rfl)) ?_)
    refine tl_nil ?_
    refine tx_then ?_
    refine tr_ret ?_
    refine tx_then_ret ?_
    refine tx_ret (res1 Tryd.results126 (rok_t rfl)) (fun w' hS => ?_)
    have hq2 := neg_nm hq1 (by omega)
    rw [Int.neg_neg] at hq2
    exact ⟨_, hq2, rfl, hS⟩
  · refine tr_skip ?_
    refine tx_then ?_
    refine tr_seq ?_
    refine tr_region ?_
    refine tl_step rfl (oj_val (y_move (fe_t rfl)) ?_)
    refine tl_step rfl (oj_val (y_move (fe_t rfl)) ?_)
    refine tl_step rfl (oj_val (y_convi Tryd.underlying2 Tryd.underlying60 (fe_t rfl) (IntWalk.u64_in _ (by omega))) ?_)
    refine tl_step rfl (oj_call2 Tryd.call145 fe_f (fel_cons (fe_t rfl) (fel_cons (fe_t rfl) fel_nil)) (fun w' hS => setuE b q hS (v) (by omega) (by omega)) (fun q1 hq1 => ?_))
    refine tl_step rfl (oj_val (y_assign (fe_t rfl)) ?_)
    refine tl_nil ?_
    refine tx_then ?_
    refine tr_ret ?_
    refine tx_ret (res1 Tryd.results126 (rok_t rfl)) (fun w' hS => ?_)
    exact ⟨q1, hq1, rfl, hS⟩

set_option maxRecDepth 100000 in
set_option maxHeartbeats 1000000 in
theorem newE {w0 w : World} {T : List Res} (hS : St w0 w T) (v : Int) (h0 : -9223372036854775808 ≤ v) (h1 : v ≤ 9223372036854775807) :
    Calls Tryd.prog 99 #[.int .i64 v] w fun e w' => ∃ p : Nat × Nm, p.2.is v ∧ e = .returned (.pointer (some ⟨p.1, 0, none⟩)) ∧ St w0 w' (p.2.h p.1 :: p.2.d :: T) := by
  refine calls_tr Tryd.func99 Tryd.ntmps99 rfl rfl hS ?_
  refine tr_seq ?_
  refine tr_region ?_
  refine tl_step rfl (oj_val (y_assign fe_c) ?_)
  refine tl_nil ?_
  refine tx_then ?_
  refine tr_seq ?_
  refine tr_region ?_
  refine tl_add (r := dig none 0 0 []) vec_nil rfl ?_
  refine tl_step rfl (oj_alloc Tryd.zeroValue181 (fun b => ?_))
  refine tl_step rfl (oj_val (y_move (fe_t rfl)) ?_)
  refine tl_step rfl (oj_call2 Tryd.call126 fe_f (fel_cons (fe_t rfl) (fel_cons (fe_t rfl) fel_nil)) (fun w' hS => setiE b ⟨false, none, 0, 0, []⟩ hS v h0 h1) (fun q1 hq1 => ?_))
  refine tl_step rfl (oj_val (y_assign (fe_t rfl)) ?_)
  refine tl_nil ?_
  refine tx_then ?_
  refine tr_ret ?_
  refine tx_ret (res1 Tryd.results99 (rok_t rfl)) (fun w' hS => ?_)
  exact ⟨(b, q1), hq1, rfl, hS⟩

end Go.Proofs.YtfcpmcdlgkfolaaDoor.Big

namespace Go.Proofs.YtfcpmcdlgkfolaaDoor.Big
open Go.RowKit Go.Proofs.YtfcpmcdlgkfolaaDoor.E

theorem mul_wrap {x y z c : Int} (hx : 0 ≤ x ∧ x < 4294967296) (hy : 0 ≤ y ∧ y < 4294967296) (hz : 0 ≤ z ∧ z < 4294967296) (hc : 0 ≤ c ∧ c < 4294967296) : IntKind.u64.wrap (c + IntKind.u64.wrap (IntKind.u64.wrap (x * y) + z)) = c + (x * y + z) := by
  have h0 : 0 ≤ x * y := Int.mul_nonneg hx.1 hy.1
  have h1 : x * y ≤ 4294967295 * 4294967295 := Int.mul_le_mul (by omega) (by omega) hy.1 (by omega)
  rw [IntWalk.u64_in (x * y) (by omega), IntWalk.u64_in (x * y + z) (by omega), IntWalk.u64_in _ (by omega)]
theorem shr32 {t : Int} (h : 0 ≤ t) : t.fdiv (2 ^ (min (32 : Int).toNat IntKind.u64.bits)) = t / 4294967296 := by
  rw [show (2 : Int) ^ (min (32 : Int).toNat IntKind.u64.bits) = 4294967296 from by decide]
  exact Int.fdiv_eq_ediv_of_nonneg _ (by omega)
theorem sg_mul (a b : Bool) (u v : Int) : sg (!(a == b)) (u * v) = sg a u * sg b v := by cases a <;> cases b <;> simp [sg, Int.neg_mul, Int.mul_neg]

set_option maxRecDepth 100000 in
set_option maxHeartbeats 2000000 in
theorem mulE {w0 w : World} {T : List Res} (b bx b3 : Nat) (q x y : Nm) (zx zy : Int) (hS : St w0 w (q.h b :: q.d :: x.h bx :: x.d :: y.h b3 :: y.d :: T)) (hx : x.is zx) (hy : y.is zy) (lx : x.n ≤ 100000) (ly : y.n ≤ 100000) :
    Calls Tryd.prog 98 #[.pointer (some ⟨b, 0, none⟩), .pointer (some ⟨bx, 0, none⟩), .pointer (some ⟨b3, 0, none⟩)] w fun e w' => ∃ q' : Nm, q'.is (zx * zy) ∧ e = .returned (.pointer (some ⟨b, 0, none⟩)) ∧ St w0 w' (q'.h b :: q'.d :: x.h bx :: x.d :: y.h b3 :: y.d :: T) := by
  have lx1 := hx.len
  have ly1 := hy.len
  refine calls_tr Tryd.func98 Tryd.ntmps98 rfl rfl hS ?_
  refine tr_seq ?_
  refine tr_region ?_
  refine tl_step rfl (oj_val (y_assign fe_c) ?_)
  refine tl_nil ?_
  refine tx_then ?_
  refine tr_seq ?_
  refine tr_draw (sel _ [0, 1, 2, 3, 4, 5]) (fun w h => h.sel _ rfl (by decide)) rfl ?_
  refine ta_float (i := 0) rfl (by kernel_rfl) (wants_none rfl) (yq_of (y_move (fe_t rfl))) ?_
  refine ta_float (i := 1) rfl (by kernel_rfl) (wants_none rfl) (yq_of (y_nilCheck (fe_t rfl))) ?_
  refine ta_float (i := 2) rfl (by kernel_rfl) (wants_none rfl) (yq_of (y_fieldAddr (td := 179) Tryd.underlying181 rfl rfl Tryd.sizeOf179 (o' := 1) rfl (fe_t rfl))) ?_
  refine ta_float (i := 3) rfl (by kernel_rfl) (wants_none rfl) (yq_of (y_ldb 2 Tryd.isAgg179 (fe_t rfl) rfl rfl)) ?_
  refine ta_float (i := 4) rfl (by kernel_rfl) (wants_none rfl) (yq_of (y_len Tryd.underlying179 (fe_t rfl))) ?_
  refine ta_float (i := 5) rfl (by kernel_rfl) (wants_none rfl) (yq_of (y_move (fe_t rfl))) ?_
  refine ta_float (i := 6) rfl (by kernel_rfl) (wants_none rfl) (yq_of (y_nilCheck (fe_t rfl))) ?_
  refine ta_float (i := 7) rfl (by kernel_rfl) (wants_none rfl) (yq_of (y_fieldAddr (td := 179) Tryd.underlying181 rfl rfl Tryd.sizeOf179 (o' := 1) rfl (fe_t rfl))) ?_
  refine ta_float (i := 8) rfl (by kernel_rfl) (wants_none rfl) (yq_of (y_ldb 4 Tryd.isAgg179 (fe_t rfl) rfl rfl)) ?_
  refine ta_float (i := 9) rfl (by kernel_rfl) (wants_none rfl) (yq_of (y_len Tryd.underlying179 (fe_t rfl))) ?_
  refine ta_float (i := 10) rfl (by kernel_rfl) (wants_none rfl) (yq_of (y_as (b := ((x.n + y.n : Nat) : Int)) (y_add (fe_t rfl) (fe_t rfl) (by omega)) (by omega))) ?_
  refine ta_one (i := 11) rfl (by kernel_rfl) (wants_none rfl) (oj_make (n := x.n + y.n) (z := (.int .u32 0)) (bytes := 4) Tryd.underlying179 (by kernel_rfl) (fe_t rfl) (fe_t rfl) rfl ⟨by omega, by decide⟩ (fun g => ⟨fun w h => h.pick [1, 2, 3, 4, 5, 6] _ rfl (by decide), ?_⟩))
  refine ta_float (i := 12) rfl (by kernel_rfl) (wants_none rfl) (yq_of (y_assign (fe_t rfl))) ?_
  refine ta_done (by kernel_rfl) ?_
  refine tx_then ?_
  refine tr_seq ?_
  refine tr_seq ?_
  refine tr_region ?_
  refine tl_step rfl (oj_val (y_move (fe_t rfl)) ?_)
  refine tl_step rfl (oj_val (y_nilCheck (fe_t rfl)) ?_)
  refine tl_step rfl (oj_val (y_fieldAddr (td := 179) Tryd.underlying181 rfl rfl Tryd.sizeOf179 (o' := 1) rfl (fe_t rfl)) ?_)
  refine tl_step rfl (oj_val (y_ldb 3 Tryd.isAgg179 (fe_t rfl) rfl rfl) ?_)
  refine tl_step rfl (oj_val (y_len Tryd.underlying179 (fe_t rfl)) ?_)
  refine tl_step rfl (oj_val (y_move fe_c) ?_)
  refine tl_nil ?_
  refine tx_then ?_
  refine tr_block ?_
  refine tr_loop3 [8, 9, 10, 11, 12, 30, 31, 32, 33, 34, 35, 36, 37, 38, 39, 40, 41, 42, 43, 44, 45, 46, 47, 48, 49, 50, 51, 52, 53, 54, 55, 56, 57, 58, 59, 60, 61, 62, 63, 64, 65, 66, 67, 68, 69, 70, 71, 72, 73, 74, 75, 76, 77, 78, 79, 80, 81] (fun (i : Nat) (zs : List Int) (vx : List Value) => [(30, .int .i64 (i : Int))]) 0 (fun (i : Nat) (zs : List Int) (vx : List Value) => [(0, vec 200 1 (.slice (some ⟨g, 0, none⟩) (x.n + y.n) (x.n + y.n)) (x.n + y.n) vx)]) (fun (i : Nat) (zs : List Int) (vx : List Value) => i ≤ x.n ∧ vx = cU zs ∧ MulInv x.ds y.ds zs i 0 0) (fun (i : Nat) (zs : List Int) (vx : List Value) => x.n - i) (0) (List.replicate (x.ds.length + y.ds.length) 0) (List.replicate (x.n + y.n) (.int .u32 0)) (cov_cons (by first | rfl | exact v_int (by omega) | exact v_bool (by simp [*])) (cov_nil)) (fun w h => h) ?_ ?_
  · try dsimp only
    exact ⟨by omega, by simp [cU, lx1, ly1], mul_start _ _⟩
  intro i zs vx hp
  obtain ⟨hi, hvx, hmi⟩ := hp
  have hzl := hmi.2.2.1
  refine tr_seq ?_
  refine tr_region ?_
  refine tl_step rfl (oj_val (y_lss (fe_t rfl) (fe_t rfl)) ?_)
  refine tl_nil ?_
  refine tx_then ?_
  refine tr_seq ?_
  refine tr_condp (fe_t rfl) (fun hq1 => ?_) (fun hq2 => ?_)
  · refine tr_skip ?_
    refine tx_then ?_
    refine tr_seq ?_
    refine tr_block ?_
    refine tr_seq ?_
    refine tr_region ?_
    refine tl_step rfl (oj_val (y_move (fe_t rfl)) ?_)
    refine tl_step rfl (oj_val (y_index Tryd.underlying179 Tryd.sizeOf200 (fe_t rfl) (fe_t rfl) (rdl_vec 4 rfl) (by rw [cU_len, hx.len, Nat.mul_one]) (by decide) (by omega) (Nat.mul_one _)) ?_)
    refine tl_step rfl (oj_val (y_ld (v := .int .u32 (x.ds[i]'(by omega))) Tryd.isAgg200 (fe_t rfl) (rdl_vec 4 rfl) (cU_get (by omega))) ?_)
    refine tl_step rfl (oj_val (y_assign (fe_t rfl)) ?_)
    refine tl_step rfl (oj_val (y_assign (fe_t rfl)) ?_)
    refine tl_nil ?_
    refine tx_then ?_
    refine tr_seq ?_
    refine tr_region ?_
    refine tl_step rfl (oj_val (y_assign fe_c) ?_)
    refine tl_nil ?_
    refine tx_then ?_
    refine tr_seq ?_
    refine tr_seq ?_
    refine tr_region ?_
    refine tl_step rfl (oj_val (y_move (fe_t rfl)) ?_)
    refine tl_step rfl (oj_val (y_nilCheck (fe_t rfl)) ?_)
    refine tl_step rfl (oj_val (y_fieldAddr (td := 179) Tryd.underlying181 rfl rfl Tryd.sizeOf179 (o' := 1) rfl (fe_t rfl)) ?_)
    refine tl_step rfl (oj_val (y_ldb 5 Tryd.isAgg179 (fe_t rfl) rfl rfl) ?_)
    refine tl_step rfl (oj_val (y_len Tryd.underlying179 (fe_t rfl)) ?_)
    refine tl_step rfl (oj_val (y_move fe_c) ?_)
    refine tl_nil ?_
    refine tx_then ?_
    refine tr_block ?_
    refine tr_loop4 [10, 11, 12, 40, 41, 42, 43, 44, 45, 46, 47, 48, 49, 50, 51, 52, 53, 54, 55, 56, 57, 58, 59, 60, 61, 62, 63, 64, 65, 66, 67, 68, 69] (fun (j : Nat) (zs2 : List Int) (vx2 : List Value) (cc : Int) => [(40, .int .i64 (j : Int)), (10, .int .u64 cc)]) 0 (fun (j : Nat) (zs2 : List Int) (vx2 : List Value) (cc : Int) => [(0, vec 200 1 (.slice (some ⟨g, 0, none⟩) (x.n + y.n) (x.n + y.n)) (x.n + y.n) vx2)]) (fun (j : Nat) (zs2 : List Int) (vx2 : List Value) (cc : Int) => j ≤ y.n ∧ vx2 = cU zs2 ∧ MulInv x.ds y.ds zs2 i j cc) (fun (j : Nat) (zs2 : List Int) (vx2 : List Value) (cc : Int) => y.n - j) (0) (zs) (vx) (0) (cov_cons (by first | rfl | exact v_int (by omega) | exact v_bool (by simp [*])) (cov_cons (by first | rfl | exact v_int (by omega) | exact v_bool (by simp [*])) (cov_nil))) (fun w h => h) ?_ ?_
    · try dsimp only
      exact ⟨by omega, hvx, hmi⟩
    intro j zs2 vx2 cc hp
    obtain ⟨hj, hvx2, hmi2⟩ := hp
    have hzl2 := hmi2.2.2.1
    refine tr_seq ?_
    refine tr_region ?_
    refine tl_step rfl (oj_val (y_lss (fe_t rfl) (fe_t rfl)) ?_)
    refine tl_nil ?_
    refine tx_then ?_
    refine tr_seq ?_
    refine tr_condp (fe_t rfl) (fun hq3 => ?_) (fun hq4 => ?_)
    · refine tr_skip ?_
      refine tx_then ?_
      refine tr_seq ?_
      refine tr_block ?_
      refine tr_seq ?_
      refine tr_region ?_
      refine tl_step rfl (oj_val (y_move (fe_t rfl)) ?_)
      refine tl_step rfl (oj_val (y_index Tryd.underlying179 Tryd.sizeOf200 (fe_t rfl) (fe_t rfl) (rdl_vec 6 rfl) (by rw [cU_len, hy.len, Nat.mul_one]) (by decide) (by omega) (Nat.mul_one _)) ?_)
      refine tl_step rfl (oj_val (y_ld (v := .int .u32 (y.ds[j]'(by omega))) Tryd.isAgg200 (fe_t rfl) (rdl_vec 6 rfl) (cU_get (by omega))) ?_)
      refine tl_step rfl (oj_val (y_assign (fe_t rfl)) ?_)
      refine tl_step rfl (oj_val (y_assign (fe_t rfl)) ?_)
      refine tl_nil ?_
      refine tx_then ?_
      refine tr_seq ?_
      have hxi := hx.dig.get (k := i) (by omega)
      have hyj := hy.dig.get (k := j) (by omega)
      have hzk := hmi2.2.2.2.1.get (k := i + j) (by omega)
      have hms := mul_step hmi2 hx.dig hy.dig (i := i) (j := j) (by omega) (by omega) (by omega) rfl
      refine tr_region ?_
      refine tl_step rfl (oj_val (y_move (fe_t rfl)) ?_)
      refine tl_step rfl (oj_val (y_move (fe_t rfl)) ?_)
      refine tl_step rfl (oj_val (y_convi Tryd.underlying200 Tryd.underlying60 (fe_t rfl) (IntWalk.u64_in _ (by omega))) ?_)
      refine tl_step rfl (oj_val (y_move (fe_t rfl)) ?_)
      refine tl_step rfl (oj_val (y_convi Tryd.underlying200 Tryd.underlying60 (fe_t rfl) (IntWalk.u64_in _ (by omega))) ?_)
      refine tl_step rfl (oj_val (y_mulk (fe_t rfl) (fe_t rfl)) ?_)
      refine tl_step rfl (oj_val (y_move (fe_t rfl)) ?_)
      refine tl_step rfl (oj_val (y_move (fe_t rfl)) ?_)
      refine tl_step rfl (oj_val (y_move (fe_t rfl)) ?_)
      refine tl_step rfl (oj_val (y_as (b := ((i + j : Nat) : Int)) (y_add (fe_t rfl) (fe_t rfl) (by omega)) (by omega)) ?_)
      refine tl_step rfl (oj_val (y_index Tryd.underlying179 Tryd.sizeOf200 (fe_t rfl) (fe_t rfl) (rdl_vec 0 rfl) (by first | (rw [hvx2, cU_len]; omega) | (rw [hvx, cU_len]; omega) | (rw [hvx2, List.length_set, cU_len]; omega)) (by decide) (by omega) (Nat.mul_one _)) ?_)
      refine tl_step rfl (oj_val (y_ld (v := .int .u32 (zs2[i + j]'(by omega))) Tryd.isAgg200 (fe_t rfl) (rdl_vec 0 rfl) (by rw [hvx2]; exact cU_get (by omega))) ?_)
      refine tl_step rfl (oj_val (y_convi Tryd.underlying200 Tryd.underlying60 (fe_t rfl) (IntWalk.u64_in _ (by omega))) ?_)
      refine tl_step rfl (oj_val (y_addk (fe_t rfl) (fe_t rfl)) ?_)
      refine tl_step rfl (oj_val (y_as (y_addk (fe_t rfl) (fe_t rfl)) (mul_wrap hxi hyj hzk ⟨hmi2.1, hmi2.2.1⟩)) ?_)
      refine tl_step rfl (oj_val (y_assign (fe_t rfl)) ?_)
      refine tl_nil ?_
      refine tx_then ?_
      refine tr_seq ?_
      refine tr_region ?_
      refine tl_step rfl (oj_val (y_move (fe_t rfl)) ?_)
      refine tl_step rfl (oj_val (y_move (fe_t rfl)) ?_)
      refine tl_step rfl (oj_val (y_move (fe_t rfl)) ?_)
      refine tl_step rfl (oj_val (y_as (b := ((i + j : Nat) : Int)) (y_add (fe_t rfl) (fe_t rfl) (by omega)) (by omega)) ?_)
      refine tl_step rfl (oj_val (y_move (fe_t rfl)) ?_)
      refine tl_step rfl (oj_val (y_as (y_conv Tryd.underlying60 Tryd.underlying200 (fe_t rfl)) (wrap_lo _)) ?_)
      refine tl_step rfl (oj_val (y_index Tryd.underlying179 Tryd.sizeOf200 (fe_t rfl) (fe_t rfl) (rdl_vec 0 rfl) (by first | (rw [hvx2, cU_len]; omega) | (rw [hvx, cU_len]; omega) | (rw [hvx2, List.length_set, cU_len]; omega)) (by decide) (by omega) (Nat.mul_one _)) ?_)
      refine tl_step rfl (oj_storeE1 (i := 0) Tryd.sizeOf200 (fe_t rfl) (fe_t rfl) rfl rfl rfl (by omega) (?_))
      refine tl_nil ?_
      refine tx_then ?_
      refine tr_region ?_
      refine tl_step rfl (oj_val (y_move (fe_t rfl)) ?_)
      refine tl_step rfl (oj_val (y_as (y_shr (fe_t rfl) fe_c (by decide)) (shr32 hms.1.1)) ?_)
      refine tl_step rfl (oj_val (y_assign (fe_t rfl)) ?_)
      refine tl_nil ?_
      refine tx_in ?_
      refine tx_then ?_
      refine tr_region ?_
      refine tl_step rfl (oj_val (y_inc (fe_t rfl) fe_c (by omega)) ?_)
      refine tl_step rfl (oj_val (y_move (fe_t rfl)) ?_)
      refine tl_nil ?_
      apply tx_back4 (j + 1) (zs2.set (i + j) ((cc + (x.ds[i]'(by omega) * y.ds[j]'(by omega) + zs2[i + j]'(by omega))) % 4294967296)) (_) ((cc + (x.ds[i]'(by omega) * y.ds[j]'(by omega) + zs2[i + j]'(by omega))) / 4294967296)
      · exact (cov_cons (by first | rfl | exact v_int (by omega) | exact v_bool (by simp [*])) (cov_cons (by first | rfl | exact v_int (by omega) | exact v_bool (by simp [*])) (cov_nil)))
      · repeat (first | exact over_nil | refine over_put rfl ?_ | refine over_drop rfl ?_)
      · exact fun w h => h
      · exact ⟨⟨by omega, by rw [hvx2, cU, cU, List.map_set], hms.2⟩, by omega⟩
    · refine tr_exit ?_
      refine tx_then_exit ?_
      refine tx_then_exit ?_
      refine tx_in_exit ?_
      refine tx_then ?_
      have hcc := hmi2.1
      have hcd := hmi2.2.1
      refine tr_region ?_
      refine tl_step rfl (oj_val (y_move (fe_t rfl)) ?_)
      refine tl_step rfl (oj_val (y_move (fe_t rfl)) ?_)
      refine tl_step rfl (oj_val (y_move (fe_t rfl)) ?_)
      refine tl_step rfl (oj_val (y_nilCheck (fe_t rfl)) ?_)
      refine tl_step rfl (oj_val (y_fieldAddr (td := 179) Tryd.underlying181 rfl rfl Tryd.sizeOf179 (o' := 1) rfl (fe_t rfl)) ?_)
      refine tl_step rfl (oj_val (y_ldb 5 Tryd.isAgg179 (fe_t rfl) rfl rfl) ?_)
      refine tl_step rfl (oj_val (y_len Tryd.underlying179 (fe_t rfl)) ?_)
      refine tl_step rfl (oj_val (y_as (b := ((i + y.n : Nat) : Int)) (y_add (fe_t rfl) (fe_t rfl) (by omega)) (by omega)) ?_)
      refine tl_step rfl (oj_val (y_move (fe_t rfl)) ?_)
      refine tl_step rfl (oj_val (y_convi Tryd.underlying60 Tryd.underlying200 (fe_t rfl) (IntWalk.u32_in _ (by omega))) ?_)
      refine tl_step rfl (oj_val (y_index Tryd.underlying179 Tryd.sizeOf200 (fe_t rfl) (fe_t rfl) (rdl_vec 0 rfl) (by first | (rw [hvx2, cU_len]; omega) | (rw [hvx, cU_len]; omega) | (rw [hvx2, List.length_set, cU_len]; omega)) (by decide) (by omega) (Nat.mul_one _)) ?_)
      refine tl_step rfl (oj_storeE1 (i := 0) Tryd.sizeOf200 (fe_t rfl) (fe_t rfl) rfl rfl rfl (by omega) (?_))
      refine tl_nil ?_
      refine tx_in ?_
      refine tx_then ?_
      refine tr_region ?_
      refine tl_step rfl (oj_val (y_inc (fe_t rfl) fe_c (by omega)) ?_)
      refine tl_step rfl (oj_val (y_move (fe_t rfl)) ?_)
      refine tl_nil ?_
      apply tx_back3 (i + 1) (zs2.set (i + y.n) cc) (_)
      · exact (cov_cons (by first | rfl | exact v_int (by omega) | exact v_bool (by simp [*])) (cov_nil))
      · repeat (first | exact over_nil | refine over_put rfl ?_ | refine over_drop rfl ?_)
      · exact fun w h => h
      · have hje : j = y.ds.length := by omega
        rw [hje] at hmi2
        have hr := mul_row hmi2 (by omega)
        rw [ly1] at hr
        exact ⟨⟨by omega, by rw [hvx2, cU, cU, List.map_set], hr⟩, by omega⟩
  · refine tr_exit ?_
    refine tx_then_exit ?_
    refine tx_then_exit ?_
    refine tx_in_exit ?_
    refine tx_then ?_
    refine tr_seq ?_
    subst hvx
    refine tr_draw (sel _ [0, 2, 3, 4, 5, 6]) (fun w h => h.sel _ rfl (by decide)) rfl ?_
    refine ta_float (i := 0) rfl (by kernel_rfl) (wants_none rfl) (yq_of (y_move (fe_t rfl))) ?_
    refine ta_float (i := 1) rfl (by kernel_rfl) (wants_none rfl) (yq_of (y_move (fe_t rfl))) ?_
    refine ta_float (i := 2) rfl (by kernel_rfl) (wants_none rfl) (yq_of (y_move (fe_t rfl))) ?_
    refine ta_float (i := 3) rfl (by kernel_rfl) (wants_none rfl) (yq_of (y_nilCheck (fe_t rfl))) ?_
    refine ta_float (i := 4) rfl (by kernel_rfl) (wants_none rfl) (yq_of (y_fieldAddr (td := 4) Tryd.underlying181 rfl rfl Tryd.sizeOf4 (o' := 0) rfl (fe_t rfl))) ?_
    refine ta_float (i := 5) rfl (by kernel_rfl) (wants_none rfl) (yq_of (y_ldb 2 Tryd.isAgg4 (fe_t rfl) rfl rfl)) ?_
    refine ta_float (i := 6) rfl (by kernel_rfl) (wants_none rfl) (yq_of (y_move (fe_t rfl))) ?_
    refine ta_float (i := 7) rfl (by kernel_rfl) (wants_none rfl) (yq_of (y_nilCheck (fe_t rfl))) ?_
    refine ta_float (i := 8) rfl (by kernel_rfl) (wants_none rfl) (yq_of (y_fieldAddr (td := 4) Tryd.underlying181 rfl rfl Tryd.sizeOf4 (o' := 0) rfl (fe_t rfl))) ?_
    refine ta_float (i := 9) rfl (by kernel_rfl) (wants_none rfl) (yq_of (y_ldb 4 Tryd.isAgg4 (fe_t rfl) rfl rfl)) ?_
    refine ta_float (i := 10) rfl (by kernel_rfl) (wants_none rfl) (yq_of (y_neqb Tryd.underlying4 (fe_t rfl) (fe_t rfl))) ?_
    refine ta_float (i := 11) rfl (by kernel_rfl) (wants_none rfl) (yq_of (y_move (fe_t rfl))) ?_
    refine ta_float (i := 12) rfl (by kernel_rfl) (wants_none rfl) (yq_of (y_nilCheck (fe_t rfl))) ?_
    refine ta_float (i := 13) rfl (by kernel_rfl) (wants_none rfl) (yq_of (y_fieldAddr (td := 4) Tryd.underlying181 rfl rfl Tryd.sizeOf4 (o' := 0) rfl (fe_t rfl))) ?_
    refine ta_one (i := 14) rfl (by kernel_rfl) (wants_none rfl) (oj_store1 1 Tryd.sizeOf4 (fe_t rfl) (fe_t rfl) rfl rfl rfl rfl (⟨fun w h => h.pick [0, 2, 3, 4, 5, 6] _ rfl (by decide), ?_⟩))
    refine ta_float (i := 15) rfl (by kernel_rfl) (wants_none rfl) (yq_of (y_nilCheck (fe_t rfl))) ?_
    refine ta_float (i := 16) rfl (by kernel_rfl) (wants_none rfl) (yq_of (y_fieldAddr (td := 179) Tryd.underlying181 rfl rfl Tryd.sizeOf179 (o' := 1) rfl (fe_t rfl))) ?_
    refine ta_one (i := 17) rfl (by kernel_rfl) (wants_none rfl) (oj_store1 1 Tryd.sizeOf179 (fe_t rfl) (fe_t rfl) rfl rfl rfl rfl (⟨fun w h => h.pick [0, 2, 3, 4, 5, 6] _ rfl (by decide), ?_⟩))
    refine ta_done (by kernel_rfl) ?_
    refine tx_then ?_
    refine tr_seq ?_
    refine tr_region ?_
    refine tl_step rfl (oj_val (y_move (fe_t rfl)) ?_)
    refine tl_step rfl (oj_call2 Tryd.call125 fe_f (fel_cons (fe_t rfl) fel_nil) (fun w' hS => trimN b (!(x.neg == y.neg)) (some ⟨g, 0, none⟩) (x.n + y.n) (x.n + y.n) zs (pickT (l := [_, _, _, _, _, _, _]) hS [1, 0, 3, 4, 5, 6] rfl (by decide)) (by omega) (Nat.le_refl _) (by omega) hmi.2.2.2.1) (fun q1 hq1 => ?_))
    refine tl_step rfl (oj_val (y_assign (fe_t rfl)) ?_)
    refine tl_nil ?_
    refine tx_then ?_
    refine tr_ret ?_
    refine tx_ret (res1 Tryd.results98 (rok_t rfl)) (fun w' hS => ?_)
    have hie : i = x.ds.length := by omega
    rw [hie] at hmi
    rw [mul_end hmi rfl, sg_mul, ← hx.val, ← hy.val] at hq1
    exact ⟨q1, hq1, rfl, hS⟩
end Go.Proofs.YtfcpmcdlgkfolaaDoor.Big

namespace Go.Proofs.YtfcpmcdlgkfolaaDoor.E
open Go.RowKit
section
variable {P : Program} {N : Nat} {w0 : World} {F : Frm} {L : List Res} {d : Option Tmp} {x y : Operand} {v u : Value} {ty t : TypeId} {pos : String} {af : Array Edge} {gd : Option (Nat × Bool)} {K : Frm → List Res → Prop}
theorem y_ldL {A : Option Addr} {j s : Nat} {xs : List Value} (ha : ∀ w, (isAgg t).run P w = .ok true w) (hs : ∀ w, (sizeOf t).run P w = .ok s w) (hx : FE N F x (elt A j)) (hr : RdL w0 L A xs) (hl : Nat.ble (j + s) xs.length = true) (hs0 : 0 < s) : Yld P N w0 F L ⟨d, .load t x, ty, pos, af, gd⟩ (.agg ((xs.drop j).take s).toArray) := by
  have hl' := Nat.le_of_ble_eq_true hl
  refine y_ldA ha hs hx hr (by rw [List.length_take, List.length_drop]; omega) hs0 (fun i u hu => ?_)
  rw [List.getElem?_take] at hu
  split at hu
  · rw [List.getElem?_drop] at hu
    exact hu
  · cases hu
theorem oj_litA2 {e : Nat} {p q : Option Addr} {a b : Int} (hu : P.underlying t = some (.slice e)) (hs : ∀ w, (sizeOf e).run P w = .ok 2 w) (hz : ∀ w, (zeroValue e).run P w = .ok (.agg #[.pointer none, .int .i64 0]) w) (hx : FE N F x (.agg #[.pointer p, .int .i64 a])) (hy : FE N F y (.agg #[.pointer q, .int .i64 b]))
    (h : ∀ g, K (fput F d (.slice (some ⟨g, 0, none⟩) 2 2)) (vec e 2 (.slice (some ⟨g, 0, none⟩) 2 2) 2 [.pointer p, .int .i64 a, .pointer q, .int .i64 b] :: L)) : OpJ P N w0 F L ⟨d, .buildSlice t 2 #[(0, x), (1, y)], ty, pos, af, gd⟩ K := fun ac w hF hS => by
  have hfill : Instr.fill (fun i => some (i * 2, 2)) ((Array.range 4).map ((Value.agg #[.pointer none, .int .i64 0]).cells[· % (Value.agg #[.pointer none, .int .i64 0]).cells.size]!)) [(0, .agg #[.pointer p, .int .i64 a]), (1, .agg #[.pointer q, .int .i64 b])] = some #[.pointer p, .int .i64 a, .pointer q, .int .i64 b] := by
    have h1 : (Array.range 4).map ((Value.agg #[.pointer none, .int .i64 0]).cells[· % (Value.agg #[.pointer none, .int .i64 0]).cells.size]!) = #[.pointer none, .int .i64 0, .pointer none, .int .i64 0] := by
      simp [show Array.range 4 = #[0, 1, 2, 3] from rfl, Value.cells]
    rw [h1]
    simp [Instr.fill, Value.cells]
    try rfl
  have hr : (execOp ac.eval ⟨d, .buildSlice t 2 #[(0, x), (1, y)], ty, pos, af, gd⟩).run P w = .ok (.value (.slice (some ⟨w.heap.size, 0, none⟩) 2 2)) (w.alloc (.cells #[.pointer p, .int .i64 a, .pointer q, .int .i64 b] e)) := by
    simp [execOp, Instr.buildSlice, hx ac hF, hy ac hF, run_underlying hu, hs, hz, hfill, newRow, newObj, run_new]
  unfold Oper.wp
  rw [hr]
  refine ⟨_, _, h w.heap.size, hF.put _ _, hS.add (alloc_new w _) ⟨rfl, .inr ⟨w.heap.size, 0, 2, #[.pointer p, .int .i64 a, .pointer q, .int .i64 b], rfl, heap_alloc_new w _, Nat.le_refl _, by decide, by simp, by simp⟩⟩ (fun b hb => ?_)⟩
  simp only [vec, Value.ownBlock, Option.toList_some, List.mem_singleton] at hb
  subst hb
  exact ⟨Nat.le_refl _, by simp⟩
end
end Go.Proofs.YtfcpmcdlgkfolaaDoor.E
namespace Go.Proofs.YtfcpmcdlgkfolaaDoor.Big
open Go.RowKit Go.Proofs.YtfcpmcdlgkfolaaDoor.E
theorem int_at {w0 w : World} {L : List Res} {b : Nat} {q : Nm} {z : Int} (hS : St w0 w L) (i j : Nat) (hi : lget L i = some (q.h b)) (hj : lget L j = some q.d) (hq : q.is z) : IntAt w b 0 z := by
  obtain ⟨T, hb⟩ := hS.holds i _ hi
  obtain ⟨_, _, hr⟩ := E.OwnV.rd (hS.holds j _ hj)
  have hf : ∀ o, w.frozen? ⟨b, o, none⟩ = false := fun o => by simp [World.frozen?, hb]
  exact ⟨q.neg, q.ds, ⟨⟨q.A, q.c, by rw [cell_of_row w b 0 _ T (0, 0) hb]; rfl, by rw [cell_of_row w b (0 + 1) _ T (0, 0) hb, hq.len]; rfl, by rw [hq.len]; exact hq.cap, hr⟩, hq.dig, hf _, hf _⟩, hq.trim, hq.nz, hq.val⟩
theorem cmp_lt {a b : Int} (h : cmp a b < 0) : a < b := by unfold cmp at h; split at h <;> (try split at h) <;> omega
theorem cmp_ge {a b : Int} (h : ¬ cmp a b < 0) : b ≤ a := by unfold cmp at h; split at h <;> (try split at h) <;> omega
end Go.Proofs.YtfcpmcdlgkfolaaDoor.Big

namespace Go.Proofs.YtfcpmcdlgkfolaaDoor.E
open Go.RowKit

/-- What stands at a place of a list. -/
def pget {α : Type} : List α → Nat → Option α
  | [], _ => none
  | r :: _, 0 => some r
  | _ :: l, i + 1 => pget l i
def pset {α : Type} : List α → Nat → α → List α
  | [], _, _ => []
  | _ :: l, 0, r => r :: l
  | x :: l, i + 1, r => x :: pset l i r
def pdel {α : Type} : List α → Nat → List α
  | [], _ => []
  | _ :: l, 0 => l
  | x :: l, i + 1 => x :: pdel l i
theorem pget_at {α : Type} : ∀ (l : List α) (i : Nat), pget l i = l[i]?
  | [], i => by simp [pget]
  | x :: l, 0 => by simp [pget]
  | x :: l, i + 1 => by simp [pget, pget_at l i]
theorem pget_mem {α : Type} {l : List α} {x : α} (k : Nat) (h : pget l k = some x) : x ∈ l := by
  rw [pget_at] at h
  exact List.mem_of_getElem? h
theorem mem_pget {α : Type} {l : List α} {x : α} (h : x ∈ l) : ∃ k, pget l k = some x := by
  obtain ⟨k, hk, e⟩ := List.getElem_of_mem h
  exact ⟨k, by rw [pget_at, List.getElem?_eq_getElem hk, e]⟩
theorem pget_pset {α : Type} : ∀ (L : List α) (k i : Nat) (r : α), pget (pset L k r) i = if i = k then (pget L k).map (fun _ => r) else pget L i
  | [], k, i, r => by simp [pset, pget]
  | x :: l, 0, 0, r => by simp [pset, pget]
  | x :: l, 0, i + 1, r => by simp [pset, pget]
  | x :: l, k + 1, 0, r => by simp [pset, pget]
  | x :: l, k + 1, i + 1, r => by
    simp only [pset, pget, pget_pset l k i r]
    by_cases h : i = k
    · simp [h]
    · simp [h]
theorem pget_pdel {α : Type} : ∀ (L : List α) (k i : Nat), pget (pdel L k) i = if i < k then pget L i else pget L (i + 1)
  | [], k, i => by simp [pdel, pget]
  | x :: l, 0, i => by simp [pdel, pget]
  | x :: l, k + 1, 0 => by simp [pdel, pget]
  | x :: l, k + 1, i + 1 => by
    simp only [pdel, pget, pget_pdel l k i]
    by_cases h : i < k
    · simp [h]
    · simp [h]

def ldel : Nat → List Res → List Res
  | _, [] => []
  | 0, _ :: l => l
  | i + 1, x :: l => x :: ldel i l
theorem lget_ldel : ∀ (L : List Res) (k i : Nat), lget (ldel k L) i = if i < k then lget L i else lget L (i + 1)
  | [], k, i => by simp [ldel, lget]
  | x :: l, 0, i => by simp [ldel, lget]
  | x :: l, k + 1, 0 => by simp [ldel, lget]
  | x :: l, k + 1, i + 1 => by
    simp only [ldel, lget, lget_ldel l k i]
    by_cases h : i < k
    · simp [h]
    · simp [h]

section
variable {w0 w : World} {L : List Res} {r s t : Res} {i j : Nat}
/-- Two things are one. -/
theorem St.merge (h : St w0 w L) (hi : lget L i = some r) (hj : lget L j = some s) (hne : i ≠ j) (ht : r.holds w → s.holds w → (∀ b ∈ r.foot, b ∉ s.foot) → t.holds w) (hf : ∀ b ∈ t.foot, b ∈ r.foot ∨ b ∈ s.foot) : St w0 w (lset (lset L j emp) i t) := by
  have hd := h.sep i j r s hi hj hne
  have key : ∀ k u, lget (lset (lset L j emp) i t) k = some u → (k = i ∧ u = t) ∨ (k = j ∧ u = emp) ∨ (k ≠ i ∧ k ≠ j ∧ lget L k = some u) := by
    intro k u hk
    rw [lget_lset] at hk
    split at hk
    · rename_i e1
      subst e1
      rw [lget_lset, if_neg hne, hi] at hk
      exact .inl ⟨rfl, by simpa using hk.symm⟩
    · rename_i e1
      rw [lget_lset] at hk
      split at hk
      · rename_i e2
        subst e2
        rw [hj] at hk
        exact .inr (.inl ⟨rfl, by simpa using hk.symm⟩)
      · rename_i e2
        exact .inr (.inr ⟨e1, e2, hk⟩)
  refine ⟨h.below, fun k u hk => ?_, fun k u hk b hb => ?_, fun k l u v hk hl hkl b hb hb' => ?_⟩
  · rcases key k u hk with ⟨_, rfl⟩ | ⟨_, rfl⟩ | ⟨_, _, h1⟩
    · exact ht (h.holds i _ hi) (h.holds j _ hj) hd
    · trivial
    · exact h.holds k u h1
  · rcases key k u hk with ⟨_, rfl⟩ | ⟨_, rfl⟩ | ⟨_, _, h1⟩
    · rcases hf b hb with h2 | h2
      · exact h.lt i _ hi b h2
      · exact h.lt j _ hj b h2
    · simp [emp] at hb
    · exact h.lt k u h1 b hb
  · rcases key k u hk with ⟨rfl, rfl⟩ | ⟨_, rfl⟩ | ⟨k1, k2, h1⟩
    · rcases key l v hl with ⟨rfl, rfl⟩ | ⟨_, rfl⟩ | ⟨l1, l2, h3⟩
      · exact hkl rfl
      · simp [emp] at hb'
      · rcases hf b hb with h2 | h2
        · exact h.sep k l _ _ hi h3 hkl b h2 hb'
        · exact h.sep j l _ _ hj h3 (Ne.symm l2) b h2 hb'
    · simp [emp] at hb
    · rcases key l v hl with ⟨rfl, rfl⟩ | ⟨_, rfl⟩ | ⟨l1, l2, h3⟩
      · rcases hf b hb' with h2 | h2
        · exact h.sep k l _ _ h1 hi hkl b hb h2
        · exact h.sep k j _ _ h1 hj k2 b hb h2
      · simp [emp] at hb'
      · exact h.sep k l _ _ h1 h3 hkl b hb hb'
/-- One thing is two. -/
theorem St.split {r1 r2 : Res} (h : St w0 w L) (hi : lget L i = some r) (ht : r.holds w → r1.holds w ∧ r2.holds w ∧ (∀ b ∈ r1.foot, b ∈ r.foot) ∧ (∀ b ∈ r2.foot, b ∈ r.foot) ∧ ∀ b ∈ r1.foot, b ∉ r2.foot) : St w0 w (r1 :: lset L i r2) := by
  obtain ⟨h1, h2, f1, f2, hd⟩ := ht (h.holds i _ hi)
  have key : ∀ k u, lget (r1 :: lset L i r2) k = some u → (k = 0 ∧ u = r1) ∨ (k = i + 1 ∧ u = r2) ∨ ∃ k', k = k' + 1 ∧ k' ≠ i ∧ lget L k' = some u := by
    intro k u hk
    cases k with
    | zero => exact .inl ⟨rfl, by simpa [lget] using hk.symm⟩
    | succ k =>
      simp only [lget, lget_lset] at hk
      split at hk
      · rename_i e
        subst e
        rw [hi] at hk
        exact .inr (.inl ⟨rfl, by simpa using hk.symm⟩)
      · rename_i e
        exact .inr (.inr ⟨k, rfl, e, hk⟩)
  refine ⟨h.below, fun k u hk => ?_, fun k u hk b hb => ?_, fun k l u v hk hl hkl b hb hb' => ?_⟩
  · rcases key k u hk with ⟨_, rfl⟩ | ⟨_, rfl⟩ | ⟨k', _, _, h3⟩
    · exact h1
    · exact h2
    · exact h.holds k' u h3
  · rcases key k u hk with ⟨_, rfl⟩ | ⟨_, rfl⟩ | ⟨k', _, _, h3⟩
    · exact h.lt i _ hi b (f1 b hb)
    · exact h.lt i _ hi b (f2 b hb)
    · exact h.lt k' u h3 b hb
  · rcases key k u hk with ⟨e, rfl⟩ | ⟨e, rfl⟩ | ⟨k', e, hk', h3⟩
    · rcases key l v hl with ⟨e', rfl⟩ | ⟨e', rfl⟩ | ⟨l', e', hl', h4⟩
      · exact hkl (e.trans e'.symm)
      · exact hd b hb hb'
      · exact h.sep i l' _ _ hi h4 (Ne.symm hl') b (f1 b hb) hb'
    · rcases key l v hl with ⟨e', rfl⟩ | ⟨e', rfl⟩ | ⟨l', e', hl', h4⟩
      · exact hd b hb' hb
      · exact hkl (e.trans e'.symm)
      · exact h.sep i l' _ _ hi h4 (Ne.symm hl') b (f2 b hb) hb'
    · rcases key l v hl with ⟨e', rfl⟩ | ⟨e', rfl⟩ | ⟨l', e', hl', h4⟩
      · exact h.sep k' i _ _ h3 hi hk' b hb (f1 b hb')
      · exact h.sep k' i _ _ h3 hi hk' b hb (f2 b hb')
      · exact h.sep k' l' _ _ h3 h4 (by omega) b hb hb'
theorem St.front (h : St w0 w L) (hi : lget L i = some r) : St w0 w (r :: ldel i L) := by
  refine h.via (fun k => match k with | 0 => i | k + 1 => if k < i then k else k + 1) (fun k u hk => ?_) (fun k l u v hk hl he => ?_)
  · cases k with
    | zero => simp only [lget, Option.some.injEq] at hk; subst hk; exact hi
    | succ k =>
      simp only [lget, lget_ldel] at hk
      try dsimp only
      split at hk
      · rename_i h1; rw [if_pos h1]; exact hk
      · rename_i h1; rw [if_neg h1]; exact hk
  · cases k <;> cases l <;> (try dsimp only at he) <;> (repeat' (split at he)) <;> omega
theorem St.back (h : St w0 w (r :: ldel i L)) (hi : lget L i = some s) : St w0 w (lset L i r) := by
  refine h.via (fun k => if k = i then 0 else if k < i then k + 1 else k) (fun k u hk => ?_) (fun k l u v hk hl he => ?_)
  · rw [lget_lset] at hk
    try dsimp only
    split at hk
    · rename_i h1
      rw [if_pos h1]
      rw [hi] at hk
      exact hk
    · rename_i h1
      rw [if_neg h1]
      split
      · rename_i h2
        simp only [lget, lget_ldel, if_pos h2]
        exact hk
      · rename_i h2
        obtain ⟨q, rfl⟩ : ∃ q, k = q + 1 := ⟨k - 1, by omega⟩
        simp only [lget, lget_ldel]
        rw [if_neg (by omega)]
        exact hk
  · (try dsimp only at he)
    (repeat' (split at he)) <;> omega
/-- A contract that speaks of one thing, where it stands among others. -/
theorem lift {P : Program} {f : FuncId} {args : Array Value} {α : Type} {p : α → Prop} {v : α → Value} {M : α → Res} (i : Nat) (hS : St w0 w L) (hi : lget L i = some r) (h : ∀ T, St w0 w (r :: T) → Calls P f args w fun e w' => ∃ q, p q ∧ e = .returned (v q) ∧ St w0 w' (M q :: T)) : Calls P f args w fun e w' => ∃ q, p q ∧ e = .returned (v q) ∧ St w0 w' (lset L i (M q)) :=
  (h _ (hS.front hi)).mono fun _ _ ⟨q, hp, he, hS'⟩ => ⟨q, hp, he, hS'.back hi⟩
end
end Go.Proofs.YtfcpmcdlgkfolaaDoor.E

namespace Go.Proofs.YtfcpmcdlgkfolaaDoor.Big
open Go.RowKit Go.Proofs.YtfcpmcdlgkfolaaDoor.E

/-- A number in a block: from cell o on. -/
structure Ent where
  b : Nat
  o : Nat
  q : Nm
/-- Its cells, and its digits: headers lie in H, digits in D. -/
structure Ent.ok (H D : List Nat) (w : World) (x : Ent) : Prop where
  hd : x.b ∈ H
  row : ∃ cs T, w.heap[x.b]? = some (.cells cs T (0, 0)) ∧ cs[x.o]? = some (.bool x.q.neg) ∧ cs[x.o + 1]? = some (.slice x.q.A x.q.n x.q.c)
  dg : ∀ a, x.q.A = some a → a.block ∈ D
  rd : Rd w x.q.A (cU x.q.ds)
def apart (x y : Ent) : Prop := x.b ≠ y.b ∨ x.o + 2 ≤ y.o ∨ y.o + 2 ≤ x.o
structure BagOk (H D : List Nat) (l : List Ent) (w : World) : Prop where
  ok : ∀ x ∈ l, x.ok H D w
  ap : ∀ i j x y, pget l i = some x → pget l j = some y → i ≠ j → apart x y
  dj : ∀ b ∈ H, b ∉ D
theorem rd_stable {w w' : World} {A : Option Addr} {xs : List Value} (h : Rd w A xs) (hk : ∀ a, A = some a → w'.heap[a.block]? = w.heap[a.block]?) : Rd w' A xs := by
  rcases h with h | ⟨g, o, hA, hc⟩
  · exact .inl h
  · refine .inr ⟨g, o, hA, fun j u hu => ?_⟩
    rw [← hc j u hu]
    have := hk _ hA
    simp only [World.cell?]
    rw [this]
theorem Ent.ok.keep {H D H' D' : List Nat} {w w' : World} {x : Ent} (h : x.ok H D w) (h1 : w'.heap[x.b]? = w.heap[x.b]?) (h2 : ∀ a, x.q.A = some a → w'.heap[a.block]? = w.heap[a.block]?) (hH : ∀ b ∈ H, b ∈ H') (hD : ∀ b ∈ D, b ∈ D') : x.ok H' D' w' :=
  ⟨hH _ h.hd, by rw [h1]; exact h.row, fun a ha => hD _ (h.dg a ha), rd_stable h.rd h2⟩
/-- The numbers l. -/
def bag (H D : List Nat) (l : List Ent) : Res where
  foot := H ++ D
  holds w := BagOk H D l w
  stable w w' hf h := ⟨fun x hx => (h.ok x hx).keep (hf _ (List.mem_append_left _ (h.ok x hx).hd)) (fun a ha => hf _ (List.mem_append_right _ ((h.ok x hx).dg a ha))) (fun _ h => h) (fun _ h => h), h.ap, h.dj⟩
theorem bag_nil : ∀ w, (bag [] [] []).holds w := fun _ => ⟨fun _ h => by simp at h, fun _ _ _ _ h => by simp [pget] at h, fun _ h => by simp at h⟩

section
variable {H D : List Nat} {l l' : List Ent} {w w' : World} {b o k : Nat} {q q' : Nm}
/-- Fewer, in any order. -/
theorem BagOk.sub (h : BagOk H D l w) (f : Nat → Nat) (hf : ∀ i x, pget l' i = some x → pget l (f i) = some x) (hi : ∀ i j x y, pget l' i = some x → pget l' j = some y → f i = f j → i = j) : BagOk H D l' w :=
  ⟨fun x hx => by
    obtain ⟨i, h1⟩ := mem_pget hx
    exact h.ok x (pget_mem _ (hf i x h1)), fun i j x y h1 h2 hne => h.ap _ _ x y (hf i x h1) (hf j y h2) (fun e => hne (hi i j x y h1 h2 e)), h.dj⟩
theorem BagOk.tail {x : Ent} (h : BagOk H D (x :: l) w) : BagOk H D l w := h.sub (· + 1) (fun _ _ h => h) (fun _ _ _ _ _ _ h => by omega)
theorem BagOk.second {x y : Ent} (h : BagOk H D (x :: y :: l) w) : BagOk H D (x :: l) w := h.sub (fun i => if i = 0 then 0 else i + 1) (fun i z hz => by cases i with | zero => exact hz | succ i => simpa [pget] using hz) (fun i j _ _ _ _ h => by (try dsimp only at h); (repeat' (split at h)) <;> omega)
theorem BagOk.front {x : Ent} (h : BagOk H D l w) (hk : pget l k = some x) : BagOk H D (x :: pdel l k) w :=
  h.sub (fun i => match i with | 0 => k | i + 1 => if i < k then i else i + 1) (fun i y hy => by
    cases i with
    | zero => simp only [pget, Option.some.injEq] at hy; subst hy; exact hk
    | succ i =>
      simp only [pget, pget_pdel] at hy
      try dsimp only
      split at hy
      · rename_i h1; rw [if_pos h1]; exact hy
      · rename_i h1; rw [if_neg h1]; exact hy) (fun i j _ _ _ _ he => by cases i <;> cases j <;> (try dsimp only at he) <;> (repeat' (split at he)) <;> omega)
theorem BagOk.back {x y : Ent} (h : BagOk H D (x :: pdel l k) w) (hk : pget l k = some y) : BagOk H D (pset l k x) w :=
  h.sub (fun i => if i = k then 0 else if i < k then i + 1 else i) (fun i u hu => by
    rw [pget_pset] at hu
    try dsimp only
    split at hu
    · rename_i h1
      rw [if_pos h1]
      rw [hk] at hu
      exact hu
    · rename_i h1
      rw [if_neg h1]
      split
      · rename_i h2
        simp only [pget, pget_pdel, if_pos h2]
        exact hu
      · rename_i h2
        obtain ⟨m, rfl⟩ : ∃ m, i = m + 1 := ⟨i - 1, by omega⟩
        simp only [pget, pget_pdel]
        rw [if_neg (by omega)]
        exact hu) (fun i j _ _ _ _ he => by (try dsimp only at he); (repeat' (split at he)) <;> omega)
theorem front_mem {x : Ent} (hk : pget l k = some x) : ∀ e ∈ l, e ∈ x :: pdel l k := fun e he => by
  obtain ⟨i, hi⟩ := mem_pget he
  by_cases h1 : i = k
  · subst h1
    rw [hk] at hi
    cases hi
    exact List.mem_cons_self ..
  · refine List.mem_cons_of_mem _ ?_
    by_cases h2 : i < k
    · exact pget_mem i (by rw [pget_pdel, if_pos h2]; exact hi)
    · exact pget_mem (i - 1) (by rw [pget_pdel, if_neg (by omega), show i - 1 + 1 = i by omega]; exact hi)

/-- One number is another one; its header's block has turned, or nothing has. -/
theorem BagOk.turn {cs cs' : Array Value} {T : TypeId} {D' : List Nat} (h : BagOk H D l w) (hk : pget l k = some ⟨b, o, q⟩) (hg : w.heap[b]? = some (.cells cs T (0, 0))) (hg' : w'.heap[b]? = some (.cells cs' T (0, 0)))
    (hcs : ∀ p, p ≠ o → p ≠ o + 1 → cs'[p]? = cs[p]?) (h1 : cs'[o]? = some (.bool q'.neg)) (h2 : cs'[o + 1]? = some (.slice q'.A q'.n q'.c)) (hoth : ∀ p, p ≠ b → w'.heap[p]? = w.heap[p]?)
    (hdg : ∀ a, q'.A = some a → a.block ∈ D') (hrd : Rd w q'.A (cU q'.ds)) (hD : ∀ b ∈ D, b ∈ D') (hdj : ∀ b ∈ H, b ∉ D') : BagOk H D' (pset l k ⟨b, o, q'⟩) w' := by
  have hbH : b ∈ H := (h.ok _ (pget_mem k hk)).hd
  have key : ∀ i x, pget (pset l k ⟨b, o, q'⟩) i = some x → (i = k ∧ x = ⟨b, o, q'⟩) ∨ (i ≠ k ∧ pget l i = some x) := by
    intro i x hi
    rw [pget_pset] at hi
    split at hi
    · rename_i e
      subst e
      rw [hk] at hi
      exact .inl ⟨rfl, by simpa using hi.symm⟩
    · rename_i e
      exact .inr ⟨e, hi⟩
  refine ⟨fun x hx => ?_, fun i j x y hi hj hne => ?_, hdj⟩
  · obtain ⟨i, hi⟩ := mem_pget hx
    rcases key i x hi with ⟨rfl, rfl⟩ | ⟨hne, hi'⟩
    · exact ⟨hbH, ⟨cs', T, hg', h1, h2⟩, hdg, rd_stable hrd fun a ha => hoth _ (fun e => hdj b hbH (e ▸ hdg a ha))⟩
    · have hx' := h.ok x (pget_mem i hi')
      have ha : ∀ a, x.q.A = some a → w'.heap[a.block]? = w.heap[a.block]? := fun a ha => hoth _ (fun e => h.dj b hbH (e ▸ hx'.dg a ha))
      by_cases hxb : x.b = b
      · obtain ⟨c0, T0, g0, g1, g2⟩ := hx'.row
        rw [hxb, hg] at g0
        simp only [Option.some.injEq, Obj.cells.injEq] at g0
        obtain ⟨rfl, rfl, _⟩ := g0
        have hap := h.ap i k x _ hi' hk hne
        simp only [apart, hxb, ne_eq, not_true_eq_false, false_or] at hap
        exact ⟨hx'.hd, ⟨cs', T, hxb ▸ hg', by rw [hcs _ (by omega) (by omega)]; exact g1, by rw [hcs _ (by omega) (by omega)]; exact g2⟩, fun a ha => hD _ (hx'.dg a ha), rd_stable hx'.rd ha⟩
      · exact hx'.keep (hoth _ hxb) ha (fun _ h => h) hD
  · rcases key i x hi with ⟨rfl, rfl⟩ | ⟨hne1, hi'⟩
    · rcases key j y hj with ⟨rfl, rfl⟩ | ⟨hne2, hj'⟩
      · exact absurd rfl hne
      · exact h.ap i j ⟨b, o, q⟩ y hk hj' hne
    · rcases key j y hj with ⟨rfl, rfl⟩ | ⟨hne2, hj'⟩
      · exact h.ap i j x ⟨b, o, q⟩ hi' hk hne
      · exact h.ap i j x y hi' hj' hne
end

section
variable {P : Program} {N : Nat} {w0 : World} {F : Frm} {L : List Res} {d : Option Tmp} {x y : Operand} {v : Value} {ty t : TypeId} {pos : String} {af : Array Edge} {gd : Option (Nat × Bool)} {K : Frm → List Res → Prop} {H D : List Nat} {l : List Ent} {b o : Nat} {q : Nm}
theorem rdl_bag (i : Nat) (hi : lget L i = some (bag H D l)) (hm : (⟨b, o, q⟩ : Ent) ∈ l) : RdL w0 L q.A (cU q.ds) := fun _ hS => ((hS.holds i _ hi).ok _ hm).rd
theorem y_ldN1 (i : Nat) (ha : ∀ w, (isAgg t).run P w = .ok false w) (hx : FE N F x (.pointer (some ⟨b, o, none⟩))) (hi : lget L i = some (bag H D l)) (hm : (⟨b, o, q⟩ : Ent) ∈ l) : Yld P N w0 F L ⟨d, .load t x, ty, pos, af, gd⟩ (.bool q.neg) := fun a w hF hS => by
  obtain ⟨cs, T, hg, h1, h2⟩ := ((hS.holds i _ hi).ok _ hm).row
  have hc : w.cell? ⟨b, o, none⟩ = some (.bool q.neg) := by rw [cell_of_row w b o cs T (0, 0) hg]; exact h1
  simp [execOp, hx a hF, Instr.loadAt, Instr.sureAddr, loadVar, ha, load, Sem.run, hc]
theorem y_ldN2 (i : Nat) (ha : ∀ w, (isAgg t).run P w = .ok false w) (hx : FE N F x (.pointer (some ⟨b, o + 1, none⟩))) (hi : lget L i = some (bag H D l)) (hm : (⟨b, o, q⟩ : Ent) ∈ l) : Yld P N w0 F L ⟨d, .load t x, ty, pos, af, gd⟩ (.slice q.A q.n q.c) := fun a w hF hS => by
  obtain ⟨cs, T, hg, h1, h2⟩ := ((hS.holds i _ hi).ok _ hm).row
  have hc : w.cell? ⟨b, o + 1, none⟩ = some (.slice q.A q.n q.c) := by rw [cell_of_row w b (o + 1) cs T (0, 0) hg]; exact h2
  simp [execOp, hx a hF, Instr.loadAt, Instr.sureAddr, loadVar, ha, load, Sem.run, hc]

theorem bag_store {w : World} {p i k : Nat} {q' : Nm} (hs : ∀ w, (sizeOf t).run P w = .ok 1 w) (hv : v.cells = #[v]) (h1 : v.oneCell' = true) (hS : St w0 w L) (hi : lget L i = some (bag H D l)) (hk : pget l k = some ⟨b, o, q⟩) (hp : (p = o ∧ v = .bool q'.neg ∧ q.A = q'.A ∧ q.n = q'.n ∧ q.c = q'.c) ∨ (p = o + 1 ∧ v = .slice q'.A q'.n q'.c ∧ q.neg = q'.neg))
    (hdg : ∀ w, BagOk H D l w → (∀ a, q'.A = some a → a.block ∈ D) ∧ Rd w q'.A (cU q'.ds)) : ∃ w', (storeVar t ⟨b, p, none⟩ v).run P w = .ok () w' ∧ St w0 w' (lset L i (bag H D (pset l k ⟨b, o, q'⟩))) := by
  have hB := hS.holds i _ hi
  obtain ⟨cs, T, hg, g1, g2⟩ := (hB.ok _ (pget_mem k hk)).row
  have hg' : w.heap[b]? = some (.cells cs.toList.toArray T (0, 0)) := by simpa using hg
  have l1 : o < cs.size := (Array.getElem?_eq_some_iff.1 g1).1
  have l2 : o + 1 < cs.size := (Array.getElem?_eq_some_iff.1 g2).1
  have hpl : p < cs.toList.length := by rw [Array.length_toList]; rcases hp with ⟨h, _⟩ | ⟨h, _⟩ <;> omega
  have hr := run_storeb (P := P) (t := t) (w := w) (b := b) (o := p) (s := 1) (cs := cs.toList) (vs := [v]) (v := v) hs hv rfl (by simp [h1]) hg' (by omega)
  refine ⟨_, hr, ?_⟩
  have hset : cs.toList.take p ++ [v] ++ cs.toList.drop (p + 1) = cs.toList.set p v := by rw [List.set_eq_take_append_cons_drop, if_pos hpl]; simp
  rw [hset]
  have hlt := (hS.lt i _ hi b (List.mem_append_left _ (hB.ok _ (pget_mem k hk)).hd)).2
  refine hS.turn hi rfl rfl rfl (by simp [World.setRow]) (fun c hc1 hc2 => setRow_other w b c _ (fun e => hc2 (e ▸ List.mem_append_left _ (hB.ok _ (pget_mem k hk)).hd))) ?_ (fun c hc => ⟨by have := (hS.lt i _ hi c hc).2; simpa [World.setRow] using this, .inl hc⟩)
  have hget : ∀ j, (cs.toList.set p v).toArray[j]? = if p = j then some v else cs[j]? := fun j => by
    rw [List.getElem?_toArray, List.getElem?_set]
    by_cases e : p = j
    · subst e; simp at hpl; simp [hpl]
    · simp [e]
  refine hB.turn hk hg (setRow_heap w b _ _ T _ hg) (fun j h1 h2 => ?_) ?_ ?_ (fun c hc => setRow_other w b c _ hc) (hdg w hB).1 (hdg w hB).2 (fun _ h => h) hB.dj
  · rw [hget, if_neg (by rcases hp with ⟨h, _⟩ | ⟨h, _⟩ <;> omega)]
  · rw [hget]
    rcases hp with ⟨h, e, _⟩ | ⟨h, _, e⟩
    · rw [if_pos h, e]
    · rw [if_neg (by omega), g1, e]
  · rw [hget]
    rcases hp with ⟨h, _, e1, e2, e3⟩ | ⟨h, e, _⟩
    · rw [if_neg (by omega), g2, e1, e2, e3]
    · rw [if_pos h, e]
/-- The sign is another one. -/
theorem oj_stN1 {u : Bool} (i k : Nat) (hs : ∀ w, (sizeOf t).run P w = .ok 1 w) (hx : FE N F x (.pointer (some ⟨b, o, none⟩))) (hy : FE N F y (.bool u)) (hi : lget L i = some (bag H D l)) (hk : pget l k = some ⟨b, o, q⟩) (h : K (fput F d undef) (lset L i (bag H D (pset l k ⟨b, o, ⟨u, q.A, q.n, q.c, q.ds⟩⟩)))) : OpJ P N w0 F L ⟨d, .store t x y, ty, pos, af, gd⟩ K := fun a w hF hS => by
  obtain ⟨w', hr, hS'⟩ := bag_store (P := P) (t := t) (p := o) (q' := ⟨u, q.A, q.n, q.c, q.ds⟩) hs rfl rfl hS hi hk (.inl ⟨rfl, rfl, rfl, rfl, rfl⟩) (fun w hB => ⟨fun a ha => (hB.ok _ (pget_mem k hk)).dg a ha, (hB.ok _ (pget_mem k hk)).rd⟩)
  have hr2 : (execOp a.eval ⟨d, .store t x y, ty, pos, af, gd⟩).run P w = .ok .skip w' := by
    simp [execOp, Instr.storeAt, Instr.sureAddr, hx a hF, hy a hF, hr]
  unfold Oper.wp
  rw [hr2]
  exact ⟨_, _, h, hF.put _ _, hS'⟩
/-- Fewer of its digits. -/
theorem oj_stN2 {m : Nat} (i k : Nat) (hs : ∀ w, (sizeOf t).run P w = .ok 1 w) (hx : FE N F x (.pointer (some ⟨b, o + 1, none⟩))) (hy : FE N F y (.slice q.A m q.c)) (hi : lget L i = some (bag H D l)) (hk : pget l k = some ⟨b, o, q⟩) (h : K (fput F d undef) (lset L i (bag H D (pset l k ⟨b, o, ⟨q.neg, q.A, m, q.c, q.ds.take m⟩⟩)))) : OpJ P N w0 F L ⟨d, .store t x y, ty, pos, af, gd⟩ K := fun a w hF hS => by
  have hrd : ∀ w, Rd w q.A (cU q.ds) → Rd w q.A (cU (q.ds.take m)) := fun w hr => by
    rcases hr with hr | ⟨g, o', hA, hc⟩
    · refine .inl ?_
      have : q.ds = [] := by simpa [cU] using hr
      simp [this, cU]
    · refine .inr ⟨g, o', hA, fun j u hu => hc j u ?_⟩
      rw [cU, List.map_take, List.getElem?_take] at hu
      split at hu
      · exact hu
      · cases hu
  obtain ⟨w', hr, hS'⟩ := bag_store (P := P) (t := t) (p := o + 1) (q' := ⟨q.neg, q.A, m, q.c, q.ds.take m⟩) hs rfl rfl hS hi hk (.inr ⟨rfl, rfl, rfl⟩) (fun w hB => ⟨fun a ha => (hB.ok _ (pget_mem k hk)).dg a ha, hrd w (hB.ok _ (pget_mem k hk)).rd⟩)
  have hr2 : (execOp a.eval ⟨d, .store t x y, ty, pos, af, gd⟩).run P w = .ok .skip w' := by
    simp [execOp, Instr.storeAt, Instr.sureAddr, hx a hF, hy a hF, hr]
  unfold Oper.wp
  rw [hr2]
  exact ⟨_, _, h, hF.put _ _, hS'⟩
/-- Digits of another slice, that is the call's own. -/
theorem oj_stN3 {A : Option Addr} {n c : Nat} {ds : List Int} (i k j : Nat) (hs : ∀ w, (sizeOf t).run P w = .ok 1 w) (hx : FE N F x (.pointer (some ⟨b, o + 1, none⟩))) (hy : FE N F y (.slice A n c)) (hi : lget L i = some (bag H D l)) (hk : pget l k = some ⟨b, o, q⟩) (hj : lget L j = some (vec 200 1 (.slice A n c) n (cU ds))) (hne : Nat.beq i j = false)
    (h : ∀ D', K (fput F d undef) (lset (lset L j emp) i (bag H D' (pset l k ⟨b, o, ⟨q.neg, A, n, c, ds⟩⟩)))) : OpJ P N w0 F L ⟨d, .store t x y, ty, pos, af, gd⟩ K := fun a w hF hS => by
  have hne' := Nat.ne_of_beq_eq_false hne
  have hv := hS.holds j _ hj
  obtain ⟨_, _, hrd⟩ := OwnV.rd hv
  -- the slice goes into the bag
  let D' : List Nat := A.elim D (fun a => a.block :: D)
  have hD : ∀ b ∈ D, b ∈ D' := fun b hb => by cases A <;> simp [D', hb]
  have hA : ∀ a, A = some a → a.block ∈ D' := fun a ha => by subst ha; simp [D']
  have hform : ∀ b ∈ D', b ∈ D ∨ b ∈ (vec 200 1 (.slice A n c) n (cU ds)).foot := fun b hb => by
    rcases hv.2 with ⟨h1, _⟩ | ⟨g, off, cap, cur, h1, _⟩
    · injection h1 with e1 e2 e3
      subst e1
      exact .inl hb
    · injection h1 with e1 e2 e3
      subst e1
      simp only [D', Option.elim_some, List.mem_cons] at hb
      rcases hb with rfl | hb
      · exact .inr (by simp [vec, Value.ownBlock])
      · exact .inl hb
  have hS1 := hS.merge (t := ⟨H ++ D', fun w => BagOk H D' l w ∧ Rd w A (cU ds), fun w w' hf h1 => ⟨(bag H D' l).stable w w' hf h1.1, rd_stable h1.2 fun a ha => hf _ (List.mem_append_right _ (hA a ha))⟩⟩) hi hj hne'
    (fun h1 h2 h3 => ⟨⟨fun x hx => (h1.ok x hx).keep rfl (fun _ _ => rfl) (fun _ h => h) hD, h1.ap, fun b hb hb' => by
      rcases hform b hb' with h4 | h4
      · exact h1.dj b hb h4
      · exact h3 b (List.mem_append_left _ hb) h4⟩, hrd⟩) (fun b hb => by
      rcases List.mem_append.1 hb with hb | hb
      · exact .inl (List.mem_append_left _ hb)
      · rcases hform b hb with h4 | h4
        · exact .inl (List.mem_append_right _ h4)
        · exact .inr h4)
  have hi1 : lget (lset (lset L j emp) i ⟨H ++ D', fun w => BagOk H D' l w ∧ Rd w A (cU ds), fun w w' hf h1 => ⟨(bag H D' l).stable w w' hf h1.1, rd_stable h1.2 fun a ha => hf _ (List.mem_append_right _ (hA a ha))⟩⟩) i = some ⟨H ++ D', fun w => BagOk H D' l w ∧ Rd w A (cU ds), fun w w' hf h1 => ⟨(bag H D' l).stable w w' hf h1.1, rd_stable h1.2 fun a ha => hf _ (List.mem_append_right _ (hA a ha))⟩⟩ := by
    rw [lget_lset, if_pos rfl, lget_lset, if_neg hne', hi]
    rfl
  obtain ⟨hB, hR⟩ := hS1.holds i _ hi1
  have hS2 : St w0 w (lset (lset L j emp) i (bag H D' l)) := by
    have := hS1.less (r' := bag H D' l) hi1 (fun h => h.1) (fun b hb => hb)
    have e : ∀ (M : List Res) (r s : Res), lset (lset M i r) i s = lset M i s := by
      intro M r s
      have : ∀ (M : List Res) (i : Nat), lset (lset M i r) i s = lset M i s := by
        intro M
        induction M with
        | nil => intro i; rfl
        | cons x M ih => intro i; cases i with | zero => rfl | succ i => simp only [lset, ih]
      exact this M i
    rwa [e] at this
  have hi2 : lget (lset (lset L j emp) i (bag H D' l)) i = some (bag H D' l) := by
    rw [lget_lset, if_pos rfl, lget_lset, if_neg hne', hi]
    rfl
  -- and is stored: its digits are there all the while
  have hB2 := hS2.holds i _ hi2
  obtain ⟨cs, T, hg, g1, g2⟩ := (hB2.ok _ (pget_mem k hk)).row
  have hg' : w.heap[b]? = some (.cells cs.toList.toArray T (0, 0)) := by simpa using hg
  have l2 : o + 1 < cs.size := (Array.getElem?_eq_some_iff.1 g2).1
  have hr := run_storeb (P := P) (t := t) (w := w) (b := b) (o := o + 1) (s := 1) (cs := cs.toList) (vs := [.slice A n c]) (v := .slice A n c) hs rfl rfl rfl hg' (by rw [Array.length_toList]; omega)
  have hr2 : (execOp a.eval ⟨d, .store t x y, ty, pos, af, gd⟩).run P w = .ok .skip (w.setRow b (cs.toList.take (o + 1) ++ [Value.slice A n c] ++ cs.toList.drop (o + 1 + 1)).toArray) := by
    simp only [execOp, Instr.storeAt, Instr.sureAddr, hx a hF, hy a hF, Sem.run_bind, Sem.run_pure, Result.andThen_ok, hr]
  unfold Oper.wp
  rw [hr2]
  refine ⟨_, _, h D', hF.put _ _, ?_⟩
  have hset : cs.toList.take (o + 1) ++ [Value.slice A n c] ++ cs.toList.drop (o + 1 + 1) = cs.toList.set (o + 1) (.slice A n c) := by rw [List.set_eq_take_append_cons_drop, if_pos (by rw [Array.length_toList]; omega)]; simp
  have hget : ∀ j, (cs.toList.set (o + 1) (Value.slice A n c)).toArray[j]? = if o + 1 = j then some (.slice A n c) else cs[j]? := fun j => by
    rw [List.getElem?_toArray, List.getElem?_set]
    by_cases e : o + 1 = j
    · subst e; simp [l2]
    · simp [e]
  have hbH := (hB2.ok _ (pget_mem k hk)).hd
  have hS3 : St w0 (w.setRow b (cs.toList.set (o + 1) (.slice A n c)).toArray) (lset (lset (lset L j emp) i (bag H D' l)) i (bag H D' (pset l k ⟨b, o, ⟨q.neg, A, n, c, ds⟩⟩))) := by
    refine hS2.turn hi2 rfl rfl rfl (by simp [World.setRow]) (fun c' hc1 hc2 => setRow_other w b c' _ (fun e => hc2 (e ▸ List.mem_append_left _ hbH))) ?_ (fun c' hc => ⟨by have := (hS2.lt i _ hi2 c' hc).2; simpa [World.setRow] using this, .inl hc⟩)
    refine hB2.turn hk hg (setRow_heap w b _ _ T _ hg) (fun j h1 h2 => ?_) ?_ ?_ (fun c hc => setRow_other w b c _ hc) hA hR (fun _ h => h) hB2.dj
    · rw [hget, if_neg (by omega)]
    · rw [hget, if_neg (by omega), g1]
    · rw [hget, if_pos rfl]
  have e : ∀ (M : List Res) (i : Nat) (r s : Res), lset (lset M i r) i s = lset M i s := by
    intro M
    induction M with
    | nil => intro i r s; rfl
    | cons x M ih => intro i r s; cases i with | zero => rfl | succ i => simp only [lset, ih]
  rw [e, ← hset] at hS3
  exact hS3
end
end Go.Proofs.YtfcpmcdlgkfolaaDoor.Big

namespace Go.Proofs.YtfcpmcdlgkfolaaDoor.E
open Go.RowKit

section
variable {P : Program} {ops : Array Oper} {C : Array Bool → World → Prop}
/-- Whatever order is picked from here on, and C throughout. -/
def wpAnyD (P : Program) (ops : Array Oper) (C : Array Bool → World → Prop) (R : Act → World → Prop) : Nat → Array Bool → Act → World → Prop
  | 0, listed, a, w => Region.ready .any ops listed = [] ∧ R a w
  | n + 1, listed, a, w =>
    (Region.ready .any ops listed = [] → R a w) ∧ ∀ i ∈ Region.ready .any ops listed, cOp P ops i (fun a' w' => ∀ w'', Below w'.heap.size w' w'' → C (listed.setIfInBounds i true) w'' ∧ wpAnyD P ops C R n (listed.setIfInBounds i true) a' w'') a w
theorem wpAny_of_D {R : Act → World → Prop} {Q : Exit → Act → World → Prop} (hQ : ∀ a w, R a w → Q .normal a w) : ∀ (n : Nat) (listed : Array Bool) (a : Act) (w : World), wpAnyD P ops C R n listed a w → wpAny P .any ops Q n listed a w
  | 0, _, _, _, h => ⟨h.1, hQ _ _ h.2⟩
  | n + 1, _, _, _, h => ⟨fun h0 => hQ _ _ (h.1 h0), fun i hi => by
      have h1 := h.2 i hi
      unfold cOp at h1
      unfold wpOp
      split
      · rename_i ho
        simp only [ho] at h1
        exact wpAny_of_D hQ n _ _ _ (h1 _ (Below.refl _ _)).2
      · rename_i o ho
        simp only [ho] at h1
        split
        · rename_i hw
          simp only [hw, if_true] at h1
          exact .inl (wp_of_noQ (fun a' w' h2 => wpAny_of_D hQ n _ _ _ (h2 _ (Below.refl _ _)).2) h1)
        · rename_i hw
          simp only [hw] at h1
          exact wpAny_of_D hQ n _ _ _ (h1 _ (Below.refl _ _)).2⟩

theorem wpAnyD_first {R : Act → World → Prop} {Cv : World → Prop} {I : Array Bool → Prop} {i : Nat} {oi : Oper} {v : Value} (hi : ops[i]? = some oi) (hsel : ∀ (j : Nat) (o : Oper) cs b, ops[j]? = some o → o.op ≠ .select cs b) (hG : ∀ l w w', C l w → Below w.heap.size w w' → C l w')
    (hset : ∀ l, C (l.setIfInBounds i true) = C l) (hcv : ∀ l w, I l → C l w → Cv w) (hI : ∀ (l : Array Bool) j, I l → j ≠ i → i ∈ Region.ready .any ops l → j ∈ Region.ready .any ops l → I (l.setIfInBounds j true)) :
    ∀ (n : Nat) (listed : Array Bool) (a : Act) (w : World), I listed → C listed w →
      (∀ j oj, ops[j]? = some oj → j ≠ i → listed.getD j true = false → (∀ e ∈ oj.after, Region.binds .any e = true → e.on ≠ i) → oi.apart ops oj = true) →
      i ∈ Region.ready .any ops listed → YIn P ops Cv oi v a →
      (∀ w', Below w.heap.size w w' → wpAnyD P ops C R n (listed.setIfInBounds i true) (a.put oi.dst v) w') → wpAnyD P ops C R (n + 1) listed a w := by
  intro n
  induction n with
  | zero =>
    intro listed a w hIl hC _ hr hy H
    refine ⟨fun h => (by rw [h] at hr; cases hr), fun j hj => ?_⟩
    by_cases hji : j = i
    · subst hji; exact cOp_of_yields hi hy (hcv _ _ hIl hC) fun w' hw' w'' hw'' => ⟨by rw [hset]; exact hG _ w _ hC (hw'.trans (hw''.mono hw'.size)), H w'' (hw'.trans (hw''.mono hw'.size))⟩
    · have := ready_mono hj hji
      rw [(H w (Below.refl _ _)).1] at this
      cases this
  | succ n ih =>
    intro listed a w hIl hC hfree hr hy H
    refine ⟨fun h => (by rw [h] at hr; cases hr), fun j hj => ?_⟩
    by_cases hji : j = i
    · subst hji; exact cOp_of_yields hi hy (hcv _ _ hIl hC) fun w' hw' w'' hw'' => ⟨by rw [hset]; exact hG _ w _ hC (hw'.trans (hw''.mono hw'.size)), H w'' (hw'.trans (hw''.mono hw'.size))⟩
    · have h1 := (H w (Below.refl _ _)).2 j (ready_mono hj hji)
      obtain ⟨hjun, oj, hoj, hall⟩ := mem_ready.1 hj
      have hnot : ∀ e ∈ oj.after, Region.binds .any e = true → e.on ≠ i := fun e he hb heq => by
        have h1 := hall e he hb
        have h0 := (mem_ready.1 hr).1
        rw [heq] at h1
        rcases Nat.lt_or_ge i listed.size with h' | h'
        · simp [h'] at h0 h1; rw [h0] at h1; cases h1
        · simp [Array.getElem?_eq_none h'] at h1
      have h2 := cOp_put hoj (hfree j oj hoj hji hjun hnot) (fun cs b => hsel i oi cs b hi) (fun cs b => hsel j oj cs b hoj) hy h1
      have hfree' : ∀ k ok, ops[k]? = some ok → k ≠ i → (listed.setIfInBounds j true).getD k true = false →
          (∀ e ∈ ok.after, Region.binds .any e = true → e.on ≠ i) → oi.apart ops ok = true := fun k ok hk hki hun hno => by
        refine hfree k ok hk hki ?_ hno
        by_cases hjk : j = k
        · subst hjk; exact hjun
        · rw [getD_set_ne true hjk] at hun; exact hun
      refine cOp_mono (fun a' w' h3 w'' hw'' => ?_) h2
      have hC'' := (h3.2 w'' hw'').1
      rw [Array.setIfInBounds_comm _ _ (Ne.symm hji), hset] at hC''
      refine ⟨hC'', ih (listed.setIfInBounds j true) a' w'' (hI _ _ hIl hji hr hj) hC'' hfree' (ready_mono hr (Ne.symm hji)) h3.1 (fun w3 hw3 => ?_)⟩
      rw [Array.setIfInBounds_comm _ _ hji]
      exact (h3.2 w3 (hw''.trans (hw3.mono hw''.size))).2
end

/-- S1 till k0 has come up, S2 from then on. -/
def CC (w0 : World) (k0 : Nat) (S1 S2 : List Res) (l : Array Bool) (w : World) : Prop := St w0 w (bif l.getD k0 true then S2 else S1)
section
variable {P : Program} {N : Nat} {w0 : World} {ops : Array Oper} {Q : Exit → Act → World → Prop} {F : Frm} {L S1 S2 : List Res} {listed : Array Bool} {n k0 : Nat}
theorem CC.two {w : World} (h12 : ∀ w, St w0 w S1 → St w0 w S2) (h : CC w0 k0 S1 S2 listed w) : St w0 w S2 := by
  unfold CC at h
  cases hb : listed.getD k0 true <;> rw [hb] at h
  · exact h12 w h
  · exact h
theorem CC.set {i : Nat} (hne : i ≠ k0) (l : Array Bool) : CC w0 k0 S1 S2 (l.setIfInBounds i true) = CC w0 k0 S1 S2 l := by
  funext w
  unfold CC
  rw [getD_set_ne true hne]

def TB (P : Program) (N : Nat) (w0 : World) (ops : Array Oper) (Q : Exit → Act → World → Prop) (k0 : Nat) (S1 S2 : List Res) (n : Nat) (listed : Array Bool) (F : Frm) (L : List Res) : Prop :=
  (∀ w, St w0 w S1 → St w0 w S2) → ∀ a w, Fr N a F → St w0 w L → CC w0 k0 S1 S2 listed w → wpAnyD P ops (CC w0 k0 S1 S2) (Q .normal) n listed a w
theorem tb_draw {id : Nat} {l : List Oper} (k0 : Nat) (S2 : List Res) (h12 : ∀ w, St w0 w L → St w0 w S2) (hm : P.follows .mixedOrders = true) (h : TB P N w0 l.toArray Q k0 L S2 l.length (Array.replicate l.length false) F L) : TR P N w0 Q (.region id l.toArray true) F L := fun a w hF hS => by
  have h1 : St w0 { w with drawn := w.drawn + 1 } L := hS.grow ⟨rfl, rfl, rfl, Nat.le_refl _, fun _ _ => rfl⟩
  have hc : CC w0 k0 L S2 (Array.replicate l.length false) { w with drawn := w.drawn + 1 } := by
    unfold CC
    cases (Array.replicate l.length false).getD k0 true
    · exact h1
    · exact h12 _ h1
  have := h h12 a _ hF h1 hc
  exact wp_region_any hm (by simpa using wpAny_of_D (fun _ _ h => h) _ _ _ _ this)
theorem tb_done (hr : Region.ready .any ops listed = []) (h : TX N w0 Q .normal F L) : TB P N w0 ops Q k0 S1 S2 n listed F L := fun _ a w hF hS _ => by
  cases n with
  | zero => exact ⟨hr, h a w hF hS⟩
  | succ n => exact ⟨fun _ => h a w hF hS, by rw [hr]; simp⟩

theorem CC.grow {l : Array Bool} {w w' : World} (h : CC w0 k0 S1 S2 l w) (hb : Below w.heap.size w w') : CC w0 k0 S1 S2 l w' := by
  unfold CC at *
  exact h.grow hb
/-- Taken first: what the whole region leaves as it is yields it. -/
theorem tb_float {i : Nat} {o : Oper} {v : Value} (hi : ops[i]? = some o) (hb : (Region.noSelect ops && Region.free .any ops listed i && (Region.ready .any ops listed).contains i) = true) (hne : Nat.beq i k0 = false) (hw : Wants N ops F o true) (hy : Yq P N w0 F S2 o v)
    (h : TB P N w0 ops Q k0 S1 S2 n (listed.setIfInBounds i true) (fput F o.dst v) L) : TB P N w0 ops Q k0 S1 S2 (n + 1) listed F L := fun h12 a w hF hS hC => by
  simp only [Bool.and_eq_true] at hb
  have hne' := Nat.ne_of_beq_eq_false hne
  refine wpAnyD_first (v := v) (Cv := fun w => St w0 w S2) (I := fun _ => True) hi (Region.noSelect_spec hb.1.1) (fun l w w' h1 h2 => h1.grow h2) (CC.set hne') (fun l w _ h => h.two h12) (fun _ _ _ _ _ _ => trivial) n listed a w trivial hC (Region.free_spec hi hb.1.2) (by simpa using hb.2) (.inl ⟨hw a hF, fun w hw => hy a w hF hw⟩) (fun w' hw' => h h12 _ _ (hF.put _ _) (hS.grow hw') ?_)
  rw [CC.set hne']
  exact hC.grow hw'
theorem tb_skip {i : Nat} {o : Oper} (hi : ops[i]? = some o) (hb : (Region.noSelect ops && Region.free .any ops listed i && (Region.ready .any ops listed).contains i) = true) (hne : Nat.beq i k0 = false) (hw : Wants N ops F o false)
    (h : TB P N w0 ops Q k0 S1 S2 n (listed.setIfInBounds i true) (fput F o.dst undef) L) : TB P N w0 ops Q k0 S1 S2 (n + 1) listed F L := fun h12 a w hF hS hC => by
  simp only [Bool.and_eq_true] at hb
  have hne' := Nat.ne_of_beq_eq_false hne
  refine wpAnyD_first (v := undef) (Cv := fun w => St w0 w S2) (I := fun _ => True) hi (Region.noSelect_spec hb.1.1) (fun l w w' h1 h2 => h1.grow h2) (CC.set hne') (fun l w _ h => h.two h12) (fun _ _ _ _ _ _ => trivial) n listed a w trivial hC (Region.free_spec hi hb.1.2) (by simpa using hb.2) (.inr ⟨hw a hF, rfl⟩) (fun w' hw' => h h12 _ _ (hF.put _ _) (hS.grow hw') ?_)
  rw [CC.set hne']
  exact hC.grow hw'
/-- Taken first: the first writer waits for it. -/
theorem tb_float1 {i : Nat} {o : Oper} {v : Value} (hi : ops[i]? = some o) (hb : (Region.noSelect ops && Region.free .any ops listed i && (Region.ready .any ops listed).contains i) = true) (hk : ((ops[k0]?).any fun u => u.after.any fun e => Region.binds .any e && Nat.beq e.on i) = true) (hl : listed.getD k0 true = false) (hw : Wants N ops F o true) (hy : Yq P N w0 F S1 o v)
    (h : TB P N w0 ops Q k0 S1 S2 n (listed.setIfInBounds i true) (fput F o.dst v) L) : TB P N w0 ops Q k0 S1 S2 (n + 1) listed F L := fun h12 a w hF hS hC => by
  simp only [Bool.and_eq_true] at hb
  have hdep : ∀ (l : Array Bool), i ∈ Region.ready .any ops l → k0 ∉ Region.ready .any ops l := fun l h1 h2 => by
    obtain ⟨_, u, hu, hall⟩ := mem_ready.1 h2
    rw [hu] at hk
    simp only [Option.any_some, Array.any_eq_true, Bool.and_eq_true] at hk
    obtain ⟨m, hm, he1, he2⟩ := hk
    have h3 := hall _ (Array.getElem_mem hm) he1
    rw [Nat.eq_of_beq_eq_true he2] at h3
    have h0 := (mem_ready.1 h1).1
    rcases Nat.lt_or_ge i l.size with h' | h'
    · simp [h'] at h0 h3; rw [h0] at h3; cases h3
    · simp [Array.getElem?_eq_none h'] at h3
  have hri : i ∈ Region.ready .any ops listed := by simpa using hb.2
  have hne' : i ≠ k0 := fun e => by
    subst e
    exact hdep _ hri hri
  refine wpAnyD_first (v := v) (Cv := fun w => St w0 w S1) (I := fun l => l.getD k0 true = false) hi (Region.noSelect_spec hb.1.1) (fun l w w' h1 h2 => h1.grow h2) (CC.set hne') (fun l w h1 h2 => by unfold CC at h2; rw [h1] at h2; exact h2) (fun l j h1 h2 h3 h4 => ?_) n listed a w hl hC (Region.free_spec hi hb.1.2) hri (.inl ⟨hw a hF, fun w hw => hy a w hF hw⟩) (fun w' hw' => h h12 _ _ (hF.put _ _) (hS.grow hw') ?_)
  · have : j ≠ k0 := fun e => by subst e; exact hdep l h3 h4
    rw [getD_set_ne true this]
    exact h1
  · rw [CC.set hne']
    exact hC.grow hw'

/-- The one that may come up now, whatever it does: ahead of the first writer, or not. -/
theorem tb_one1 {i : Nat} {o : Oper} (hi : ops[i]? = some o) (hr : Region.ready .any ops listed = [i]) (hb : (listed.setIfInBounds i true).getD k0 true = false) (hw : Wants N ops F o true) (h : OpJ P N w0 F L o (fun F' L' => (∀ w, St w0 w L' → St w0 w S1) ∧ TB P N w0 ops Q k0 S1 S2 n (listed.setIfInBounds i true) F' L')) : TB P N w0 ops Q k0 S1 S2 (n + 1) listed F L := fun h12 a w hF hS hC => by
  refine ⟨fun h0 => (by rw [hr] at h0; cases h0), fun j hj => ?_⟩
  rw [hr, List.mem_singleton] at hj
  subst hj
  unfold cOp
  simp only [hi, hw a hF, if_true]
  refine wp_of_noQ (fun a' w' ⟨F', L', ⟨h1, h2⟩, h3, h4⟩ w'' hw'' => ?_) (h a w hF hS)
  have hc : CC w0 k0 S1 S2 (listed.setIfInBounds j true) w'' := by unfold CC; rw [hb]; exact h1 _ (h4.grow hw'')
  exact ⟨hc, h2 h12 a' w'' h3 (h4.grow hw'') hc⟩
theorem tb_one2 {i : Nat} {o : Oper} (hi : ops[i]? = some o) (hr : Region.ready .any ops listed = [i]) (hb : (listed.setIfInBounds i true).getD k0 true = true) (hw : Wants N ops F o true) (h : OpJ P N w0 F L o (fun F' L' => (∀ w, St w0 w L' → St w0 w S2) ∧ TB P N w0 ops Q k0 S1 S2 n (listed.setIfInBounds i true) F' L')) : TB P N w0 ops Q k0 S1 S2 (n + 1) listed F L := fun h12 a w hF hS hC => by
  refine ⟨fun h0 => (by rw [hr] at h0; cases h0), fun j hj => ?_⟩
  rw [hr, List.mem_singleton] at hj
  subst hj
  unfold cOp
  simp only [hi, hw a hF, if_true]
  refine wp_of_noQ (fun a' w' ⟨F', L', ⟨h1, h2⟩, h3, h4⟩ w'' hw'' => ?_) (h a w hF hS)
  have hc : CC w0 k0 S1 S2 (listed.setIfInBounds j true) w'' := by unfold CC; rw [hb]; exact h1 _ (h4.grow hw'')
  exact ⟨hc, h2 h12 a' w'' h3 (h4.grow hw'') hc⟩
theorem tb_split {d : Nat} {b : Bool} (hv : fget N F d = some (.bool b)) (h1 : b = true → TB P N w0 ops Q k0 S1 S2 n listed (.put d (.bool true) F) L) (h2 : b = false → TB P N w0 ops Q k0 S1 S2 n listed (.put d (.bool false) F) L) : TB P N w0 ops Q k0 S1 S2 n listed F L := fun h12 a w hF hS hC => by
  have key : Fr N a (.put d (.bool b) F) := hF.cov fun i u hi => by
    rw [fget_cons] at hi
    split at hi
    · rename_i e; subst e; split at hi
      · rw [hv]; exact hi
      · cases hi
    · exact hi
  cases b
  · exact h2 rfl h12 a w key hS hC
  · exact h1 rfl h12 a w key hS hC
theorem tb_splitp {d : Nat} {p : Prop} [Decidable p] (hv : fget N F d = some (.bool (decide p))) (h1 : p → TB P N w0 ops Q k0 S1 S2 n listed (.put d (.bool true) F) L) (h2 : ¬ p → TB P N w0 ops Q k0 S1 S2 n listed (.put d (.bool false) F) L) : TB P N w0 ops Q k0 S1 S2 n listed F L :=
  tb_split hv (fun h => h1 (of_decide_eq_true h)) (fun h => h2 (of_decide_eq_false h))
/-- Less is left as it is. -/
theorem tb_add {r : Res} (hr : ∀ w, r.holds w) (hf : r.foot = []) (h : TB P N w0 ops Q k0 S1 S2 n listed F (r :: L)) : TB P N w0 ops Q k0 S1 S2 n listed F L := fun h12 a w hF hS hC =>
  h h12 a w hF (hS.add (Below.refl _ _) (hr w) (by simp [hf])) hC
theorem tb_pure {φ : Prop} (hφ : ∀ w, St w0 w L → φ) (h : φ → TB P N w0 ops Q k0 S1 S2 n listed F L) : TB P N w0 ops Q k0 S1 S2 n listed F L := fun h12 a w hF hS hC => h (hφ w hS) h12 a w hF hS hC
end
end Go.Proofs.YtfcpmcdlgkfolaaDoor.E

namespace Go.Proofs.YtfcpmcdlgkfolaaDoor.Big
open Go.RowKit Go.Proofs.YtfcpmcdlgkfolaaDoor.E

abbrev nm0 : Nm := ⟨false, none, 0, 0, []⟩
def psel {α : Type} (L : List α) : List Nat → List α
  | [] => []
  | k :: ks => match pget L k with | some r => r :: psel L ks | none => psel L ks
section
variable {H D : List Nat} {l l' es : List Ent} {w w' : World} {b o k : Nat} {q q' : Nm}
theorem pget_append {α : Type} (M L : List α) (i : Nat) : pget (M ++ L) i = if i < M.length then pget M i else pget L (i - M.length) := by
  rw [pget_at, pget_at, pget_at, List.getElem?_append]
theorem pget_len {α : Type} {l : List α} {i : Nat} {r : α} (h : pget l i = some r) : i < l.length := by
  rw [pget_at] at h
  exact (List.getElem?_eq_some_iff.1 h).1
/-- Some of the first, in another order; what comes behind them stays. -/
theorem BagOk.pick {T : List Ent} (h : BagOk H D (l ++ T) w) (ks : List Nat) (hs : ks.map (pget l) = (psel l ks).map some) (hn : ks.Nodup) : BagOk H D (psel l ks ++ T) w := by
  have hlen : (psel l ks).length = ks.length := by simpa using (congrArg List.length hs).symm
  have key : ∀ (i : Nat) (r : Ent), pget (psel l ks) i = some r → ∃ k : Nat, ks[i]? = some k ∧ pget l k = some r := by
    intro i r hi
    rw [pget_at] at hi
    have h1 := congrArg (·[i]?) hs
    simp only [List.getElem?_map, hi, Option.map_some] at h1
    cases hk : ks[i]? with
    | none => rw [hk] at h1; simp at h1
    | some k => rw [hk] at h1; exact ⟨k, rfl, by simpa using h1⟩
  have hb : ∀ (i k : Nat), ks[i]? = some k → k < l.length := by
    intro i k hk
    have h1 := congrArg (·[i]?) hs
    simp only [List.getElem?_map, hk, Option.map_some] at h1
    cases h2 : (psel l ks)[i]? with
    | none => rw [h2] at h1; simp at h1
    | some r => rw [h2] at h1; exact pget_len (by simpa using h1)
  refine h.sub (fun i => match ks[i]? with | some k => k | none => i - ks.length + l.length) (fun i r hi => ?_) (fun i j r s hi hj he => ?_)
  · rw [pget_append] at hi
    split at hi
    · obtain ⟨k, hk, hr⟩ := key i r hi
      rw [hk]
      try dsimp only
      rw [pget_append, if_pos (pget_len hr)]
      exact hr
    · rename_i hge
      rw [List.getElem?_eq_none (by omega)]
      try dsimp only
      rw [pget_append, if_neg (by omega), ← hi, hlen]
      congr 1
      omega
  · cases h1 : ks[i]? with
    | none =>
      have hi1 := List.getElem?_eq_none_iff.1 h1
      cases h2 : ks[j]? with
      | none =>
        have hj1 := List.getElem?_eq_none_iff.1 h2
        rw [h1, h2] at he
        (try dsimp only at he)
        omega
      | some k2 =>
        have := hb j k2 h2
        rw [h1, h2] at he
        (try dsimp only at he)
        omega
    | some k1 =>
      have := hb i k1 h1
      cases h2 : ks[j]? with
      | none => rw [h1, h2] at he; dsimp only at he; omega
      | some k2 =>
        rw [h1, h2] at he
        (try dsimp only at he)
        subst he
        obtain ⟨hi2, hi3⟩ := List.getElem?_eq_some_iff.1 h1
        obtain ⟨hj2, hj3⟩ := List.getElem?_eq_some_iff.1 h2
        rcases Nat.lt_trichotomy i j with h3 | h3 | h3
        · exact absurd (hi3.trans hj3.symm) (List.pairwise_iff_getElem.1 hn i j hi2 hj2 h3)
        · exact h3
        · exact absurd (hj3.trans hi3.symm) (List.pairwise_iff_getElem.1 hn j i hj2 hi2 h3)
/-- A block of new numbers, noughts. -/
theorem BagOk.add {cs : Array Value} {T : TypeId} (h : BagOk H D l w) (hg : w.heap[b]? = some (.cells cs T (0, 0))) (hb : b ∉ H ++ D) (he : ∀ x ∈ es, x.b = b ∧ x.q = nm0 ∧ cs[x.o]? = some (.bool false) ∧ cs[x.o + 1]? = some (.slice none 0 0))
    (hap : ∀ i j x y, pget es i = some x → pget es j = some y → i ≠ j → x.o + 2 ≤ y.o ∨ y.o + 2 ≤ x.o) : BagOk (b :: H) D (es ++ l) w := by
  have hb' : b ∈ H ∨ b ∈ D → False := fun h => hb (List.mem_append.2 h)
  refine ⟨fun x hx => ?_, fun i j x y hi hj hne => ?_, fun c hc hc' => ?_⟩
  · rcases List.mem_append.1 hx with hx | hx
    · obtain ⟨h1, h2, h3, h4⟩ := he x hx
      exact ⟨by simp [h1], ⟨cs, T, by rw [h1]; exact hg, by rw [h2]; exact h3, by rw [h2]; exact h4⟩, fun a ha => (by rw [h2] at ha; cases ha), .inl (by rw [h2]; rfl)⟩
    · exact (h.ok x hx).keep rfl (fun _ _ => rfl) (fun _ h => List.mem_cons_of_mem _ h) (fun _ h => h)
  · rw [pget_append] at hi hj
    split at hi
    · have hx := he x (pget_mem _ hi)
      split at hj
      · have := hap i j x y hi hj hne
        exact .inr this
      · refine .inl fun e => hb' (.inl ?_)
        rw [← hx.1, e]
        exact (h.ok y (pget_mem _ hj)).hd
    · split at hj
      · have hy := he y (pget_mem _ hj)
        refine .inl fun e => hb' (.inl ?_)
        rw [← hy.1, ← e]
        exact (h.ok x (pget_mem _ hi)).hd
      · exact h.ap _ _ x y hi hj (by omega)
  · rcases List.mem_cons.1 hc with rfl | hc
    · exact hb' (.inr hc')
    · exact h.dj c hc hc'
end

section
variable {P : Program} {N : Nat} {w0 w : World} {F : Frm} {L : List Res} {d : Option Tmp} {x y : Operand} {v : Value} {ty t : TypeId} {pos : String} {af : Array Edge} {gd : Option (Nat × Bool)} {K : Frm → List Res → Prop} {H D : List Nat} {l : List Ent} {b o : Nat} {q : Nm} {i : Nat}
theorem St.bagadd {cs : Array Value} {T : TypeId} {es : List Ent} (hS : St w0 w L) (hi : lget L i = some (bag H D l)) (he : ∀ x ∈ es, x.b = w.heap.size ∧ x.q = nm0 ∧ cs[x.o]? = some (.bool false) ∧ cs[x.o + 1]? = some (.slice none 0 0))
    (hap : ∀ i j x y, pget es i = some x → pget es j = some y → i ≠ j → x.o + 2 ≤ y.o ∨ y.o + 2 ≤ x.o) : St w0 (w.alloc (.cells cs T)) (lset L i (bag (w.heap.size :: H) D (es ++ l))) := by
  have h1 := St.newblk (cs := cs) (T := T) hS
  have h2 := h1.merge (r := bag H D l) (s := blk w.heap.size cs.toList) (i := i + 1) (j := 0) (t := bag (w.heap.size :: H) D (es ++ l)) (by simpa [lget] using hi) rfl (by omega) (fun hr hs hd => hr.add (b := w.heap.size) (T := T) (heap_alloc_new w (.cells cs T)) (fun hm => hd _ hm (by simp [blk])) he hap) (fun c hc => by
    simp only [bag, List.cons_append, List.mem_cons] at hc
    rcases hc with rfl | hc
    · exact .inr (by simp [blk])
    · exact .inl hc)
  exact St.tail (by simpa [lset] using h2)
theorem oj_allocN (i : Nat) (hz : ∀ w, (zeroValue t).run P w = .ok (.agg #[.bool false, .slice none 0 0]) w) (hi : lget L i = some (bag H D l)) (h : ∀ b H', K (fput F d (.pointer (some ⟨b, 0, none⟩))) (lset L i (bag H' D (⟨b, 0, nm0⟩ :: l)))) : OpJ P N w0 F L ⟨d, .alloc t, ty, pos, af, gd⟩ K := fun a w hF hS => by
  have hr : (execOp a.eval ⟨d, .alloc t, ty, pos, af, gd⟩).run P w = .ok (.value (.pointer (some ⟨w.heap.size, 0, none⟩))) (w.alloc (.cells #[.bool false, .slice none 0 0] t)) := by
    simp [execOp, Instr.alloc, hz, newVar, newRow, newObj, run_new, Value.cells]
  unfold Oper.wp
  rw [hr]
  refine ⟨_, _, h w.heap.size (w.heap.size :: H), hF.put _ _, ?_⟩
  exact St.bagadd (es := [⟨w.heap.size, 0, nm0⟩]) hS hi (fun x hx => by simp only [List.mem_singleton] at hx; subst hx; exact ⟨rfl, rfl, rfl, rfl⟩) (fun i j x y hi hj hne => by
    have h1 := pget_len hi
    have h2 := pget_len hj
    simp only [List.length_singleton] at h1 h2
    omega)
theorem oj_allocR (i : Nat) (hz : ∀ w, (zeroValue t).run P w = .ok (.agg #[.bool false, .slice none 0 0, .bool false, .slice none 0 0]) w) (hi : lget L i = some (bag H D l)) (h : ∀ b H', K (fput F d (.pointer (some ⟨b, 0, none⟩))) (lset L i (bag H' D (⟨b, 0, nm0⟩ :: ⟨b, 2, nm0⟩ :: l)))) : OpJ P N w0 F L ⟨d, .alloc t, ty, pos, af, gd⟩ K := fun a w hF hS => by
  have hr : (execOp a.eval ⟨d, .alloc t, ty, pos, af, gd⟩).run P w = .ok (.value (.pointer (some ⟨w.heap.size, 0, none⟩))) (w.alloc (.cells #[.bool false, .slice none 0 0, .bool false, .slice none 0 0] t)) := by
    simp [execOp, Instr.alloc, hz, newVar, newRow, newObj, run_new, Value.cells]
  unfold Oper.wp
  rw [hr]
  refine ⟨_, _, h w.heap.size (w.heap.size :: H), hF.put _ _, ?_⟩
  exact St.bagadd (es := [⟨w.heap.size, 0, nm0⟩, ⟨w.heap.size, 2, nm0⟩]) hS hi (fun x hx => by
    simp only [List.mem_cons, List.not_mem_nil, or_false] at hx
    rcases hx with rfl | rfl <;> exact ⟨rfl, rfl, rfl, rfl⟩) (fun i j x y hi hj hne => by
    have h1 := pget_len hi
    have h2 := pget_len hj
    simp only [List.length_cons, List.length_nil] at h1 h2
    obtain rfl | rfl : i = 0 ∨ i = 1 := by omega
    · obtain rfl : j = 1 := by omega
      simp only [pget, Option.some.injEq] at hi hj
      subst hi hj
      exact .inl (by simp)
    · obtain rfl : j = 0 := by omega
      simp only [pget, Option.some.injEq] at hi hj
      subst hi hj
      exact .inr (by simp))

/-- What comes of a contract: where headers and digits lie, and a number. -/
structure B1 where
  H : List Nat
  D : List Nat
  q : Nm
structure B2 where
  H : List Nat
  D : List Nat
  q : Nm
  r : Nm
/-- A new number. -/
structure BN where
  b : Nat
  H : List Nat
  D : List Nat
  q : Nm
structure BR where
  b : Nat
  H : List Nat
  D : List Nat
  q : Nm
  r : Nm
section
variable {f : FuncId} {args : Array Value}
/-- A contract that turns one number, wherever it stands. -/
theorem lift1 {q0 : Nm} {p : Nm → Prop} {L : List Res} (i k : Nat) (hS : St w0 w L) (hi : lget L i = some (bag H D l)) (hk : pget l k = some ⟨b, o, q0⟩)
    (h : ∀ T l', (∀ e ∈ l, e ∈ (⟨b, o, q0⟩ : Ent) :: l') → St w0 w (bag H D (⟨b, o, q0⟩ :: l') :: T) → Calls P f args w fun e w' => ∃ r : B1, p r.q ∧ e = .returned v ∧ St w0 w' (bag r.H r.D (⟨b, o, r.q⟩ :: l') :: T)) :
    Calls P f args w fun e w' => ∃ r : B1, p r.q ∧ e = .returned v ∧ St w0 w' (lset L i (bag r.H r.D (pset l k ⟨b, o, r.q⟩))) := by
  have h1 := hS.less (k := i) (r' := bag H D (⟨b, o, q0⟩ :: pdel l k)) hi (fun hB => hB.front hk) (fun _ h => h)
  have h2 : lget (lset L i (bag H D (⟨b, o, q0⟩ :: pdel l k))) i = some (bag H D (⟨b, o, q0⟩ :: pdel l k)) := by rw [lget_lset, if_pos rfl, hi]; rfl
  have e : ∀ (M : List Res) (i : Nat) (r s : Res), lset (lset M i r) i s = lset M i s := by
    intro M
    induction M with
    | nil => intro i r s; rfl
    | cons x M ih => intro i r s; cases i with | zero => rfl | succ i => simp only [lset, ih]
  refine (h _ _ (front_mem hk) (h1.front h2)).mono fun e' w' ⟨r, hp, he, hS'⟩ => ⟨r, hp, he, ?_⟩
  have h3 := hS'.back h2
  rw [e] at h3
  have h4 := h3.less (k := i) (r := bag r.H r.D (⟨b, o, r.q⟩ :: pdel l k)) (r' := bag r.H r.D (pset l k ⟨b, o, r.q⟩)) (by rw [lget_lset, if_pos rfl, hi]; rfl) (fun hB => hB.back hk) (fun _ h => h)
  rwa [e] at h4
/-- A contract that turns two. -/
theorem lift2 {b' o' : Nat} {q0 r0 : Nm} {p : Nm → Nm → Prop} {L : List Res} (i k m : Nat) (hS : St w0 w L) (hi : lget L i = some (bag H D l)) (hk : pget l k = some ⟨b, o, q0⟩) (hm : pget l m = some ⟨b', o', r0⟩) (hkm : Nat.beq k m = false)
    (h : ∀ T l', (∀ e ∈ l, e ∈ (⟨b, o, q0⟩ : Ent) :: ⟨b', o', r0⟩ :: l') → St w0 w (bag H D (⟨b, o, q0⟩ :: ⟨b', o', r0⟩ :: l') :: T) → Calls P f args w fun e w' => ∃ r : B2, p r.q r.r ∧ e = .returned v ∧ St w0 w' (bag r.H r.D (⟨b, o, r.q⟩ :: ⟨b', o', r.r⟩ :: l') :: T)) :
    Calls P f args w fun e w' => ∃ r : B2, p r.q r.r ∧ e = .returned v ∧ St w0 w' (lset L i (bag r.H r.D (pset (pset l k ⟨b, o, r.q⟩) m ⟨b', o', r.r⟩))) := by
  have hkm' := Nat.ne_of_beq_eq_false hkm
  let m' := if m < k then m else m - 1
  have hm' : pget (pdel l k) m' = some ⟨b', o', r0⟩ := by
    rw [pget_pdel]
    by_cases h1 : m < k
    · simp only [m', if_pos h1]; exact hm
    · simp only [m', if_neg h1]
      rw [if_neg (by omega), show m - 1 + 1 = m by omega]
      exact hm
  have F1 : ∀ {H D l w}, BagOk H D l w → pget l k = some ⟨b, o, q0⟩ → pget (pdel l k) m' = some ⟨b', o', r0⟩ → BagOk H D (⟨b, o, q0⟩ :: ⟨b', o', r0⟩ :: pdel (pdel l k) m') w := by
    intro H D l w hB hk hm'
    have h1 := hB.front hk
    have h2 : pget ((⟨b, o, q0⟩ : Ent) :: pdel l k) (m' + 1) = some ⟨b', o', r0⟩ := hm'
    have h3 := h1.front h2
    exact h3.pick (l := [_, _]) [1, 0] rfl (by decide)
  have h1 := hS.less (k := i) (r' := bag H D (⟨b, o, q0⟩ :: ⟨b', o', r0⟩ :: pdel (pdel l k) m')) hi (fun hB => F1 hB hk hm') (fun _ h => h)
  have h2 : lget (lset L i (bag H D (⟨b, o, q0⟩ :: ⟨b', o', r0⟩ :: pdel (pdel l k) m'))) i = some (bag H D (⟨b, o, q0⟩ :: ⟨b', o', r0⟩ :: pdel (pdel l k) m')) := by rw [lget_lset, if_pos rfl, hi]; rfl
  have e : ∀ (M : List Res) (i : Nat) (r s : Res), lset (lset M i r) i s = lset M i s := by
    intro M
    induction M with
    | nil => intro i r s; rfl
    | cons x M ih => intro i r s; cases i with | zero => rfl | succ i => simp only [lset, ih]
  refine (h _ _ (fun y hy => ?_) (h1.front h2)).mono fun e' w' ⟨r, hp, he, hS'⟩ => ⟨r, hp, he, ?_⟩
  · rcases List.mem_cons.1 (front_mem hk y hy) with rfl | h3
    · exact List.mem_cons_self ..
    · exact List.mem_cons_of_mem _ (front_mem hm' y h3)
  have h3 := hS'.back h2
  rw [e] at h3
  have h4 := h3.less (k := i) (r := bag r.H r.D (⟨b, o, r.q⟩ :: ⟨b', o', r.r⟩ :: pdel (pdel l k) m')) (r' := bag r.H r.D (pset (pset l k ⟨b, o, r.q⟩) m ⟨b', o', r.r⟩)) (by rw [lget_lset, if_pos rfl, hi]; rfl) (fun hB => ?_) (fun _ h => h)
  · rwa [e] at h4
  have g1 := hB.pick (l := [_, _]) [1, 0] rfl (by decide)
  have g2 : BagOk r.H r.D (⟨b', o', r.r⟩ :: ⟨b, o, r.q⟩ :: pdel (pdel l k) m') w' := g1
  have g3 : BagOk r.H r.D (pset ((⟨b, o, r.q⟩ : Ent) :: pdel l k) (m' + 1) ⟨b', o', r.r⟩) w' := BagOk.back (k := m' + 1) (l := (⟨b, o, r.q⟩ : Ent) :: pdel l k) (x := ⟨b', o', r.r⟩) g2 (y := ⟨b', o', r0⟩) hm'
  have e3 : pset (pdel l k) m' ⟨b', o', r.r⟩ = pdel (pset l m ⟨b', o', r.r⟩) k := by
    apply List.ext_getElem?
    intro j
    rw [← pget_at, ← pget_at, pget_pset, hm', pget_pdel, pget_pdel, pget_pset, pget_pset, hm]
    simp only [pget_pdel, m']
    by_cases c1 : m < k
    · simp only [c1, if_true]
      by_cases c2 : j = m
      · subst c2; simp [c1]
      · by_cases c3 : j < k
        · simp [c2, c3]
        · simp [c2, c3, show j + 1 ≠ m by omega]
    · simp only [c1, if_false]
      by_cases c2 : j = m - 1
      · subst c2; simp [show ¬ m - 1 < k by omega, show m - 1 + 1 = m by omega]
      · by_cases c3 : j < k
        · simp [c2, c3, show j ≠ m by omega]
        · simp [c2, c3, show j + 1 ≠ m by omega]
  have g4 : BagOk r.H r.D (⟨b, o, r.q⟩ :: pdel (pset l m ⟨b', o', r.r⟩) k) w' := by rw [← e3]; exact g3
  have hk' : pget (pset l m ⟨b', o', r.r⟩) k = some ⟨b, o, q0⟩ := by rw [pget_pset, if_neg hkm', hk]
  have g5 := g4.back hk'
  have e4 : pset (pset l m ⟨b', o', r.r⟩) k ⟨b, o, r.q⟩ = pset (pset l k ⟨b, o, r.q⟩) m ⟨b', o', r.r⟩ := by
    apply List.ext_getElem?
    intro j
    rw [← pget_at, ← pget_at, pget_pset, pget_pset, pget_pset, pget_pset, pget_pset, pget_pset, if_neg hkm', if_neg (Ne.symm hkm'), hk, hm]
    by_cases c1 : j = k
    · subst c1; simp [hkm']
    · by_cases c2 : j = m
      · subst c2; simp [c1]
      · simp [c1, c2]
  rwa [e4] at g5
end
theorem bag_int {q : Nm} {z : Int} (hS : St w0 w L) (i : Nat) (hi : lget L i = some (bag H D l)) (hm : (⟨b, o, q⟩ : Ent) ∈ l) (hq : q.is z) : IntAt w b o z := by
  have h := (hS.holds i _ hi).ok _ hm
  obtain ⟨cs, T, hb, h1, h2⟩ := h.row
  have hf : ∀ o, w.frozen? ⟨b, o, none⟩ = false := fun o => by simp [World.frozen?, hb]
  exact ⟨q.neg, q.ds, ⟨⟨q.A, q.c, by rw [cell_of_row w b o cs T (0, 0) hb]; exact h1, by rw [cell_of_row w b (o + 1) cs T (0, 0) hb, hq.len]; exact h2, by rw [hq.len]; exact hq.cap, h.rd⟩, hq.dig, hf _, hf _⟩, hq.trim, hq.nz, hq.val⟩
theorem St.bagpick {es T : List Ent} (i : Nat) (hS : St w0 w L) (hi : lget L i = some (bag H D (es ++ T))) (ks : List Nat) (hs : ks.map (pget es) = (psel es ks).map some) (hn : ks.Nodup) : St w0 w (lset L i (bag H D (psel es ks ++ T))) :=
  hS.less hi (fun h => h.pick ks hs hn) (fun _ h => h)
end
end Go.Proofs.YtfcpmcdlgkfolaaDoor.Big
