/- Shifts to the right; division by one digit. -/
import Derived.Test.YtcpdelkamckmfaaBX
import Derived.Test.YtcpdelkamckmfaaKnN
import Derived.Test.YtcpdelkamckmfaaBG
namespace Go.Proofs.Ytcpdelkamckmfaa.Frac
open Go.RowKit Go.Proofs.Ytcpdelkamckmfaa.E Go.Proofs.Ytcpdelkamckmfaa.Big

section
variable {P : Program} {N : Nat} {w0 : World} {F : Frm} {L : List Res} {d : Option Tmp} {x y : Operand} {ty t t' : TypeId} {pos : String} {af : Array Edge} {gd : Option (Nat × Bool)} {K : Frm → List Res → Prop}
theorem oj_lit1 {e : Nat} {k : IntKind} {a : Int} (hu : P.underlying t = some (.slice e)) (hs : ∀ w, (sizeOf e).run P w = .ok 1 w) (hz : ∀ w, (zeroValue e).run P w = .ok (.int k 0) w) (hx : FE N F x (.int k a))
    (h : ∀ g, K (fput F d (.slice (some ⟨g, 0, none⟩) 1 1)) (vec e 1 (.slice (some ⟨g, 0, none⟩) 1 1) 1 [.int k a] :: L)) : OpJ P N w0 F L ⟨d, .buildSlice t 1 #[(0, x)], ty, pos, af, gd⟩ K := fun ac w hF hS => by
  have hfill : Instr.fill (fun i => some (i, 1)) ((Array.range 1).map ((Value.int k 0).cells[· % (Value.int k 0).cells.size]!)) [(0, .int k a)] = some #[.int k a] := by
    have h1 : (Array.range 1).map ((Value.int k 0).cells[· % (Value.int k 0).cells.size]!) = #[.int k 0] := by
      simp [show Array.range 1 = #[0] from rfl, Value.cells]
    rw [h1]
    simp [Instr.fill, Value.cells]
    try rfl
  have hr : (execOp ac.eval ⟨d, .buildSlice t 1 #[(0, x)], ty, pos, af, gd⟩).run P w = .ok (.value (.slice (some ⟨w.heap.size, 0, none⟩) 1 1)) (w.alloc (.cells #[.int k a] e)) := by
    simp [execOp, Instr.buildSlice, hx ac hF, run_underlying hu, hs, hz, hfill, newRow, newObj, run_new]
  unfold Oper.wp
  rw [hr]
  refine ⟨_, _, h w.heap.size, hF.put _ _, hS.add (alloc_new w _) ⟨rfl, .inr ⟨w.heap.size, 0, 1, #[.int k a], rfl, heap_alloc_new w _, Nat.le_refl _, by decide, by simp, by simp⟩⟩ (fun b hb => ?_)⟩
  simp only [vec, Value.ownBlock, Option.toList_some, List.mem_singleton] at hb
  subst hb
  exact ⟨Nat.le_refl _, by simp⟩
end
theorem u64_orw (a b r : Int) (h : bits .or .u64 a b = r) {P : Program} (w : World) : (Op.intBits .or .u64 a b).run P w = .ok (.int .u64 r) w := by
  simp only [Op.intBits]
  first | (rw [← h]; rfl) | simp [bits] at h ⊢
theorem shl32 {a : Int} (h0 : 0 ≤ a) (h1 : a < 4294967296) : IntKind.u64.wrap (a * 2 ^ (min (32 : Int).toNat IntKind.u64.bits)) = a * 4294967296 := by
  rw [show (2 : Int) ^ (min (32 : Int).toNat IntKind.u64.bits) = 4294967296 from by decide]
  exact IntWalk.u64_in _ (by omega)
/-- Division by one digit, all digits from k on being there. -/
structure OneInv (x zs : List Int) (V : Int) (k : Nat) (r : Int) : Prop where
  len : zs.length = x.length
  dg : Dig zs
  r0 : 0 ≤ r ∧ r < V
  val : dval (x.drop k) = V * dval (zs.drop k) + r
theorem one_start (x : List Int) {V : Int} (hV : 0 < V) : OneInv x (List.replicate x.length 0) V x.length 0 := by
  refine ⟨by simp, Dig.zeros _, by omega, ?_⟩
  rw [List.drop_eq_nil_of_le (Nat.le_refl _), List.drop_eq_nil_of_le (by simp)]
  simp [dval]
theorem one_step {x zs : List Int} {V r t : Int} {k : Nat} (h : OneInv x zs V (k + 1) r) (hx : Dig x) (hk : k < x.length) (hV : V ≤ 4294967296) (ht : t = x[k] + 4294967296 * r) :
    0 ≤ t ∧ t < 18446744073709551616 ∧ 0 ≤ t / V ∧ t / V < 4294967296 ∧ 0 ≤ t % V ∧ t % V < V ∧ OneInv x (zs.set k (t / V)) V k (t % V) := by
  obtain ⟨h1, h2, h3, h4⟩ := h
  have xk := hx.get hk
  have t0 : 0 ≤ t := by omega
  have q0 : 0 ≤ t / V := Int.ediv_nonneg t0 (by omega)
  have q1 : t / V < 4294967296 := by
    rw [Int.ediv_lt_iff_lt_mul (by omega)]
    have : 4294967296 * (r + 1) ≤ 4294967296 * V := by omega
    omega
  have m0 := Int.emod_nonneg t (show V ≠ 0 by omega)
  have m1 := Int.emod_lt_of_pos t (show 0 < V by omega)
  have mm := Int.mul_ediv_add_emod t V
  refine ⟨t0, by omega, q0, q1, m0, m1, by simpa using h1, h2.set _ ⟨q0, q1⟩, ⟨m0, m1⟩, ?_⟩
  rw [dval_top hk, dval_top (l := zs.set k (t / V)) (by (simp <;> omega)), List.getElem_set_self, h4]
  have e : (zs.set k (t / V)).drop (k + 1) = zs.drop (k + 1) := by rw [List.drop_set_of_lt (by omega)]
  rw [e]
  generalize t / V = q at *
  generalize t % V = m at *
  subst ht
  grind
theorem rd_pre {w : World} {A : Option Addr} {x : List Int} {m : Nat} (h : Rd w A (cU x)) : Rd w A (cU (x.take m)) := by
  rcases h with h | ⟨g, o, hA, hc⟩
  · refine .inl ?_
    have : x = [] := by simpa [cU] using h
    simp [this, cU]
  · refine .inr ⟨g, o, hA, fun j u hu => hc j u ?_⟩
    rw [cU, List.map_take, List.getElem?_take] at hu
    split at hu
    · exact hu
    · cases hu
/-- Digits shifted to the right, by fewer than 32. -/
def shr (m : Nat) : List Int → List Int
  | [] => []
  | a :: l => (a / 2 ^ m + (l.head?.getD 0 % 2 ^ m) * 2 ^ (32 - m)) :: shr m l
theorem shr_len (m : Nat) : ∀ l, (shr m l).length = l.length
  | [] => rfl
  | a :: l => by simp [shr, shr_len m l]
theorem two_split {m : Nat} (h : m ≤ 32) : (4294967296 : Int) = 2 ^ m * 2 ^ (32 - m) := by rw [← Int.pow_add, show m + (32 - m) = 32 by omega]; rfl
theorem shr_val {m : Nat} (hm : m ≤ 32) : ∀ l : List Int, dval (shr m l) = dval l / 2 ^ m
  | [] => by simp [shr, dval]
  | a :: l => by
    have p0 := two_pos m
    have e := two_split hm
    have hD : (a + 4294967296 * dval l) / 2 ^ m = a / 2 ^ m + 2 ^ (32 - m) * dval l := by rw [e, Int.mul_assoc, Int.add_mul_ediv_left _ _ (by omega)]
    rw [shr, dval, shr_val hm l, dval, hD, e]
    have h1 : l.head?.getD 0 % 2 ^ m = dval l % 2 ^ m := by
      cases l with
      | nil => rfl
      | cons b l => simp only [List.head?_cons, Option.getD_some, dval]; rw [e, Int.mul_assoc, Int.add_mul_emod_self_left]
    rw [h1]
    have h2 := Int.mul_ediv_add_emod (dval l) (2 ^ m)
    generalize dval l / 2 ^ m = Q at *
    generalize dval l % 2 ^ m = R at *
    rw [← h2]
    grind
theorem shr_dig {m : Nat} (hm : m ≤ 32) : ∀ l : List Int, Dig l → Dig (shr m l)
  | [], h => h
  | a :: l, h => by
    intro y hy
    rw [shr, List.mem_cons] at hy
    rcases hy with rfl | hy
    · have ha := h a (List.mem_cons_self ..)
      have p0 := two_pos m
      have p1 := two_pos (32 - m)
      have e := two_split hm
      have h1 : a / 2 ^ m < 2 ^ (32 - m) := by rw [Int.ediv_lt_iff_lt_mul p0, Int.mul_comm, ← e]; exact ha.2
      have h2 : 0 ≤ a / 2 ^ m := Int.ediv_nonneg ha.1 (by omega)
      have h3 := Int.emod_nonneg (l.head?.getD 0) (show (2 : Int) ^ m ≠ 0 by omega)
      have h4 := Int.emod_lt_of_pos (l.head?.getD 0) p0
      have h5 : 0 ≤ (l.head?.getD 0 % 2 ^ m) * 2 ^ (32 - m) := Int.mul_nonneg h3 (by omega)
      have h6 : (l.head?.getD 0 % 2 ^ m + 1) * 2 ^ (32 - m) ≤ 2 ^ m * 2 ^ (32 - m) := Int.mul_le_mul_of_nonneg_right (by omega) (by omega)
      rw [Int.add_mul, ← e] at h6
      omega
    · exact shr_dig hm l (fun z hz => h z (List.mem_cons_of_mem _ hz)) y hy
theorem shr_get (m : Nat) : ∀ (l : List Int) (k : Nat) (h : k < l.length), (shr m l)[k]'(by rw [shr_len]; exact h) = l[k] / 2 ^ m + ((l[k + 1]?).getD 0 % 2 ^ m) * 2 ^ (32 - m)
  | a :: l, 0, h => by cases l <;> simp [shr]
  | a :: l, k + 1, h => by simpa [shr] using shr_get m l k (by simpa using h)
/-- A shift to the right, as far as digit k. -/
def ShrInv (x zs : List Int) (m k : Nat) : Prop := zs.length = x.length ∧ ∀ j (h : j < zs.length) (h' : j < x.length), zs[j] = if j < k then (shr m x)[j]'(by rw [shr_len]; exact h') else 0
theorem shr_start (x : List Int) (m : Nat) : ShrInv x (List.replicate x.length 0) m 0 := ⟨by simp, fun j h h' => by simp⟩
theorem shr_next {x zs : List Int} {m k : Nat} (h : ShrInv x zs m k) (hk : k < x.length) {v : Int} (hv : v = (shr m x)[k]'(by rw [shr_len]; exact hk)) : ShrInv x (zs.set k v) m (k + 1) := by
  refine ⟨by simpa using h.1, fun j hj hj' => ?_⟩
  rw [List.getElem_set]
  by_cases e : k = j
  · subst e; rw [if_pos rfl, if_pos (by omega), hv]
  · rw [if_neg e, h.2 j (by simpa using hj) hj']
    by_cases h1 : j < k
    · rw [if_pos h1, if_pos (by omega)]
    · rw [if_neg h1, if_neg (by omega)]
theorem shr_end {x zs : List Int} {m k : Nat} (h : ShrInv x zs m k) (hk : x.length ≤ k) : zs = shr m x := by
  apply List.ext_getElem
  · rw [shr_len, h.1]
  · intro j h1 h2
    have h3 : j < x.length := by rw [← h.1]; exact h1
    rw [h.2 j h1 h3, if_pos (by omega)]
theorem shr_or {a b : Int} {m : Nat} (ha : 0 ≤ a ∧ a < 4294967296) (hb : 0 ≤ b ∧ b < 4294967296) (hm : 0 < m) (hm' : m < 32) : bits .or .u32 (a / 2 ^ m) ((b % 2 ^ m) * 2 ^ (32 - m)) = a / 2 ^ m + (b % 2 ^ m) * 2 ^ (32 - m) := by
  have p0 := two_pos m
  have p1 := two_pos (32 - m)
  have e := two_split (m := m) (by omega)
  have h1 : a / 2 ^ m < 2 ^ (32 - m) := by rw [Int.ediv_lt_iff_lt_mul p0, Int.mul_comm, ← e]; exact ha.2
  have h3 := Int.emod_nonneg b (show (2 : Int) ^ m ≠ 0 by omega)
  have h4 := Int.emod_lt_of_pos b p0
  have h5 : 0 ≤ (b % 2 ^ m) * 2 ^ (32 - m) := Int.mul_nonneg h3 (by omega)
  have h6 : (b % 2 ^ m + 1) * 2 ^ (32 - m) ≤ 2 ^ m * 2 ^ (32 - m) := Int.mul_le_mul_of_nonneg_right (by omega) (by omega)
  rw [Int.add_mul, ← e] at h6
  exact (or_add (Int.ediv_nonneg ha.1 (by omega)) h1 (by omega) h5 (by omega) (Int.mul_emod_left _ _)).1
theorem shl_part {a : Int} {m : Nat} (h0 : 0 ≤ a) (hm : 0 < m) (hm' : m < 32) : IntKind.u32.wrap (a * 2 ^ (min ((32 - m : Nat) : Int).toNat IntKind.u32.bits)) = (a % 2 ^ m) * 2 ^ (32 - m) := by
  rw [Int.toNat_natCast, show min (32 - m) IntKind.u32.bits = 32 - m from Nat.min_eq_left (by show 32 - m ≤ 32; omega), wrap_lo, two_split (m := m) (by omega), Int.mul_comm a, Int.mul_comm (2 ^ m), Int.mul_emod_mul_of_pos _ _ (two_pos _), Int.mul_comm]

theorem drop_div {x : List Int} {s : Nat} (hx : Dig x) (h : s / 32 ≤ x.length) : dval (x.drop (s / 32)) / 2 ^ (s % 32) = dval x / 2 ^ s := by
  obtain ⟨h1, h2, h3⟩ := dval_hi hx h
  have e : dval x / 2 ^ s = dval x / (pw (s / 32) * 2 ^ (s % 32)) := by
    rw [pw_two, ← Int.pow_add, Nat.div_add_mod]
  have p := pw_pos (s / 32)
  rw [e, ← Int.ediv_ediv_of_nonneg (by omega), h1, Int.add_mul_ediv_left _ _ (by omega), Int.ediv_eq_zero_of_lt h2 h3, Int.zero_add]

set_option maxRecDepth 100000 in
set_option maxHeartbeats 2000000 in
theorem shrE_0 (A : Option Addr) (c s : Nat) (x : List Int) (w : World) (hr : Rd w A (cU x)) (hx : Dig x) (n : Nat) (hn : x.length = n) (hc : n ≤ c) (lx : n ≤ 100000) (ls : s ≤ 1000) (hz : n ≤ s / 32) :
    Calls Try.prog 169 #[.slice A n c, .int .i64 (s : Int)] w fun e w' => ∃ p : Nm, (p.ds.length = p.n ∧ p.n ≤ p.c ∧ p.n ≤ 200000 ∧ Dig p.ds ∧ dval p.ds = dval x / 2 ^ s) ∧ e = .returned (.slice p.A p.n p.c) ∧ St w w' [p.d] := by
  refine calls_tr Try.func169 Try.ntmps169 rfl rfl (St.refl _) ?_
  refine tr_seq ?_
  refine tr_region ?_
  refine tl_step rfl (oj_val (y_assign fe_c) ?_)
  refine tl_nil ?_
  refine tx_then ?_
  refine tr_seq ?_
  refine tr_seq ?_
  refine tr_region ?_
  refine tl_step rfl (oj_val (y_move (fe_t rfl)) ?_)
  refine tl_step rfl (oj_val (y_as (b := ((s / 32 : Nat) : Int)) (y_quo (fe_t rfl) fe_c (by omega)) (by omega)) ?_)
  refine tl_step rfl (oj_val (y_move (fe_t rfl)) ?_)
  refine tl_step rfl (oj_val (y_len Try.underlying33 (fe_t rfl)) ?_)
  refine tl_step rfl (oj_val (y_geq (fe_t rfl) (fe_t rfl)) ?_)
  refine tl_nil ?_
  refine tx_then ?_
  refine tr_condp (fe_t rfl) (fun hq1 => ?_) (fun hq2 => ?_)
  · refine tr_seq ?_
    refine tr_region ?_
    refine tl_step rfl (oj_val (y_assign fe_c) ?_)
    refine tl_nil ?_
    refine tx_then ?_
    refine tr_ret ?_
    refine tx_then_ret ?_
    refine tx_ret (res1 Try.results169 (rok_t rfl)) (fun w' hS => ?_)
    refine ⟨⟨false, none, 0, 0, []⟩, ⟨rfl, Nat.le_refl _, by dsimp only; omega, Dig.nil, ?_⟩, rfl, ?_⟩
    · have h1 := dval_lt hx
      have h0 := dval_nonneg hx
      rw [pw_two, hn] at h1
      have h2 := two_mono (a := 32 * n) (b := s) (by omega)
      rw [Int.ediv_eq_zero_of_lt h0 (by omega)]; rfl
    · exact (hS.pick [] [] rfl (by decide)).add (Below.refl _ _) (vec_nil _) (by simp [vec, Value.ownBlock])
  · exfalso; omega

set_option maxRecDepth 100000 in
set_option maxHeartbeats 2000000 in
theorem shrE_1 (A : Option Addr) (c s : Nat) (x : List Int) (w : World) (hr : Rd w A (cU x)) (hx : Dig x) (n : Nat) (hn : x.length = n) (hc : n ≤ c) (lx : n ≤ 100000) (ls : s ≤ 1000) (hz : s / 32 < n) :
    Calls Try.prog 169 #[.slice A n c, .int .i64 (s : Int)] w fun e w' => ∃ p : Nm, (p.ds.length = p.n ∧ p.n ≤ p.c ∧ p.n ≤ 200000 ∧ Dig p.ds ∧ dval p.ds = dval x / 2 ^ s) ∧ e = .returned (.slice p.A p.n p.c) ∧ St w w' [p.d] := by
  have hr2 : Rd w (cutA A (s / 32) c 1) (cU (x.drop (s / 32))) := rd_dropI hr hn (by omega) hc
  refine calls_tr Try.func169 Try.ntmps169 rfl rfl (St.refl _) ?_
  refine tr_seq ?_
  refine tr_region ?_
  refine tl_step rfl (oj_val (y_assign fe_c) ?_)
  refine tl_nil ?_
  refine tx_then ?_
  refine tr_seq ?_
  refine tr_seq ?_
  refine tr_region ?_
  refine tl_step rfl (oj_val (y_move (fe_t rfl)) ?_)
  refine tl_step rfl (oj_val (y_as (b := ((s / 32 : Nat) : Int)) (y_quo (fe_t rfl) fe_c (by omega)) (by omega)) ?_)
  refine tl_step rfl (oj_val (y_move (fe_t rfl)) ?_)
  refine tl_step rfl (oj_val (y_len Try.underlying33 (fe_t rfl)) ?_)
  refine tl_step rfl (oj_val (y_geq (fe_t rfl) (fe_t rfl)) ?_)
  refine tl_nil ?_
  refine tx_then ?_
  refine tr_condp (fe_t rfl) (fun hq1 => ?_) (fun hq2 => ?_)
  · exfalso; omega
  · refine tr_skip ?_
    refine tx_then ?_
    refine tr_seq ?_
    refine tr_region ?_
    refine tl_step rfl (oj_val (y_move (fe_t rfl)) ?_)
    refine tl_step rfl (oj_val (y_move (fe_t rfl)) ?_)
    refine tl_step rfl (oj_val (y_as (b := ((s / 32 : Nat) : Int)) (y_quo (fe_t rfl) fe_c (by omega)) (by omega)) ?_)
    refine tl_step rfl (oj_val (y_cutL Try.underlying33 Try.sizeOf153 (fe_t rfl) (fe_t rfl) (by omega)) ?_)
    refine tl_step rfl (oj_val (y_assign (fe_t rfl)) ?_)
    refine tl_nil ?_
    refine tx_then ?_
    refine tr_seq ?_
    refine tr_region ?_
    refine tl_step rfl (oj_val (y_move (fe_t rfl)) ?_)
    refine tl_step rfl (oj_val (y_len Try.underlying33 (fe_t rfl)) ?_)
    refine tl_step rfl (oj_make (n := n - s / 32) (z := (.int .u32 0)) (bytes := 4) Try.underlying33 (by kernel_rfl) (fe_t rfl) (fe_t rfl) rfl ⟨by omega, by decide⟩ (fun gnv => ?_))
    refine tl_step rfl (oj_val (y_assign (fe_t rfl)) ?_)
    refine tl_nil ?_
    refine tx_then ?_
    refine tr_seq ?_
    refine tr_seq ?_
    refine tr_region ?_
    refine tl_step rfl (oj_val (y_move (fe_t rfl)) ?_)
    refine tl_step rfl (oj_val (y_len Try.underlying33 (fe_t rfl)) ?_)
    refine tl_step rfl (oj_val (y_move fe_c) ?_)
    refine tl_nil ?_
    refine tx_then ?_
    refine tr_block ?_
    refine tr_loop3 [6, 7, 22, 23, 24, 25, 26, 27, 28, 29, 30, 31, 32, 33, 34, 35, 36, 37, 38, 39, 40, 41, 42, 43, 44, 45, 46, 47, 48, 49, 50, 51, 52, 53, 54, 55, 56, 57, 58, 59] (fun (k : Nat) (zs : List Int) (vx : List Value) => [(22, .int .i64 (k : Int))]) 0 (fun (k : Nat) (zs : List Int) (vx : List Value) => [(0, vec 153 1 (.slice (some ⟨gnv, 0, none⟩) (n - s / 32) (n - s / 32)) (n - s / 32) vx)]) (fun (k : Nat) (zs : List Int) (vx : List Value) => k ≤ (n - s / 32) ∧ vx = cU zs ∧ ShrInv (x.drop (s / 32)) zs (s % 32) k) (fun (k : Nat) (zs : List Int) (vx : List Value) => (n - s / 32) - k) (0) (List.replicate (x.drop (s / 32)).length 0) (List.replicate (n - s / 32) (.int .u32 0)) (cov_cons (by first | rfl | exact v_int (by omega) | exact v_bool (by simp [*])) (cov_nil)) (fun w h => h) ?_ ?_
    · try dsimp only
      exact ⟨by omega, by simp [cU]; omega, shr_start _ _⟩
    intro k zs vx hp
    obtain ⟨hk, hvx, hinv⟩ := hp
    have hzl : zs.length = n - s / 32 := by rw [hinv.1]; simp; omega
    refine tr_seq ?_
    refine tr_region ?_
    refine tl_step rfl (oj_val (y_lss (fe_t rfl) (fe_t rfl)) ?_)
    refine tl_nil ?_
    refine tx_then ?_
    refine tr_seq ?_
    refine tr_condp (fe_t rfl) (fun hq3 => ?_) (fun hq4 => ?_)
    · refine tr_skip ?_
      refine tx_then ?_
      refine tr_seq ?_
      refine tr_block ?_
      refine tr_seq ?_
      refine tr_region ?_
      refine tl_step rfl (oj_val (y_move (fe_t rfl)) ?_)
      refine tl_step rfl (oj_val (y_index Try.underlying33 Try.sizeOf153 (fe_t rfl) (fe_t rfl) (rdl_out hr2) (by rw [cU_len]; simp; omega) (by decide) (by omega) (Nat.mul_one _)) ?_)
      refine tl_step rfl (oj_val (y_ld (v := .int .u32 ((x.drop (s / 32))[k]'(by (simp <;> omega)))) Try.isAgg153 (fe_t rfl) (rdl_out hr2) (cU_get (by (simp <;> omega)))) ?_)
      refine tl_step rfl (oj_val (y_assign (fe_t rfl)) ?_)
      refine tl_step rfl (oj_val (y_assign (fe_t rfl)) ?_)
      refine tl_nil ?_
      refine tx_then ?_
      refine tr_seq ?_
      have hxd := (hx.drop (s / 32)).get (k := k) (by (simp <;> omega))
      have hsg := shr_get (s % 32) (x.drop (s / 32)) k (by (simp <;> omega))
      have hp2 := two_pos (s % 32)
      have hd0 : 0 ≤ (x.drop (s / 32))[k]'(by (simp <;> omega)) / 2 ^ (s % 32) := Int.ediv_nonneg hxd.1 (by omega)
      have hd1 : (x.drop (s / 32))[k]'(by (simp <;> omega)) / 2 ^ (s % 32) ≤ (x.drop (s / 32))[k]'(by (simp <;> omega)) := Int.ediv_le_self _ hxd.1
      refine tr_region ?_
      refine tl_step rfl (oj_val (y_move (fe_t rfl)) ?_)
      refine tl_step rfl (oj_val (y_move (fe_t rfl)) ?_)
      refine tl_step rfl (oj_val (y_move (fe_t rfl)) ?_)
      refine tl_step rfl (oj_val (y_move (fe_t rfl)) ?_)
      refine tl_step rfl (oj_val (y_as (b := ((s % 32 : Nat) : Int)) (y_rem (fe_t rfl) fe_c (by omega)) (by omega)) ?_)
      refine tl_step rfl (oj_val (y_as (y_shr (fe_t rfl) (fe_t rfl) (by omega)) (shr_at hxd (by omega))) ?_)
      refine tl_step rfl (oj_val (y_index Try.underlying33 Try.sizeOf153 (fe_t rfl) (fe_t rfl) (rdl_vec 0 rfl) (by first | (rw [hvx, cU_len]; omega) | (rw [hvx, List.length_set, cU_len]; omega)) (by decide) (by omega) (Nat.mul_one _)) ?_)
      refine tl_step rfl (oj_storeE1 (i := 0) Try.sizeOf153 (fe_t rfl) (fe_t rfl) rfl rfl rfl (by omega) (?_))
      refine tl_nil ?_
      refine tx_then ?_
      refine tr_seq ?_
      refine tr_region ?_
      refine tl_step rfl (oj_val (y_move (fe_t rfl)) ?_)
      refine tl_step rfl (oj_val (y_inc (fe_t rfl) fe_c (by omega)) ?_)
      refine tl_step rfl (oj_val (y_move (fe_t rfl)) ?_)
      refine tl_step rfl (oj_val (y_len Try.underlying33 (fe_t rfl)) ?_)
      refine tl_step rfl (oj_val (y_lss (fe_t rfl) (fe_t rfl)) ?_)
      refine tl_step rfl (oj_val (y_move (fe_t rfl)) ?_)
      refine tl_splitp (d := 39) rfl (fun hq5 => ?_) (fun hq6 => ?_)
      · refine tl_want rfl rfl rfl (oj_val (y_move (fe_t rfl)) ?_)
        refine tl_want rfl rfl rfl (oj_val (y_as (b := ((s % 32 : Nat) : Int)) (y_rem (fe_t rfl) fe_c (by omega)) (by omega)) ?_)
        refine tl_want rfl rfl rfl (oj_val (y_gtr (fe_t rfl) fe_c) ?_)
        refine tl_step rfl (oj_val (y_pickt (fe_t rfl) (fe_t rfl)) ?_)
        refine tl_nil ?_
        refine tx_then ?_
        refine tr_condp (fe_t rfl) (fun hq7 => ?_) (fun hq8 => ?_)
        · have hxe := (hx.drop (s / 32)).get (k := k + 1) (by (simp <;> omega))
          have hor := (shr_or hxd hxe (m := s % 32) (by omega) (by omega)).trans (show _ = ((shr (s % 32) (x.drop (s / 32)))[k]'(by rw [shr_len]; simp; omega)) by rw [hsg, List.getElem?_eq_getElem (by (simp <;> omega)), Option.getD_some])
          have hsv : ((shr (s % 32) (x.drop (s / 32)))[k]'(by rw [shr_len]; simp; omega)) = ((shr (s % 32) (x.drop (s / 32)))[k]'(by rw [shr_len]; simp; omega)) := rfl
          refine tb_draw 15 (sel _ []) (fun w h => h.sel _ rfl (by decide)) rfl ?_
          refine tb_float (i := 0) rfl (by kernel_rfl) rfl (wants_none rfl) (yq_of (y_move (fe_t rfl))) ?_
          refine tb_float (i := 1) rfl (by kernel_rfl) rfl (wants_none rfl) (yq_of (y_move (fe_t rfl))) ?_
          refine tb_float1 (i := 2) rfl (by kernel_rfl) (by kernel_rfl) rfl (wants_none rfl) (yq_of (y_index Try.underlying33 Try.sizeOf153 (fe_t rfl) (fe_t rfl) (rdl_vec 0 rfl) (by first | (rw [hvx, cU_len]; omega) | (rw [hvx, List.length_set, cU_len]; omega)) (by decide) (by omega) (Nat.mul_one _))) ?_
          refine tb_float1 (i := 3) rfl (by kernel_rfl) (by kernel_rfl) rfl (wants_none rfl) (yq_of (y_ld Try.isAgg153 (fe_t rfl) (rdl_vec 0 rfl) (set_get (by rw [hvx, cU_len]; omega)))) ?_
          refine tb_float (i := 4) rfl (by kernel_rfl) rfl (wants_none rfl) (yq_of (y_move (fe_t rfl))) ?_
          refine tb_float (i := 5) rfl (by kernel_rfl) rfl (wants_none rfl) (yq_of (y_move (fe_t rfl))) ?_
          refine tb_float (i := 6) rfl (by kernel_rfl) rfl (wants_none rfl) (yq_of (y_inc (fe_t rfl) fe_c (by omega))) ?_
          refine tb_float (i := 7) rfl (by kernel_rfl) rfl (wants_none rfl) (yq_of (y_index Try.underlying33 Try.sizeOf153 (fe_t rfl) (fe_t rfl) (rdl_out hr2) (by rw [cU_len]; simp; omega) (by decide) (by omega) (Nat.mul_one _))) ?_
          refine tb_float (i := 8) rfl (by kernel_rfl) rfl (wants_none rfl) (yq_of (y_ld (v := .int .u32 ((x.drop (s / 32))[k + 1]'(by (simp <;> omega)))) Try.isAgg153 (fe_t rfl) (rdl_out hr2) (cU_get (by (simp <;> omega))))) ?_
          refine tb_float (i := 9) rfl (by kernel_rfl) rfl (wants_none rfl) (yq_of (y_move (fe_t rfl))) ?_
          refine tb_float (i := 10) rfl (by kernel_rfl) rfl (wants_none rfl) (yq_of (y_as (b := ((s % 32 : Nat) : Int)) (y_rem (fe_t rfl) fe_c (by omega)) (by omega))) ?_
          refine tb_float (i := 11) rfl (by kernel_rfl) rfl (wants_none rfl) (yq_of (y_as (b := ((32 - s % 32 : Nat) : Int)) (y_sub fe_c (fe_t rfl) (by omega)) (by omega))) ?_
          refine tb_float (i := 12) rfl (by kernel_rfl) rfl (wants_none rfl) (yq_of (y_as (y_shl (fe_t rfl) (fe_t rfl) (by omega)) (shl_part hxe.1 (by omega) (by omega)))) ?_
          refine tb_float (i := 13) rfl (by kernel_rfl) rfl (wants_none rfl) (yq_of (y_bits (.inr (.inl rfl)) (fe_t rfl) (fe_t rfl) (fun w => u32_orw _ _ _ hor w))) ?_
          refine tb_float1 (i := 14) rfl (by kernel_rfl) (by kernel_rfl) rfl (wants_none rfl) (yq_of (y_index Try.underlying33 Try.sizeOf153 (fe_t rfl) (fe_t rfl) (rdl_vec 0 rfl) (by first | (rw [hvx, cU_len]; omega) | (rw [hvx, List.length_set, cU_len]; omega)) (by decide) (by omega) (Nat.mul_one _))) ?_
          refine tb_one2 (i := 15) rfl (by kernel_rfl) (by kernel_rfl) (wants_none rfl) (oj_storeE1 (i := 0) Try.sizeOf153 (fe_t rfl) (fe_t rfl) rfl rfl rfl (by omega) (⟨fun w h => h.pick [] _ rfl (by decide), ?_⟩))
          refine tb_done (by kernel_rfl) ?_
          refine tx_in ?_
          refine tx_then ?_
          refine tr_region ?_
          refine tl_step rfl (oj_val (y_inc (fe_t rfl) fe_c (by omega)) ?_)
          refine tl_step rfl (oj_val (y_move (fe_t rfl)) ?_)
          refine tl_nil ?_
          apply tx_back3 (k + 1) (zs.set k ((shr (s % 32) (x.drop (s / 32)))[k]'(by rw [shr_len]; simp; omega))) (_)
          · exact (cov_cons (by first | rfl | exact v_int (by omega) | exact v_bool (by simp [*])) (cov_nil))
          · repeat (first | exact over_nil | refine over_put rfl ?_ | refine over_drop rfl ?_)
          · exact fun w h => h.pick [0] _ rfl (by decide)
          · refine ⟨⟨by omega, ?_, shr_next hinv (by (simp <;> omega)) rfl⟩, by omega⟩
            rw [hvx, cU, cU, List.map_set]
            try rw [List.set_set]
            all_goals congr 2
            all_goals first | exact hsv | exact hsv.symm
        · refine tr_skip ?_
          refine tx_in ?_
          refine tx_then ?_
          have hsv : (x.drop (s / 32))[k]'(by (simp <;> omega)) / 2 ^ (s % 32) = ((shr (s % 32) (x.drop (s / 32)))[k]'(by rw [shr_len]; simp; omega)) := by
            rw [hsg]
            by_cases hm0 : s % 32 = 0
            · rw [hm0]; simp
            · rw [List.getElem?_eq_none (by (simp <;> omega))]; simp
          refine tr_region ?_
          refine tl_step rfl (oj_val (y_inc (fe_t rfl) fe_c (by omega)) ?_)
          refine tl_step rfl (oj_val (y_move (fe_t rfl)) ?_)
          refine tl_nil ?_
          apply tx_back3 (k + 1) (zs.set k ((shr (s % 32) (x.drop (s / 32)))[k]'(by rw [shr_len]; simp; omega))) (_)
          · exact (cov_cons (by first | rfl | exact v_int (by omega) | exact v_bool (by simp [*])) (cov_nil))
          · repeat (first | exact over_nil | refine over_put rfl ?_ | refine over_drop rfl ?_)
          · exact fun w h => h.pick [0] _ rfl (by decide)
          · refine ⟨⟨by omega, ?_, shr_next hinv (by (simp <;> omega)) rfl⟩, by omega⟩
            rw [hvx, cU, cU, List.map_set]
            try rw [List.set_set]
            all_goals congr 2
            all_goals first | exact hsv | exact hsv.symm
      · refine tl_skip rfl rfl rfl rfl ?_
        refine tl_skip rfl rfl rfl rfl ?_
        refine tl_skip rfl rfl rfl rfl ?_
        refine tl_step rfl (oj_val (y_pickf (fe_t rfl) fe_c) ?_)
        refine tl_nil ?_
        refine tx_then ?_
        refine tr_condf (fe_t rfl) ?_
        refine tr_skip ?_
        refine tx_in ?_
        refine tx_then ?_
        have hsv : (x.drop (s / 32))[k]'(by (simp <;> omega)) / 2 ^ (s % 32) = ((shr (s % 32) (x.drop (s / 32)))[k]'(by rw [shr_len]; simp; omega)) := by
          rw [hsg]
          by_cases hm0 : s % 32 = 0
          · rw [hm0]; simp
          · rw [List.getElem?_eq_none (by (simp <;> omega))]; simp
        refine tr_region ?_
        refine tl_step rfl (oj_val (y_inc (fe_t rfl) fe_c (by omega)) ?_)
        refine tl_step rfl (oj_val (y_move (fe_t rfl)) ?_)
        refine tl_nil ?_
        apply tx_back3 (k + 1) (zs.set k ((shr (s % 32) (x.drop (s / 32)))[k]'(by rw [shr_len]; simp; omega))) (_)
        · exact (cov_cons (by first | rfl | exact v_int (by omega) | exact v_bool (by simp [*])) (cov_nil))
        · repeat (first | exact over_nil | refine over_put rfl ?_ | refine over_drop rfl ?_)
        · exact fun w h => h.pick [0] _ rfl (by decide)
        · refine ⟨⟨by omega, ?_, shr_next hinv (by (simp <;> omega)) rfl⟩, by omega⟩
          rw [hvx, cU, cU, List.map_set]
          try rw [List.set_set]
          all_goals congr 2
          all_goals first | exact hsv | exact hsv.symm
    · refine tr_exit ?_
      refine tx_then_exit ?_
      refine tx_then_exit ?_
      refine tx_in_exit ?_
      refine tx_then ?_
      refine tr_seq ?_
      refine tr_region ?_
      refine tl_step rfl (oj_val (y_move (fe_t rfl)) ?_)
      refine tl_step rfl (oj_val (y_assign (fe_t rfl)) ?_)
      refine tl_nil ?_
      refine tx_then ?_
      refine tr_ret ?_
      refine tx_ret (res1 Try.results169 (rok_t rfl)) (fun w' hS => ?_)
      have he := shr_end hinv (by (simp <;> omega))
      rw [hvx, he] at hS
      exact ⟨⟨false, some ⟨gnv, 0, none⟩, n - s / 32, n - s / 32, shr (s % 32) (x.drop (s / 32))⟩, ⟨by dsimp only; rw [shr_len]; simp; omega, Nat.le_refl _, by dsimp only; omega, shr_dig (by omega) _ (hx.drop _), by dsimp only; rw [shr_val (by omega)]; exact drop_div hx (by omega)⟩, rfl, hS.pick [0] _ rfl (by decide)⟩

theorem shrE (A : Option Addr) (c s : Nat) (x : List Int) (w : World) (hr : Rd w A (cU x)) (hx : Dig x) (n : Nat) (hn : x.length = n) (hc : n ≤ c) (lx : n ≤ 100000) (ls : s ≤ 1000) :
    Calls Try.prog 169 #[.slice A n c, .int .i64 (s : Int)] w fun e w' => ∃ p : Nm, (p.ds.length = p.n ∧ p.n ≤ p.c ∧ p.n ≤ 200000 ∧ Dig p.ds ∧ dval p.ds = dval x / 2 ^ s) ∧ e = .returned (.slice p.A p.n p.c) ∧ St w w' [p.d] := by
  by_cases hz : n ≤ s / 32
  · exact shrE_0 A c s x w hr hx n hn hc lx ls hz
  · exact shrE_1 A c s x w hr hx n hn hc lx ls (by omega)

set_option maxRecDepth 100000 in
set_option maxHeartbeats 2000000 in
theorem parts_one (A A' : Option Addr) (c c' : Nat) (x : List Int) (v : Int) (w : World) (hr : Rd w A (cU x)) (hr' : Rd w A' (cU [v])) (hx : Dig x) (hv : 0 < v ∧ v < 4294967296) (n : Nat) (hn : x.length = n) (lx : n ≤ 100000) :
    Calls Try.prog 172 #[.slice A n c, .slice A' 1 c'] w fun e w' => ∃ p : Nm × Nm, ((p.1.ds.length = p.1.n ∧ p.1.n ≤ p.1.c ∧ p.1.n ≤ 200000 ∧ Dig p.1.ds) ∧ (p.2.ds.length = p.2.n ∧ p.2.n ≤ p.2.c ∧ p.2.n ≤ 200000 ∧ Dig p.2.ds) ∧ dval p.1.ds = dval x / dval [v] ∧ dval p.2.ds = dval x % dval [v]) ∧ e = .returned (.tuple #[.slice p.1.A p.1.n p.1.c, .slice p.2.A p.2.n p.2.c]) ∧ St w w' [p.1.d, p.2.d] := by
  refine calls_tr Try.func172 Try.ntmps172 rfl rfl (St.refl _) ?_
  refine tr_seq ?_
  refine tr_region ?_
  refine tl_step rfl (oj_val (y_assign fe_c) ?_)
  refine tl_step rfl (oj_val (y_assign fe_c) ?_)
  refine tl_nil ?_
  refine tx_then ?_
  refine tr_seq ?_
  refine tr_seq ?_
  refine tr_region ?_
  refine tl_step rfl (oj_val (y_move (fe_t rfl)) ?_)
  refine tl_step rfl (oj_val (y_len Try.underlying33 (fe_t rfl)) ?_)
  refine tl_step rfl (oj_val (y_eq (fe_t rfl) fe_c) ?_)
  refine tl_nil ?_
  refine tx_then ?_
  refine tr_condp (fe_t rfl) (fun hq1 => ?_) (fun hq2 => ?_)
  · refine tr_seq ?_
    refine tr_region ?_
    refine tl_step rfl (oj_val (y_move (fe_t rfl)) ?_)
    refine tl_step rfl (oj_val (y_len Try.underlying33 (fe_t rfl)) ?_)
    refine tl_step rfl (oj_make (n := n) (z := (.int .u32 0)) (bytes := 4) Try.underlying33 (by kernel_rfl) (fe_t rfl) (fe_t rfl) rfl ⟨by omega, by decide⟩ (fun gnv => ?_))
    refine tl_step rfl (oj_val (y_assign (fe_t rfl)) ?_)
    refine tl_step rfl (oj_val (y_assign fe_c) ?_)
    refine tl_nil ?_
    refine tx_then ?_
    refine tr_seq ?_
    refine tr_seq ?_
    refine tr_region ?_
    refine tl_step rfl (oj_val (y_move (fe_t rfl)) ?_)
    refine tl_step rfl (oj_val (y_len Try.underlying33 (fe_t rfl)) ?_)
    refine tl_step rfl (oj_val (y_as (b := (n : Int) - 1) (y_sub (fe_t rfl) fe_c (by omega)) rfl) ?_)
    refine tl_step rfl (oj_val (y_assign (fe_t rfl)) ?_)
    refine tl_nil ?_
    refine tx_then ?_
    refine tr_block ?_
    refine tr_loop4 [7, 8, 35, 36, 37, 38, 39, 40, 41, 42, 43, 44, 45, 46, 47, 48, 49, 50, 51, 52, 53, 54, 55, 56, 57, 58, 59, 60, 61, 62] (fun (k : Nat) (zs : List Int) (r : Int) (vx : List Value) => [(8, .int .i64 ((k : Int) - 1)), (7, .int .u64 r)]) 0 (fun (k : Nat) (zs : List Int) (r : Int) (vx : List Value) => [(0, vec 153 1 (.slice (some ⟨gnv, 0, none⟩) n n) n vx)]) (fun (k : Nat) (zs : List Int) (r : Int) (vx : List Value) => k ≤ n ∧ vx = cU zs ∧ OneInv x zs v k r) (fun (k : Nat) (zs : List Int) (r : Int) (vx : List Value) => k) (n) (List.replicate x.length 0) (0) (List.replicate n (.int .u32 0)) (cov_cons (by first | rfl | exact v_int (by omega) | exact v_bool (by simp [*])) (cov_cons (by first | rfl | exact v_int (by omega) | exact v_bool (by simp [*])) (cov_nil))) (fun w h => h) ?_ ?_
    · try dsimp only
      exact ⟨Nat.le_refl _, by simp [cU]; omega, hn ▸ one_start x hv.1⟩
    intro k zs r vx hp
    obtain ⟨hk, hvx, hinv⟩ := hp
    have hzl := hinv.len
    refine tr_seq ?_
    refine tr_seq ?_
    refine tr_region ?_
    refine tl_step rfl (oj_val (y_move (fe_t rfl)) ?_)
    refine tl_step rfl (oj_val (y_geq (fe_t rfl) fe_c) ?_)
    refine tl_nil ?_
    refine tx_then ?_
    refine tr_condp (fe_t rfl) (fun hq3 => ?_) (fun hq4 => ?_)
    · refine tr_skip ?_
      refine tx_then ?_
      refine tr_seq ?_
      refine tr_block ?_
      refine tr_seq ?_
      have hr0 := hinv.r0
      have hxk := hx.get (k := k - 1) (by omega)
      obtain ⟨t0, t1, q0, q1, m0, m1, hnx⟩ := one_step (k := k - 1) (by rwa [show k - 1 + 1 = k by omega]) hx (by omega) (by omega) rfl
      refine tr_region ?_
      refine tl_step rfl (oj_val (y_move (fe_t rfl)) ?_)
      refine tl_step rfl (oj_val (y_as (y_shl (fe_t rfl) fe_c (by decide)) (shl32 (by omega) (by omega))) ?_)
      refine tl_step rfl (oj_val (y_move (fe_t rfl)) ?_)
      refine tl_step rfl (oj_val (y_as (b := ((k - 1 : Nat) : Int)) (y_move (fe_t rfl)) (by omega)) ?_)
      refine tl_step rfl (oj_val (y_index Try.underlying33 Try.sizeOf153 (fe_t rfl) (fe_t rfl) (rdl_out hr) (by rw [cU_len]; omega) (by decide) (by omega) (Nat.mul_one _)) ?_)
      refine tl_step rfl (oj_val (y_ld (v := .int .u32 (x[k - 1]'(by omega))) Try.isAgg153 (fe_t rfl) (rdl_out hr) (cU_get (by omega))) ?_)
      refine tl_step rfl (oj_val (y_convi Try.underlying153 Try.underlying41 (fe_t rfl) (IntWalk.u64_in _ (by omega))) ?_)
      refine tl_step rfl (oj_val (y_bits (.inr (.inl rfl)) (fe_t rfl) (fe_t rfl) (fun w => u64_orw _ _ _ (or_dig (by omega) (by omega) hxk.1 hxk.2) w)) ?_)
      refine tl_step rfl (oj_val (y_assign (fe_t rfl)) ?_)
      refine tl_nil ?_
      refine tx_then ?_
      refine tr_seq ?_
      refine tr_region ?_
      refine tl_step rfl (oj_val (y_move (fe_t rfl)) ?_)
      refine tl_step rfl (oj_val (y_as (b := ((k - 1 : Nat) : Int)) (y_move (fe_t rfl)) (by omega)) ?_)
      refine tl_step rfl (oj_val (y_move (fe_t rfl)) ?_)
      refine tl_step rfl (oj_val (y_move (fe_t rfl)) ?_)
      refine tl_step rfl (oj_val (y_indexI (m := 0) Try.underlying33 Try.sizeOf153 (fe_t rfl) fe_c (rdl_out hr') (by rw [cU_len]; rfl) (by decide) (by decide) (by omega) rfl) ?_)
      refine tl_step rfl (oj_val (y_ld (v := .int .u32 (v)) Try.isAgg153 (fe_t rfl) (rdl_out hr') (rfl)) ?_)
      refine tl_step rfl (oj_val (y_convi Try.underlying153 Try.underlying41 (fe_t rfl) (IntWalk.u64_in _ (by omega))) ?_)
      refine tl_step rfl (oj_val (y_quok (fe_t rfl) (fe_t rfl) ⟨by omega, by omega⟩ (IntWalk.u64_in _ (by omega))) ?_)
      refine tl_step rfl (oj_val (y_convi Try.underlying41 Try.underlying153 (fe_t rfl) (IntWalk.u32_in _ (by omega))) ?_)
      refine tl_step rfl (oj_val (y_index Try.underlying33 Try.sizeOf153 (fe_t rfl) (fe_t rfl) (rdl_vec 0 rfl) (by rw [hvx, cU_len]; omega) (by decide) (by omega) (Nat.mul_one _)) ?_)
      refine tl_step rfl (oj_storeE1 (i := 0) Try.sizeOf153 (fe_t rfl) (fe_t rfl) rfl rfl rfl (by omega) (?_))
      refine tl_nil ?_
      refine tx_then ?_
      refine tr_region ?_
      refine tl_step rfl (oj_val (y_move (fe_t rfl)) ?_)
      refine tl_step rfl (oj_val (y_move (fe_t rfl)) ?_)
      refine tl_step rfl (oj_val (y_indexI (m := 0) Try.underlying33 Try.sizeOf153 (fe_t rfl) fe_c (rdl_out hr') (by rw [cU_len]; rfl) (by decide) (by decide) (by omega) rfl) ?_)
      refine tl_step rfl (oj_val (y_ld (v := .int .u32 (v)) Try.isAgg153 (fe_t rfl) (rdl_out hr') (rfl)) ?_)
      refine tl_step rfl (oj_val (y_convi Try.underlying153 Try.underlying41 (fe_t rfl) (IntWalk.u64_in _ (by omega))) ?_)
      refine tl_step rfl (oj_val (y_rem (fe_t rfl) (fe_t rfl) ⟨by omega, by omega⟩) ?_)
      refine tl_step rfl (oj_val (y_assign (fe_t rfl)) ?_)
      refine tl_nil ?_
      refine tx_in ?_
      refine tx_then ?_
      refine tr_region ?_
      refine tl_step rfl (oj_val (y_move (fe_t rfl)) ?_)
      refine tl_step rfl (oj_val (y_sub (fe_t rfl) fe_c (by omega)) ?_)
      refine tl_step rfl (oj_val (y_assign (fe_t rfl)) ?_)
      refine tl_nil ?_
      apply tx_back4 (k - 1) (zs.set (k - 1) ((x[k - 1]'(by omega) + 4294967296 * r) / v)) ((x[k - 1]'(by omega) + 4294967296 * r) % v) (_)
      · exact (cov_cons (by first | rfl | exact v_int (by omega) | exact v_bool (by simp [*])) (cov_cons (by first | rfl | exact v_int (by omega) | exact v_bool (by simp [*])) (cov_nil)))
      · repeat (first | exact over_nil | refine over_put rfl ?_ | refine over_drop rfl ?_)
      · exact fun w h => h.pick [0] _ rfl (by decide)
      · exact ⟨⟨by omega, by rw [hvx, cU, cU, List.map_set], hnx⟩, by omega⟩
    · refine tr_exit ?_
      refine tx_then_exit ?_
      refine tx_then_exit ?_
      refine tx_in_exit ?_
      refine tx_then ?_
      refine tr_seq ?_
      have hr0 := hinv.r0
      refine tr_region ?_
      refine tl_step rfl (oj_val (y_move (fe_t rfl)) ?_)
      refine tl_step rfl (oj_val (y_move (fe_t rfl)) ?_)
      refine tl_step rfl (oj_val (y_convi Try.underlying41 Try.underlying153 (fe_t rfl) (IntWalk.u32_in _ (by omega))) ?_)
      refine tl_step rfl (oj_lit1 (k := .u32) (a := r) Try.underlying33 Try.sizeOf153 Try.zeroValue153 (fe_t rfl) (fun g2 => ?_))
      refine tl_step rfl (oj_val (y_assign (fe_t rfl)) ?_)
      refine tl_step rfl (oj_val (y_assign (fe_t rfl)) ?_)
      refine tl_nil ?_
      refine tx_then ?_
      refine tr_ret ?_
      refine tx_then_ret ?_
      refine tx_ret (res2 Try.results172 (rok_t rfl) (rok_t rfl)) (fun w' hS => ?_)
      obtain rfl : k = 0 := by omega
      have hval := hinv.val
      rw [List.drop_zero, List.drop_zero] at hval
      rw [hvx] at hS
      exact ⟨(⟨false, some ⟨gnv, 0, none⟩, n, n, zs⟩, ⟨false, some ⟨g2, 0, none⟩, 1, 1, [r]⟩), ⟨⟨by dsimp only; omega, Nat.le_refl _, by dsimp only; omega, hinv.dg⟩, ⟨rfl, Nat.le_refl _, Nat.le_of_ble_eq_true rfl, fun y hy => by simp only [List.mem_singleton] at hy; subst hy; omega⟩, by dsimp only; rw [dval_one, hval, Int.add_comm (v * _), Int.add_mul_ediv_left _ _ (by omega), Int.ediv_eq_zero_of_lt hr0.1 hr0.2, Int.zero_add], by dsimp only; rw [dval_one, dval_one, hval, Int.add_comm (v * _), Int.add_mul_emod_self_left, Int.emod_eq_of_lt hr0.1 hr0.2]⟩, rfl, hS.pick [1, 0] _ rfl (by decide)⟩
  · exfalso; omega

end Go.Proofs.Ytcpdelkamckmfaa.Frac
