/- TopHier: the closure, the table, what is done to the tree. -/
import Derived.Test.YtfcpmcdlgkfolaaDoorZhThQ
import Derived.Test.YtfcpmcdlgkfolaaDoorZhHrY
import Derived.Test.YtfcpmcdlgkfolaaDoorZhEM
namespace Go.Proofs.YtfcpmcdlgkfolaaDoor.Hier
open Go.RowKit Go.Lib Go.Proofs.YtfcpmcdlgkfolaaDoor.E Go.Proofs.YtfcpmcdlgkfolaaDoor.Wfq
open Go.Proofs.YtfcpmcdlgkfolaaDoor.Scfq (hd hd_mem)
set_option maxRecDepth 100000 in
theorem leaf1T {w0 w : World} {T : List Res} {kb k : Nat} {a b : Int} (hS : St w0 w (blk kb [(.int .i64 ((k : Int)))] :: T)) :
    Calls Tryd.prog 27 #[.agg #[(.int .i64 a), (.int .i64 b)], .pointer (some ⟨kb, 0, none⟩)] w fun e w' => ∃ q : Bool, q = decide (a = (k : Int)) ∧ e = .returned (.bool q) ∧ St w0 w' (blk kb [(.int .i64 ((k : Int)))] :: T) := by
  refine calls_tr Tryd.func27 Tryd.ntmps27 rfl rfl hS ?_
  refine tr_seq ?_
  refine tr_region ?_
  refine tl_step rfl (oj_box (fe_t rfl) (fun b1 => ?_))
  refine tl_step rfl (oj_val (y_assign fe_c) ?_)
  refine tl_nil ?_
  refine tx_then ?_
  refine tr_seq ?_
  refine tr_region ?_
  refine tl_step rfl (oj_val (y_fieldAddr (td := 3) Tryd.underlying72 rfl rfl Tryd.sizeOf3 (o' := 0) rfl (fe_t rfl)) ?_)
  refine tl_step rfl (oj_val (y_ldb 0 Tryd.isAgg3 (fe_t rfl) rfl rfl) ?_)
  refine tl_step rfl (oj_val (y_ldb 1 Tryd.isAgg3 (fe_t rfl) rfl rfl) ?_)
  refine tl_step rfl (oj_val (y_eq (fe_t rfl) (fe_t rfl)) ?_)
  refine tl_step rfl (oj_val (y_assign (fe_t rfl)) ?_)
  refine tl_nil ?_
  refine tx_then ?_
  refine tr_ret ?_
  refine tx_ret (res1 Tryd.results27 (rok_t rfl)) (fun w' hS => ?_)
  have h1 := pickT (l := [_, _]) hS [1] rfl (by decide)
  exact ⟨_, rfl, rfl, h1⟩
set_option maxRecDepth 100000 in
set_option maxHeartbeats 1000000 in
theorem idxT {w0 w : World} {T : List Res} {kb k : Nat} (A : Option Addr) (n c : Nat) (ns : List (Int × Int)) (hS : St w0 w (blk kb [(.int .i64 ((k : Int)))] :: T)) (hr : Rd w0 A (ns.flatMap c2)) (hn : ns.length = n) (hm : n ≤ 140737488355328) :
    Calls Tryd.prog 54 #[.slice A n c, .func (.func 27) #[] #[.pointer (some ⟨kb, 0, none⟩)]] w fun e w' => ∃ r : Int, (0 ≤ r ↔ ¬ (trOf ns).kids k = []) ∧ e = .returned (.int .i64 r) ∧ St w0 w' (blk kb [(.int .i64 ((k : Int)))] :: T) := by
  refine calls_tr Tryd.func54 Tryd.ntmps54 rfl rfl hS ?_
  refine tr_seq ?_
  refine tr_region ?_
  refine tl_step rfl (oj_val (y_assign fe_c) ?_)
  refine tl_nil ?_
  refine tx_then ?_
  refine tr_seq ?_
  refine tr_seq ?_
  refine tr_region ?_
  refine tl_step rfl (oj_val (y_move (fe_t rfl)) ?_)
  refine tl_step rfl (oj_val (y_len Tryd.underlying67 (fe_t rfl)) ?_)
  refine tl_step rfl (oj_val (y_move fe_c) ?_)
  refine tl_nil ?_
  refine tx_then ?_
  refine tr_block ?_
  refine tr_loop1 [4, 5, 8, 9, 10, 11, 12, 13, 14, 15, 16, 17, 18] (fun (j : Nat) => [(8, .int .i64 (j : Int))]) 0 (fun (j : Nat) => []) (fun (j : Nat) => j ≤ n ∧ ∀ i, i < j → n1 ns i ≠ k) (fun (j : Nat) => n - j) (0) (cov_cons (by first | rfl | exact v_int (by omega) | exact v_bool (by simp [*])) (cov_nil)) (fun w h => h) ?_ ?_
  · try dsimp only
    exact ⟨by omega, fun i h => by omega⟩
  intro j hp
  obtain ⟨hj, hall⟩ := hp
  refine tr_seq ?_
  refine tr_region ?_
  refine tl_step rfl (oj_val (y_lss (fe_t rfl) (fe_t rfl)) ?_)
  refine tl_nil ?_
  refine tx_then ?_
  refine tr_seq ?_
  refine tr_condp (fe_t rfl) (fun hq1 => ?_) (fun hq2 => ?_)
  · refine tr_skip ?_
    refine tx_then ?_
    refine tr_seq ?_
    refine tr_block ?_
    refine tr_seq ?_
    refine tr_region ?_
    refine tl_step rfl (oj_val (y_move (fe_t rfl)) ?_)
    refine tl_step rfl (oj_val (y_assign (fe_t rfl)) ?_)
    refine tl_nil ?_
    refine tx_then ?_
    refine tr_seq ?_
    refine tr_region ?_
    refine tl_step rfl (oj_val (y_move (fe_t rfl)) ?_)
    refine tl_step rfl (oj_val (y_move (fe_t rfl)) ?_)
    refine tl_step rfl (oj_val (y_move (fe_t rfl)) ?_)
    refine tl_step rfl (oj_val (y_index Tryd.underlying67 Tryd.sizeOf72 (fe_t rfl) (fe_t rfl) (rdl_out hr) (lenN hn) (by decide) (by omega) rfl) ?_)
    refine tl_step rfl (oj_val (y_ldA (cs := [(.int .i64 (n1 ns j)), (.int .i64 (n2 ns j))]) Tryd.isAgg72 Tryd.sizeOf72 (fe_t rfl) (rdl_out hr) rfl (by decide) (getN (by omega))) ?_)
    refine tl_step rfl (oj_callF Tryd.call27 (fe_t rfl) (fel_cons (fe_t rfl) fel_nil) (fun w' hS => leaf1T hS) (fun q hQ => ?_))
    refine tl_nil ?_
    refine tx_then ?_
    refine tr_cond (fe_t rfl) (fun hq3 => ?_) (fun hq4 => ?_)
    · have hc : n1 ns j = (k : Int) := by have hb := hq3; rw [hQ] at hb; exact of_decide_eq_true hb
      refine tr_seq ?_
      refine tr_region ?_
      refine tl_step rfl (oj_val (y_move (fe_t rfl)) ?_)
      refine tl_step rfl (oj_val (y_assign (fe_t rfl)) ?_)
      refine tl_nil ?_
      refine tx_then ?_
      refine tr_ret ?_
      refine tx_in_ret ?_
      refine tx_then_ret ?_
      refine tx_then_ret ?_
      refine tx_in_ret ?_
      refine tx_then_ret ?_
      refine tx_ret (res1 Tryd.results54 (rok_t rfl)) (fun w' hS => ?_)
      have h1 := pickT (l := [_]) hS [0] rfl (by decide)
      exact ⟨(j : Int), ⟨fun _ h0 => kids_nil.1 h0 j (by omega) hc, fun _ => by omega⟩, rfl, h1⟩
    · have hc : n1 ns j ≠ (k : Int) := by have hb := hq4; rw [hQ] at hb; exact of_decide_eq_false hb
      refine tr_skip ?_
      refine tx_in ?_
      refine tx_then ?_
      refine tr_region ?_
      refine tl_step rfl (oj_val (y_inc (fe_t rfl) fe_c (by omega)) ?_)
      refine tl_step rfl (oj_val (y_move (fe_t rfl)) ?_)
      refine tl_nil ?_
      apply tx_back1 (j + 1)
      · exact (cov_cons (by first | rfl | exact v_int (by omega) | exact v_bool (by simp [*])) (cov_nil))
      · repeat (first | exact over_nil | refine over_put rfl ?_ | refine over_drop rfl ?_)
      · exact fun w h => h
      · exact ⟨⟨by omega, fun i hi => by
          by_cases e : i = j
          · subst e; exact hc
          · exact hall i (by omega)⟩, by omega⟩
  · refine tr_exit ?_
    refine tx_then_exit ?_
    refine tx_then_exit ?_
    refine tx_in_exit ?_
    refine tx_then ?_
    refine tr_seq ?_
    refine tr_region ?_
    refine tl_step rfl (oj_val (y_assign fe_c) ?_)
    refine tl_nil ?_
    refine tx_then ?_
    refine tr_ret ?_
    refine tx_ret (res1 Tryd.results54 (rok_t rfl)) (fun w' hS => ?_)
    have h1 := pickT (l := [_]) hS [0] rfl (by decide)
    exact ⟨-1, ⟨fun h0 => by omega, fun h0 => absurd (kids_nil.2 (fun i hi => hall i (by omega))) h0⟩, rfl, h1⟩
set_option maxRecDepth 100000 in
set_option maxHeartbeats 1000000 in
theorem contT {w0 w : World} {T : List Res} {kb k : Nat} (A : Option Addr) (n c : Nat) (ns : List (Int × Int)) (hS : St w0 w (blk kb [(.int .i64 ((k : Int)))] :: T)) (hr : Rd w0 A (ns.flatMap c2)) (hn : ns.length = n) (hm : n ≤ 140737488355328) :
    Calls Tryd.prog 26 #[.slice A n c, .func (.func 27) #[] #[.pointer (some ⟨kb, 0, none⟩)]] w fun e w' => ∃ q : Bool, (q = true ↔ ¬ (trOf ns).kids k = []) ∧ e = .returned (.bool q) ∧ St w0 w' (blk kb [(.int .i64 ((k : Int)))] :: T) := by
  refine calls_tr Tryd.func26 Tryd.ntmps26 rfl rfl hS ?_
  refine tr_seq ?_
  refine tr_region ?_
  refine tl_step rfl (oj_val (y_assign fe_c) ?_)
  refine tl_nil ?_
  refine tx_then ?_
  refine tr_seq ?_
  refine tr_region ?_
  refine tl_step rfl (oj_val (y_move (fe_t rfl)) ?_)
  refine tl_step rfl (oj_val (y_move (fe_t rfl)) ?_)
  refine tl_step rfl (oj_call2 Tryd.call54 fe_f (fel_cons (fe_t rfl) (fel_cons (fe_t rfl) fel_nil)) (fun w' hS => idxT A n c ns hS hr hn hm) (fun r hR => ?_))
  refine tl_step rfl (oj_val (y_geq (fe_t rfl) fe_c) ?_)
  refine tl_step rfl (oj_val (y_assign (fe_t rfl)) ?_)
  refine tl_nil ?_
  refine tx_then ?_
  refine tr_ret ?_
  refine tx_ret (res1 Tryd.results26 (rok_t rfl)) (fun w' hS => ?_)
  have h1 := pickT (l := [_]) hS [0] rfl (by decide)
  exact ⟨decide (0 ≤ r), ⟨fun h => hR.1 (of_decide_eq_true h), fun h => decide_eq_true (hR.2 h)⟩, rfl, h1⟩

/-- What is done to the tree, of the first k nodes. -/
def osK (t : Tr) (B : Int) (many k : Nat) : List O3 := (leavesTo t k).flatMap fun (c : Nat) => List.replicate many (1, (c : Int), B)
theorem osK_yes {t : Tr} {B : Int} {many k : Nat} (h : t.kids k = []) : osK t B many (k + 1) = osK t B many k ++ List.replicate many (1, (k : Int), B) := by
  unfold osK
  rw [leaves_step, decide_eq_true h, List.flatMap_append]
  simp
theorem osK_no {t : Tr} {B : Int} {many k : Nat} (h : ¬ t.kids k = []) : osK t B many (k + 1) = osK t B many k := by
  unfold osK
  rw [leaves_step, decide_eq_false h]
  simp
theorem osK_len {t : Tr} {B : Int} {many : Nat} : ∀ k, (osK t B many k).length ≤ k * many
  | 0 => by simp [osK, leavesTo]
  | k + 1 => by
    have h1 := osK_len (t := t) (B := B) (many := many) k
    have h2 : (k + 1) * many = k * many + many := Nat.succ_mul k many
    by_cases h : t.kids k = []
    · rw [osK_yes h, List.length_append, List.length_replicate]; omega
    · rw [osK_no h]; omega
theorem osK_bd {t : Tr} {B : Int} {many k : Nat} (hk : k ≤ 1048576) (hm : many ≤ 60) : (osK t B many k).length ≤ 62914560 := by
  have := osK_len (t := t) (B := B) (many := many) k
  have := Nat.mul_le_mul hk hm
  omega
/-- A table of numbers, for the leaves ls. -/
def Tab (ls : List Nat) (f : Nat → Int) (mm : List (Int × Value)) : Prop := (∀ c ∈ ls, mget mm (c : Int) = some (.int .i64 (f c))) ∧ ∀ x v, mget mm x = some v → ∃ c ∈ ls, x = ((c : Nat) : Int) ∧ v = .int .i64 (f c)
theorem tab_zero (f : Nat → Int) : Tab [] f [] := ⟨fun c h => by simp at h, fun x v h => by simp [mget] at h⟩
theorem tab_new {ls : List Nat} {f : Nat → Int} {mm : List (Int × Value)} {k : Nat} {v : Int} (h : Tab ls f mm) (hf : f k = v) : Tab (ls ++ [k]) f (mput mm k (.int .i64 v)) := by
  refine ⟨fun c hc => ?_, fun x u hx => ?_⟩
  · rw [mput_get]
    split
    · next e => obtain rfl : c = k := by omega
                rw [hf]
    · next e =>
      rcases List.mem_append.1 hc with hc | hc
      · exact h.1 c hc
      · simp at hc; omega
  · rw [mput_get] at hx
    split at hx
    · next e => exact ⟨k, by simp, e, by rw [hf]; exact (Option.some.inj hx).symm⟩
    · obtain ⟨c, h1, h2, h3⟩ := h.2 x u hx
      exact ⟨c, List.mem_append_left _ h1, h2, h3⟩
theorem tab_put {ls : List Nat} {f f' : Nat → Int} {mm : List (Int × Value)} {k : Nat} {v : Int} (h : Tab ls f mm) (hk : k ∈ ls) (hf : f' k = v) (ho : ∀ j, j ≠ k → f' j = f j) : Tab ls f' (mput mm k (.int .i64 v)) := by
  refine ⟨fun c hc => ?_, fun x u hx => ?_⟩
  · rw [mput_get]
    split
    · next e => obtain rfl : c = k := by omega
                rw [hf]
    · next e => rw [ho c (fun e2 => e (by omega))]; exact h.1 c hc
  · rw [mput_get] at hx
    split at hx
    · next e => exact ⟨k, hk, e, by rw [hf]; exact (Option.some.inj hx).symm⟩
    · next e =>
      obtain ⟨c, h1, h2, h3⟩ := h.2 x u hx
      exact ⟨c, h1, h2, by rw [ho c (fun e2 => e (by omega))]; exact h3⟩
theorem tab_leaf {t : Tr} {k : Nat} {f : Nat → Int} {mm : List (Int × Value)} (h : Tab (leavesTo t k) f mm) (hk : t.kids k = []) (hf : f k = 0) : Tab (leavesTo t (k + 1)) f (mput mm k (.int .i64 0)) := by
  rw [leaves_step, decide_eq_true hk]
  exact tab_new h hf
theorem tab_not {t : Tr} {k : Nat} {f : Nat → Int} {mm : List (Int × Value)} (h : Tab (leavesTo t k) f mm) (hk : ¬ t.kids k = []) : Tab (leavesTo t (k + 1)) f mm := by
  rw [leaves_step, decide_eq_false hk]
  simpa using h
theorem cntS_take {l : List (Int × Int)} {i c r : Nat} (hi : i < l.length) (hr : n1 l i = (r : Int)) : cntS (l.take (i + 1)) c = cntS (l.take i) c + if c = r then 1 else 0 := by
  rw [List.take_succ_eq_append_getElem hi, show l[i] = ((r : Int), n2 l i) from ?_, cntS_snoc]
  unfold n1 at hr
  rw [getD_lt hi] at hr
  rw [← hr]
  unfold n2
  rw [getD_lt hi]
theorem n1_mem {l : List (Int × Int)} {i : Nat} (hi : i < l.length) {p : Int → Prop} (h : ∀ x ∈ l, p x.1) : p (n1 l i) := by
  unfold n1
  rw [getD_lt hi]
  exact h _ (List.getElem_mem _)
theorem rd_v {w0 w : World} {L : List Res} {e s n c : Nat} {A : Option Addr} {xs : List Value} (hS : St w0 w L) (i : Nat) (hi : lget L i = some (vec e s (.slice A n c) n xs)) : Rd w A xs := (E.OwnV.rd (hS.holds i _ hi)).2.2
theorem y_asv {P : Program} {N : Nat} {w0 : World} {F : Frm} {L : List Res} {o : Oper} {v v' : Value} (h : Yld P N w0 F L o v) (e : v = v') : Yld P N w0 F L o v' := e ▸ h
theorem left_less {left : List Int} {q : Int} (h : q ∈ left) : (left.filter (· != q)).length < left.length := by
  have := List.length_filter_lt_length_iff_exists (l := left) (p := (· != q))
  rw [this]
  exact ⟨q, h, by simp⟩

theorem playT (A : Option Addr) (n c : Nat) (ns : List (Int × Int)) (w : World) (hr : Rd w A (ns.flatMap c2)) (hn : ns.length = n) (hm : n ≤ 1048576) {Q : Option Addr} {q d : Nat} {xs : List Value} (os : List O3) (hr2 : Rd w Q xs) (hx : xs = os.flatMap c3) (hq : q = os.length) (hw : wrongT ns = 0) (hmo : os.length ≤ 400) :
    Calls Tryd.prog 28 #[.slice A n c, .slice Q q d] w fun e w' => ∃ r : S × Vs × Vs × Vs, (Run (trOf ns) os os.length r.1 ∧ (r.2.1.n = r.1.errs.length ∧ r.2.1.xs = cI r.1.errs) ∧ (r.2.2.1.n = r.1.sent.length ∧ r.2.2.1.xs = r.1.sent.flatMap c2) ∧ r.2.2.2.n = n ∧ r.2.2.2.xs = cI (left r.1)) ∧ e = .returned (.tuple #[.slice r.2.1.A r.2.1.n r.2.1.c, .slice r.2.2.1.A r.2.2.1.n r.2.2.1.c, .slice r.2.2.2.A r.2.2.2.n r.2.2.2.c, (.int .i64 0)]) ∧ St w w' [vec 25 1 (.slice r.2.1.A r.2.1.n r.2.1.c) r.2.1.n r.2.1.xs, vec 81 2 (.slice r.2.2.1.A r.2.2.1.n r.2.2.1.c) r.2.2.1.n r.2.2.1.xs, vec 3 1 (.slice r.2.2.2.A r.2.2.2.n r.2.2.2.c) r.2.2.2.n r.2.2.2.xs] := by
  subst hx hq
  exact play_ok A n c ns Q _ d os w hr hn (by omega) hr2 rfl (by omega) hw hmo
theorem playF (A : Option Addr) (n c : Nat) (ns : List (Int × Int)) (w : World) (hr : Rd w A (ns.flatMap c2)) (hn : ns.length = n) (hm : n ≤ 1048576) {Q : Option Addr} {q d : Nat} {xs : List Value} (os : List O3) (hr2 : Rd w Q xs) (hx : xs = os.flatMap c3) (hq : q = os.length) (hw : ¬ wrongT ns = 0) (hmo : os.length ≤ 400) :
    Calls Tryd.prog 28 #[.slice A n c, .slice Q q d] w fun e w' => e = .returned (.tuple #[.slice none 0 0, .slice none 0 0, .slice none 0 0, (.int .i64 (wrongT ns))]) ∧ St w w' [] := by
  subst hx hq
  exact play_badw A n c ns Q _ d os w hr hn (by omega) hr2 rfl (by omega) hw

end Go.Proofs.YtfcpmcdlgkfolaaDoor.Hier
