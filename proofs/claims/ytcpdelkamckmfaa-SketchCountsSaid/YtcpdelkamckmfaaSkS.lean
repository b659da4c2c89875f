/- Walks for the sketch: SameSketch, slices.Clone; what is right. -/
import Derived.Test.YtcpdelkamckmfaaSketchB
import Derived.Test.YtcpdelkamckmfaaMemC
import Derived.Test.YtcpdelkamckmfaaEA
namespace Go.Proofs.Ytcpdelkamckmfaa.Sketch
open Go.RowKit Go.Proofs.Ytcpdelkamckmfaa.Big Go.Proofs.Ytcpdelkamckmfaa.E

set_option maxRecDepth 100000 in
set_option maxHeartbeats 1000000 in
theorem same_any (x y : Int) (A B : Option Addr) (n c d : Nat) (zs : List Int) (w : World) (hr : RdI .i64 w A zs) (hr' : RdI .i64 w B zs) (hn : zs.length = n) (hm : n ≤ 140737488355328) :
    Calls Try.prog 65 #[.agg #[(.int .i64 x), (.int .i64 y), .slice A n c], .agg #[(.int .i64 x), (.int .i64 y), .slice B n d]] w fun e w' => e = .returned (.bool true) ∧ Below w.heap.size w w' := by
  have Hn := Lib.hid hn; clear hn
  go_enter Try.func65, Try.ntmps65
  go_wp2_with fail
  generalize hW : World.alloc (World.alloc w _) _ = W0
  have hb0 := named hW
  clear hW
  have c0_0 := fun o => Below.cell hb0 (p := ⟨w.heap.size, o, none⟩) (by first | omega | exact Below.size (by assumption) | (simp; done) | (simp; omega))
  have l0_0 : w.heap.size < W0.heap.size := Nat.lt_of_lt_of_le (by first | omega | exact Below.size (by assumption) | (simp; done) | (simp; omega)) (Below.size hb0)
  have c0_1 := fun o => Below.cell hb0 (p := ⟨w.heap.size + 1, o, none⟩) (by first | omega | exact Below.size (by assumption) | (simp; done) | (simp; omega))
  have l0_1 : w.heap.size + 1 < W0.heap.size := Nat.lt_of_lt_of_le (by first | omega | exact Below.size (by assumption) | (simp; done) | (simp; omega)) (Below.size hb0)
  have hB0 : Below w.heap.size w W0 := (by repeat (first | (with_reducible exact Below.refl _ _) | (with_reducible assumption) | (with_reducible refine Below.drew ?_) | (with_reducible refine below_drewN ?_ _) | ((with_reducible refine Below.setCell ?_ ?_ _); rotate_left; (next => first | omega | exact Nat.le_refl _ | (refine Below.size (B := ?_) ?_; rotate_left; assumption) | (simp; done) | (simp; omega))) | ((with_reducible refine Below.alloc ?_ ?_ _); rotate_left; (next => first | omega | exact Nat.le_refl _ | (refine Below.size (B := ?_) ?_; rotate_left; assumption) | (simp; done) | (simp; omega))) | ((with_reducible refine Below.trans (b := ?_) ?_ (Below.mono (B := ?_) ?_ ?_)); rotate_left 3; (next => (with_reducible assumption)); (next => first | omega | exact Nat.le_refl _ | (refine Below.size (B := ?_) ?_; rotate_left; assumption) | (simp; done) | (simp; omega))) | exact Below.refl _ _ | assumption | refine Below.drew ?_ | refine below_drewN ?_ _ | refine Below.alloc ?_ (by first | omega | exact Below.size (by assumption) | (simp; done) | (simp; omega)) _ | refine Below.setCell ?_ (by first | omega | exact Below.size (by assumption) | (simp; done) | (simp; omega)) _ | refine Below.trans ?_ (Below.mono (by assumption) (by first | omega | exact Below.size (by assumption) | (simp; done) | (simp; omega)))))
  go_loopw [30] (fun i W => ∃ k : Nat, k ≤ n ∧ i = .int .i64 k ∧ ∃ q, W = W0.drewN q) (fun i _ => n - (intOf i).toNat)
  case atStart => exact ⟨0, by omega, rfl, 0, rfl⟩
  case round =>
    obtain ⟨k, hk, rfl, q, rfl⟩ := hrel
    by_cases hlt : k < n
    · have hl : k < zs.length := by have := Hn.out; omega
      obtain ⟨b, off, rfl, hbl, hc⟩ := hr.atw hB0 hl
      obtain ⟨b', off', rfl, hbl', hc'⟩ := hr'.atw hB0 hl
      generalize zs[k] = z at hc hc'
      go_wp2_with fail
      go_quiet (fail)
      go_wp2_with fail
      go_roundw
      case rel => exact ⟨k + 1, by omega, by go_num, _, rfl⟩
      case measure => first | (simp [intOf]; done) | (simp [intOf]; omega)
    · go_wp2_with fail
      go_ret
      exact ⟨rfl, (by repeat (first | (with_reducible exact Below.refl _ _) | (with_reducible assumption) | (with_reducible refine Below.drew ?_) | (with_reducible refine below_drewN ?_ _) | ((with_reducible refine Below.setCell ?_ ?_ _); rotate_left; (next => first | omega | exact Nat.le_refl _ | (refine Below.size (B := ?_) ?_; rotate_left; assumption) | (simp; done) | (simp; omega))) | ((with_reducible refine Below.alloc ?_ ?_ _); rotate_left; (next => first | omega | exact Nat.le_refl _ | (refine Below.size (B := ?_) ?_; rotate_left; assumption) | (simp; done) | (simp; omega))) | ((with_reducible refine Below.trans (b := ?_) ?_ (Below.mono (B := ?_) ?_ ?_)); rotate_left 3; (next => (with_reducible assumption)); (next => first | omega | exact Nat.le_refl _ | (refine Below.size (B := ?_) ?_; rotate_left; assumption) | (simp; done) | (simp; omega))) | exact Below.refl _ _ | assumption | refine Below.drew ?_ | refine below_drewN ?_ _ | refine Below.alloc ?_ (by first | omega | exact Below.size (by assumption) | (simp; done) | (simp; omega)) _ | refine Below.setCell ?_ (by first | omega | exact Below.size (by assumption) | (simp; done) | (simp; omega)) _ | refine Below.trans ?_ (Below.mono (by assumption) (by first | omega | exact Below.size (by assumption) | (simp; done) | (simp; omega)))))⟩

/-- A new slice that holds these numbers. -/
def VecP (w : World) (zs : List Int) (e : Ending) (w' : World) : Prop :=
  ∃ q : Option Addr × Nat, zs.length ≤ q.2 ∧ e = .returned (.slice q.1 zs.length q.2) ∧ E.St w w' [vec 3 1 (.slice q.1 zs.length q.2) zs.length (cI zs)]

set_option maxRecDepth 100000 in
theorem clone_any (A : Option Addr) (n c : Nat) (zs : List Int) (w : World) (hr : Rd w A (zs.map (.int .i64))) (hn : zs.length = n) (hm : n ≤ 1000000000) :
    Calls Try.prog 134 #[.slice A n c] w (VecP w zs) := by
  refine calls_tr Try.func134 Try.ntmps134 rfl rfl (St.refl _) ?_
  refine tr_seq ?_
  refine tr_region ?_
  refine tl_step rfl (oj_val (y_assign fe_c) ?_)
  refine tl_nil ?_
  refine tx_then ?_
  refine tr_seq ?_
  refine tr_seq ?_
  refine tr_region ?_
  refine tl_step rfl (oj_val (y_move (fe_t rfl)) ?_)
  refine tl_step rfl (oj_val (y_eqnil Try.underlying79 (fe_t rfl) fe_c) ?_)
  refine tl_nil ?_
  refine tx_then ?_
  refine tr_cond (fe_t rfl) (fun hq1 => ?_) (fun hq2 => ?_)
  · obtain rfl : A = none := by cases A <;> simp_all
    have hz : zs = [] := by
      rcases hr with h | ⟨_, _, h, _⟩
      · simpa using h
      · cases h
    subst hz
    refine tr_seq ?_
    refine tr_region ?_
    refine tl_step rfl (oj_val (y_assign fe_c) ?_)
    refine tl_nil ?_
    refine tx_then ?_
    refine tr_ret ?_
    refine tx_then_ret ?_
    refine tx_ret (res1 Try.results134 (rok_t rfl)) (fun w' hS => ?_)
    refine ⟨(none, 0), by simp, rfl, ?_⟩
    exact (hS.pick [] [] rfl (by decide)).add (Below.refl _ _) (vec_nil _) (by simp [vec, Value.ownBlock])
  · refine tr_skip ?_
    refine tx_then ?_
    refine tr_seq ?_
    refine tr_region ?_
    refine tl_step rfl (oj_slice0 Try.underlying79 Try.sizeOf3 (fun g1 => ?_))
    refine tl_step rfl (oj_val (y_move (fe_t rfl)) ?_)
    refine tl_step rfl (oj_appg (i := 0) (s := 1) (z := (.int .i64 0)) (bytes := 8) Try.underlying79 (by kernel_rfl) (fe_t rfl) (fe_t rfl) rfl (rdl_out hr) (by first | (simp; done) | (simp; omega)) (by decide) (by first | exact oneI | exact oneF (fun _ => rfl) | exact fun u hu => List.all_eq_true.1 (show List.all _ (fun x => x.oneCell') = true from rfl) u hu | (intro u hu; revert u hu; simp [Value.oneCell'])) ⟨by omega, by decide⟩ (fun Aa1 ca1 hca1 => ?_))
    refine tl_step rfl (oj_val (y_assign (fe_t rfl)) ?_)
    refine tl_nil ?_
    refine tx_then ?_
    refine tr_ret ?_
    refine tx_ret (res1 Try.results134 (rok_t rfl)) (fun w' hS => ?_)
    have e1 := OwnV.rd (hS.holds 0 _ rfl)
    simp only [Nat.zero_add, List.nil_append] at hS e1
    subst hn
    exact ⟨(_, _), e1.2.1, by rw [Nat.zero_add], hS.pick [0] _ rfl (by decide)⟩

theorem right_yes {rows width : Int} (A : Option Addr) (n c : Nat) {zs : List Int} (w : World) (hr : Rd w A (zs.map (.int .i64))) (hn : zs.length = n) (hm : n ≤ 140737488355328) (v : vright rows width zs = true) :
    Calls Try.prog 63 #[.agg #[(.int .i64 rows), (.int .i64 width), .slice A n c]] w fun e w' => e = .returned (.bool true) ∧ Below w.heap.size w w' := v ▸ right_any rows width A n c zs w hr hn hm
theorem vright_yes {rows width : Int} (A : Option Addr) (n c : Nat) {zs : List Int} (w : World) (hr : Rd w A (zs.map (.int .i64))) (hn : zs.length = n) (hm : n ≤ 140737488355328) (v : vright rows width zs = true) :
    Calls Try.prog 64 #[.agg #[(.int .i64 rows), (.int .i64 width), .slice A n c]] w fun e w' => e = .returned (.bool true) ∧ Below w.heap.size w w' := v ▸ vright_any rows width A n c zs w hr hn hm
theorem same_eq (x y : Int) (A B : Option Addr) (n m c d : Nat) (zs : List Int) (w : World) (hr : RdI .i64 w A zs) (hr' : RdI .i64 w B zs) (hn : zs.length = n) (hm : n ≤ 140737488355328) (h : m = n) :
    Calls Try.prog 65 #[.agg #[(.int .i64 x), (.int .i64 y), .slice A n c], .agg #[(.int .i64 x), (.int .i64 y), .slice B m d]] w fun e w' => e = .returned (.bool true) ∧ E.St w w' [] := by
  subst h
  exact of_bel (same_any x y A B m c d zs w hr hr' hn hm)
theorem good_cells {r x : Int} {zs : List Int} (h : vright r x zs = true) : ∀ k (hk : k < zs.length), 0 ≤ zs[k] ∧ zs[k] ≤ 1099511627776 := fun k hk => by
  simp only [vright, Bool.and_eq_true, Bool.not_eq_true'] at h
  have := List.any_eq_false.1 h.2 _ (List.getElem_mem hk)
  exact badCell_f (by simpa using this)
theorem cI_len {l : List Int} : (cI l).length = l.length := by simp [cI]
theorem right_no {rows width : Int} (A : Option Addr) (n c : Nat) {zs : List Int} (w : World) (hr : Rd w A (zs.map (.int .i64))) (hn : zs.length = n) (hm : n ≤ 140737488355328) (v : vright rows width zs = false) :
    Calls Try.prog 63 #[.agg #[(.int .i64 rows), (.int .i64 width), .slice A n c]] w fun e w' => e = .returned (.bool false) ∧ Below w.heap.size w w' := v ▸ right_any rows width A n c zs w hr hn hm
theorem vright_no {rows width : Int} (A : Option Addr) (n c : Nat) {zs : List Int} (w : World) (hr : Rd w A (zs.map (.int .i64))) (hn : zs.length = n) (hm : n ≤ 140737488355328) (v : vright rows width zs = false) :
    Calls Try.prog 64 #[.agg #[(.int .i64 rows), (.int .i64 width), .slice A n c]] w fun e w' => e = .returned (.bool false) ∧ Below w.heap.size w w' := v ▸ vright_any rows width A n c zs w hr hn hm
end Go.Proofs.Ytcpdelkamckmfaa.Sketch
