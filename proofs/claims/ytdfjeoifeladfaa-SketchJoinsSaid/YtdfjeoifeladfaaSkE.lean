/- Walks for the sketch. -/
import Derived.Test.YtdfjeoifeladfaaE9
import Derived.Test.YtdfjeoifeladfaaSketchD
namespace Go.Proofs.Ytdfjeoifeladfaa.Sketch
open Go.RowKit Go.Proofs.Ytdfjeoifeladfaa.E

/-- A new slice that holds these numbers. -/
def VecP (w : World) (zs : List Int) (e : Ending) (w' : World) : Prop :=
  ∃ q : Option Addr × Nat, zs.length ≤ q.2 ∧ e = .returned (.slice q.1 zs.length q.2) ∧ E.St w w' [vec 3 1 (.slice q.1 zs.length q.2) zs.length (cI zs)]

set_option maxRecDepth 100000 in
theorem clone_any (A : Option Addr) (n c : Nat) (zs : List Int) (w : World) (hr : Rd w A (zs.map (.int .i64))) (hn : zs.length = n) (hm : n ≤ 1000000000) :
    Calls Try.prog 75 #[.slice A n c] w (VecP w zs) := by
  refine calls_tr Try.func75 Try.ntmps75 rfl rfl (St.refl _) ?_
  refine tr_seq ?_
  refine tr_region ?_
  refine tl_step rfl (oj_val (y_assign fe_c) ?_)
  refine tl_nil ?_
  refine tx_then ?_
  refine tr_seq ?_
  refine tr_seq ?_
  refine tr_region ?_
  refine tl_step rfl (oj_val (y_move (fe_t rfl)) ?_)
  refine tl_step rfl (oj_val (y_eqnil Try.underlying31 (fe_t rfl) fe_c) ?_)
  refine tl_nil ?_
  refine tx_then ?_
  refine tr_cond (fe_t rfl) (fun hq1 => ?_) (fun hq2 => ?_)
  · obtain rfl : A = none := by cases A <;> simp_all
    have hz : zs = [] := by
      rcases hr with h | ⟨_, _, h, _⟩
      · simpa using h
      · cases h
    subst hz
    refine tr_seq ?_
    refine tr_region ?_
    refine tl_step rfl (oj_val (y_assign fe_c) ?_)
    refine tl_nil ?_
    refine tx_then ?_
    refine tr_ret ?_
    refine tx_then_ret ?_
    refine tx_ret (res1 Try.results75 (rok_t rfl)) (fun w' hS => ?_)
    refine ⟨(none, 0), by simp, rfl, ?_⟩
    exact (hS.pick [] [] rfl (by decide)).add (Below.refl _ _) (vec_nil _) (by simp [vec, Value.ownBlock])
  · refine tr_skip ?_
    refine tx_then ?_
    refine tr_seq ?_
    refine tr_region ?_
    refine tl_step rfl (oj_slice0 Try.underlying31 Try.sizeOf3 (fun g1 => ?_))
    refine tl_step rfl (oj_val (y_move (fe_t rfl)) ?_)
    refine tl_step rfl (oj_appg (i := 0) (s := 1) (z := (.int .i64 0)) (bytes := 8) Try.underlying31 (by kernel_rfl) (fe_t rfl) (fe_t rfl) rfl (rdl_out hr) (by first | (simp; done) | (simp; omega)) (by decide) (by first | exact oneI | exact oneF (fun _ => rfl) | exact fun u hu => List.all_eq_true.1 (show List.all _ (fun x => x.oneCell') = true from rfl) u hu | (intro u hu; revert u hu; simp [Value.oneCell'])) ⟨by omega, by decide⟩ (fun Aa1 ca1 hca1 => ?_))
    refine tl_step rfl (oj_val (y_assign (fe_t rfl)) ?_)
    refine tl_nil ?_
    refine tx_then ?_
    refine tr_ret ?_
    refine tx_ret (res1 Try.results75 (rok_t rfl)) (fun w' hS => ?_)
    have e1 := OwnV.rd (hS.holds 0 _ rfl)
    simp only [Nat.zero_add, List.nil_append] at hS e1
    subst hn
    exact ⟨(_, _), e1.2.1, by rw [Nat.zero_add], hS.pick [0] _ rfl (by decide)⟩

end Go.Proofs.Ytdfjeoifeladfaa.Sketch
