/- Flows served by tags, plain. -/
import Derived.Test.YtoibebmhfcjpfaaGreatDoorZfFlO
import Derived.Test.YtoibebmhfcjpfaaGreatDoorZfEU
namespace Go.Proofs.YtoibebmhfcjpfaaGreatDoor.Scfq
open Go.RowKit Go.Proofs.YtoibebmhfcjpfaaGreatDoor.E

/-- Weights that may be. -/
def good (ws : List Int) : Bool := decide (ws.length ≤ 16) && ws.all fun w => decide (1 ≤ w) && decide (w ≤ 12)
def wrongOf (ws : List Int) : Int := bif good ws then 0 else 2
theorem good_iff {ws : List Int} : good ws = true ↔ ws.length ≤ 16 ∧ ∀ k, k < ws.length → 1 ≤ ws.getD k 0 ∧ ws.getD k 0 ≤ 12 := by
  simp only [good, Bool.and_eq_true, decide_eq_true_eq, List.all_eq_true]
  refine and_congr Iff.rfl ⟨fun h k hk => by rw [getD_lt hk]; exact h _ (List.getElem_mem hk), fun h x hx => ?_⟩
  obtain ⟨k, hk, rfl⟩ := List.mem_iff_getElem.1 hx
  rw [← getD_lt (d := 0) hk]
  exact h k hk
theorem wrong_t {ws : List Int} (h : ws.length ≤ 16) (h2 : ∀ k, k < ws.length → 1 ≤ ws.getD k 0 ∧ ws.getD k 0 ≤ 12) : wrongOf ws = 0 := by
  unfold wrongOf; rw [good_iff.2 ⟨h, h2⟩]; rfl
theorem wrong_f {ws : List Int} (h : 16 < ws.length ∨ ∃ k, k < ws.length ∧ (ws.getD k 0 < 1 ∨ 12 < ws.getD k 0)) : wrongOf ws = 2 := by
  have : good ws = false := by
    rw [← Bool.not_eq_true, good_iff]
    rintro ⟨h1, h2⟩
    rcases h with h | ⟨k, hk, h⟩
    · omega
    · have := h2 k hk; omega
  unfold wrongOf; rw [this]; rfl
theorem wrong_ok {ws : List Int} (h : wrongOf ws = 0) : ws.length ≤ 16 ∧ ∀ k, k < ws.length → 1 ≤ ws.getD k 0 ∧ ws.getD k 0 ≤ 12 := by
  refine good_iff.1 ?_
  cases e : good ws
  · unfold wrongOf at h; rw [e] at h; cases h
  · rfl
/-- What a flow has: bytes, tags, the last tag. -/
structure Q where
  bs : List Int
  ts : List Int
  last : Int
def Q.nil : Q := ⟨[], [], 0⟩
def hd (l : List Int) : Int := l.getD 0 0
structure S where
  fs : List Q
  now : Int
  errs : List Int
  sent : List (Int × Int)
/-- How many are left. -/
def left (s : S) : List Int := s.fs.map fun q => (q.ts.length : Int)
end Go.Proofs.YtoibebmhfcjpfaaGreatDoor.Scfq

namespace Go.Proofs.YtoibebmhfcjpfaaGreatDoor.Wfq
open Go.RowKit Go.Proofs.YtoibebmhfcjpfaaGreatDoor.E Go.Proofs.YtoibebmhfcjpfaaGreatDoor.Scfq

/-- What a flow has: bytes, when its first packet should begin, and end. -/
structure Q where
  bs : List Int
  bg : Int
  en : Int
def Q.nil : Q := ⟨[], 0, 0⟩
structure S where
  fs : List Q
  time : Int
  errs : List Int
  sent : List (Int × Int)
def gq (fs : List Q) (k : Nat) : Q := fs.getD k Q.nil
def left (s : S) : List Int := s.fs.map fun q => (q.bs.length : Int)
end Go.Proofs.YtoibebmhfcjpfaaGreatDoor.Wfq

namespace Go.Proofs.YtoibebmhfcjpfaaGreatDoor.Wfq
open Go.RowKit Go.Proofs.YtoibebmhfcjpfaaGreatDoor.E Go.Proofs.YtoibebmhfcjpfaaGreatDoor.Scfq

section
variable {P : Program} {N : Nat} {w0 : World} {F : Frm} {L : List Res}
theorem St.as {w : World} {i : Nat} {r r' : Res} (h : St w0 w L) (hi : lget L i = some r) (he : r = r') : St w0 w (lset L i r') := by
  subst he
  have hl : lset L i r = L := by
    clear h
    induction L generalizing i with
    | nil => rfl
    | cons a L ih => cases i with
      | zero => simp only [lget, Option.some.injEq] at hi; simp [lset, hi]
      | succ i => simp only [lset]; rw [ih hi]
  rwa [hl]
end
/-- The least begin of the first k. -/
def Lb (fs : List Q) (k : Nat) (b : Int) : Prop := (b = -1 ∧ ∀ j, j < k → (gq fs j).bs.length = 0) ∨ (0 ≤ b ∧ (∃ j, j < k ∧ 0 < (gq fs j).bs.length ∧ (gq fs j).bg = b) ∧ ∀ j, j < k → 0 < (gq fs j).bs.length → b ≤ (gq fs j).bg)
theorem Lb.cases {fs : List Q} {k : Nat} {b : Int} (h : Lb fs k b) : b = -1 ∨ 0 ≤ b := h.elim (fun h => .inl h.1) (fun h => .inr h.1)
theorem Lb.skip {fs : List Q} {k : Nat} {b : Int} (h : Lb fs k b) (h0 : (gq fs k).bs.length = 0) : Lb fs (k + 1) b := by
  rcases h with ⟨h1, h2⟩ | ⟨h1, ⟨i, h2, h3, h4⟩, h5⟩
  · refine .inl ⟨h1, fun j hj => ?_⟩
    by_cases e : j = k
    · subst e; exact h0
    · exact h2 j (by omega)
  · refine .inr ⟨h1, ⟨i, by omega, h3, h4⟩, fun j hj hp => ?_⟩
    by_cases e : j = k
    · subst e; omega
    · exact h5 j (by omega) hp
theorem Lb.take {fs : List Q} {k : Nat} {b : Int} (h : Lb fs k b) (h0 : 0 < (gq fs k).bs.length) (hg : 0 ≤ (gq fs k).bg) (hb : b < 0 ∨ (gq fs k).bg < b) : Lb fs (k + 1) (gq fs k).bg := by
  refine .inr ⟨hg, ⟨k, by omega, h0, rfl⟩, fun j hj hp => ?_⟩
  by_cases e : j = k
  · subst e; exact Int.le_refl _
  · rcases h with ⟨h1, h2⟩ | ⟨h1, _, h5⟩
    · have := h2 j (by omega); omega
    · have := h5 j (by omega) hp; omega
theorem Lb.keep {fs : List Q} {k : Nat} {b : Int} (h : Lb fs k b) (h0 : 0 ≤ b) (hb : b ≤ (gq fs k).bg) : Lb fs (k + 1) b := by
  rcases h with ⟨h1, _⟩ | ⟨h1, ⟨i, h2, h3, h4⟩, h5⟩
  · omega
  · refine .inr ⟨h1, ⟨i, by omega, h3, h4⟩, fun j hj hp => ?_⟩
    by_cases e : j = k
    · subst e; exact hb
    · exact h5 j (by omega) hp
/-- The first of the soonest ends of the first k that may begin. -/
def Mb (fs : List Q) (t : Int) (k : Nat) (b : Int) : Prop := (b = -1 ∧ ∀ j, j < k → 0 < (gq fs j).bs.length → t < (gq fs j).bg) ∨ (0 ≤ b ∧ b.toNat < k ∧ 0 < (gq fs b.toNat).bs.length ∧ (gq fs b.toNat).bg ≤ t ∧ ∀ j, j < k → 0 < (gq fs j).bs.length → (gq fs j).bg ≤ t → (gq fs b.toNat).en < (gq fs j).en ∨ ((gq fs b.toNat).en = (gq fs j).en ∧ b.toNat ≤ j))
theorem Mb.cases {fs : List Q} {t : Int} {k : Nat} {b : Int} (h : Mb fs t k b) : b = -1 ∨ (0 ≤ b ∧ b.toNat < k) := h.elim (fun h => .inl h.1) (fun h => .inr ⟨h.1, h.2.1⟩)
theorem Mb.skip {fs : List Q} {t : Int} {k : Nat} {b : Int} (h : Mb fs t k b) (h0 : (gq fs k).bs.length = 0 ∨ t < (gq fs k).bg) : Mb fs t (k + 1) b := by
  rcases h with ⟨h1, h2⟩ | ⟨h1, h2, h3, h4, h5⟩
  · refine .inl ⟨h1, fun j hj hp => ?_⟩
    by_cases e : j = k
    · subst e; omega
    · exact h2 j (by omega) hp
  · refine .inr ⟨h1, by omega, h3, h4, fun j hj hp hg => ?_⟩
    by_cases e : j = k
    · subst e; omega
    · exact h5 j (by omega) hp hg
theorem Mb.take {fs : List Q} {t : Int} {k : Nat} {b : Int} (h : Mb fs t k b) (h0 : 0 < (gq fs k).bs.length) (hg : (gq fs k).bg ≤ t) (hb : b < 0 ∨ (gq fs k).en < (gq fs b.toNat).en) : Mb fs t (k + 1) (k : Int) := by
  refine .inr ⟨by omega, by omega, by simpa using h0, by simpa using hg, fun j hj hp hj2 => ?_⟩
  simp only [Int.toNat_natCast]
  by_cases e : j = k
  · subst e; exact .inr ⟨rfl, Nat.le_refl _⟩
  · rcases h with ⟨h1, h2⟩ | ⟨h1, h2, h3, h4, h5⟩
    · have := h2 j (by omega) hp; omega
    · have := h5 j (by omega) hp hj2; omega
theorem Mb.keep {fs : List Q} {t : Int} {k : Nat} {b : Int} (h : Mb fs t k b) (h0 : 0 ≤ b) (hb : (gq fs b.toNat).en ≤ (gq fs k).en) : Mb fs t (k + 1) b := by
  rcases h with ⟨h1, _⟩ | ⟨h1, h2, h3, h4, h5⟩
  · omega
  · refine .inr ⟨h1, by omega, h3, h4, fun j hj hp hj2 => ?_⟩
    by_cases e : j = k
    · subst e; omega
    · exact h5 j (by omega) hp hj2
structure Fl where
  A1 : Option Addr
  c1 : Nat
  bs : List Int
  bg : Int
  en : Int
def Fl.nil : Fl := ⟨none, 0, [], 0, 0⟩
def Fl.q (f : Fl) : Q := ⟨f.bs, f.bg, f.en⟩
end Go.Proofs.YtoibebmhfcjpfaaGreatDoor.Wfq

namespace Go.Proofs.YtoibebmhfcjpfaaGreatDoor.Wfq
open Go.RowKit Go.Proofs.YtoibebmhfcjpfaaGreatDoor.E Go.Proofs.YtoibebmhfcjpfaaGreatDoor.Scfq

theorem getW {zs : List Int} {j : Nat} (h : j < zs.length) : (zs.map (Value.int .i64))[j]? = some (.int .i64 (zs.getD j 0)) := by simp [h]
theorem wstep {ws : List Int} {k : Nat} : (∀ j, j < k + 1 → 1 ≤ ws.getD j 0 ∧ ws.getD j 0 ≤ 12) ↔ (∀ j, j < k → 1 ≤ ws.getD j 0 ∧ ws.getD j 0 ≤ 12) ∧ 1 ≤ ws.getD k 0 ∧ ws.getD k 0 ≤ 12 := by
  constructor
  · intro h
    exact ⟨fun j hj => h j (by omega), h k (by omega)⟩
  · rintro ⟨h1, h2⟩ j hj
    by_cases h : j < k
    · exact h1 j h
    · obtain rfl : j = k := by omega
      exact h2

set_option maxRecDepth 100000 in
set_option maxHeartbeats 1000000 in
theorem wrongE (A : Option Addr) (n c : Nat) (ws : List Int) (w : World) (hr : Rd w A (ws.map (.int .i64))) (hn : ws.length = n) (hm : n ≤ 140737488355328) :
    Calls Tryz.prog 5 #[.slice A n c] w fun e w' => e = .returned ((.int .i64 (wrongOf ws))) ∧ St w w' [] := by
  refine calls_tr Tryz.func5 Tryz.ntmps5 rfl rfl (St.refl _) ?_
  refine tr_seq ?_
  refine tr_region ?_
  refine tl_step rfl (oj_val (y_assign fe_c) ?_)
  refine tl_nil ?_
  refine tx_then ?_
  refine tr_seq ?_
  refine tr_seq ?_
  refine tr_region ?_
  refine tl_step rfl (oj_val (y_move (fe_t rfl)) ?_)
  refine tl_step rfl (oj_val (y_len Tryz.underlying22 (fe_t rfl)) ?_)
  refine tl_step rfl (oj_val (y_gtr (fe_t rfl) fe_c) ?_)
  refine tl_nil ?_
  refine tx_then ?_
  refine tr_condp (fe_t rfl) (fun hq1 => ?_) (fun hq2 => ?_)
  · try (exfalso; omega)
    all_goals
      refine tr_seq ?_
      refine tr_region ?_
      refine tl_step rfl (oj_val (y_assign fe_c) ?_)
      refine tl_nil ?_
      refine tx_then ?_
      refine tr_ret ?_
      refine tx_then_ret ?_
      refine tx_ret (res1 Tryz.results5 (rok_t rfl)) (fun w' hS => ?_)
      exact ⟨by rw [wrong_f (.inl (by omega))], hS.pick [] _ rfl (by decide)⟩
  · try (exfalso; omega)
    all_goals
      refine tr_skip ?_
      refine tx_then ?_
      refine tr_seq ?_
      refine tr_seq ?_
      refine tr_region ?_
      refine tl_step rfl (oj_val (y_move (fe_t rfl)) ?_)
      refine tl_step rfl (oj_val (y_len Tryz.underlying22 (fe_t rfl)) ?_)
      refine tl_step rfl (oj_val (y_move fe_c) ?_)
      refine tl_nil ?_
      refine tx_then ?_
      refine tr_block ?_
      refine tr_loop1 [2, 4, 10, 11, 12, 13, 14, 15, 16, 17, 18, 19, 20] (fun (k : Nat) => [(10, .int .i64 (k : Int))]) 0 (fun (k : Nat) => []) (fun (k : Nat) => k ≤ n ∧ ∀ j, j < k → 1 ≤ ws.getD j 0 ∧ ws.getD j 0 ≤ 12) (fun (k : Nat) => n - k) (0) (cov_cons (by first | rfl | exact v_int (by omega) | exact v_bool (by simp [*])) (cov_nil)) (fun w h => h) ?_ ?_
      · try dsimp only
        exact ⟨by omega, fun j h => by omega⟩
      intro k hp
      obtain ⟨hk, hall⟩ := hp
      refine tr_seq ?_
      refine tr_region ?_
      refine tl_step rfl (oj_val (y_lss (fe_t rfl) (fe_t rfl)) ?_)
      refine tl_nil ?_
      refine tx_then ?_
      refine tr_seq ?_
      refine tr_condp (fe_t rfl) (fun hq3 => ?_) (fun hq4 => ?_)
      · try (exfalso; omega)
        all_goals
          refine tr_skip ?_
          refine tx_then ?_
          refine tr_seq ?_
          refine tr_block ?_
          refine tr_seq ?_
          refine tr_region ?_
          refine tl_step rfl (oj_val (y_index Tryz.underlying22 Tryz.sizeOf3 (fe_t rfl) (fe_t rfl) (rdl_out hr) (by simp; omega) (by decide) (by omega) (Nat.mul_one _)) ?_)
          refine tl_step rfl (oj_val (y_ld Tryz.isAgg3 (fe_t rfl) (rdl_out hr) (getW (by omega))) ?_)
          refine tl_step rfl (oj_val (y_assign (fe_t rfl)) ?_)
          refine tl_nil ?_
          refine tx_then ?_
          refine tr_seq ?_
          refine tr_region ?_
          refine tl_step rfl (oj_val (y_move (fe_t rfl)) ?_)
          refine tl_step rfl (oj_val (y_lss (fe_t rfl) fe_c) ?_)
          refine tl_step rfl (oj_val (y_move (fe_t rfl)) ?_)
          refine tl_splitp (d := 16) rfl (fun hq5 => ?_) (fun hq6 => ?_)
          · try (exfalso; omega)
            all_goals
              refine tl_skip rfl rfl rfl rfl ?_
              refine tl_skip rfl rfl rfl rfl ?_
              refine tl_step rfl (oj_val (y_pickt (fe_t rfl) fe_c) ?_)
              refine tl_nil ?_
              refine tx_then ?_
              refine tr_condt (fe_t rfl) ?_
              refine tr_seq ?_
              refine tr_region ?_
              refine tl_step rfl (oj_val (y_assign fe_c) ?_)
              refine tl_nil ?_
              refine tx_then ?_
              refine tr_ret ?_
              refine tx_in_ret ?_
              refine tx_then_ret ?_
              refine tx_then_ret ?_
              refine tx_in_ret ?_
              refine tx_then_ret ?_
              refine tx_ret (res1 Tryz.results5 (rok_t rfl)) (fun w' hS => ?_)
              exact ⟨by rw [wrong_f (.inr ⟨k, by omega, by omega⟩)], hS.pick [] _ rfl (by decide)⟩
          · try (exfalso; omega)
            all_goals
              refine tl_want rfl rfl rfl (oj_val (y_move (fe_t rfl)) ?_)
              refine tl_want rfl rfl rfl (oj_val (y_gtr (fe_t rfl) fe_c) ?_)
              refine tl_step rfl (oj_val (y_pickf (fe_t rfl) (fe_t rfl)) ?_)
              refine tl_nil ?_
              refine tx_then ?_
              refine tr_condp (fe_t rfl) (fun hq7 => ?_) (fun hq8 => ?_)
              · try (exfalso; omega)
                all_goals
                  refine tr_seq ?_
                  refine tr_region ?_
                  refine tl_step rfl (oj_val (y_assign fe_c) ?_)
                  refine tl_nil ?_
                  refine tx_then ?_
                  refine tr_ret ?_
                  refine tx_in_ret ?_
                  refine tx_then_ret ?_
                  refine tx_then_ret ?_
                  refine tx_in_ret ?_
                  refine tx_then_ret ?_
                  refine tx_ret (res1 Tryz.results5 (rok_t rfl)) (fun w' hS => ?_)
                  exact ⟨by rw [wrong_f (.inr ⟨k, by omega, by omega⟩)], hS.pick [] _ rfl (by decide)⟩
              · try (exfalso; omega)
                all_goals
                  refine tr_skip ?_
                  refine tx_in ?_
                  refine tx_then ?_
                  refine tr_region ?_
                  refine tl_step rfl (oj_val (y_inc (fe_t rfl) fe_c (by omega)) ?_)
                  refine tl_step rfl (oj_val (y_move (fe_t rfl)) ?_)
                  refine tl_nil ?_
                  apply tx_back1 (k + 1)
                  · exact (cov_cons (by first | rfl | exact v_int (by omega) | exact v_bool (by simp [*])) (cov_nil))
                  · repeat (first | exact over_nil | refine over_put rfl ?_ | refine over_drop rfl ?_)
                  · exact fun w h => h.pick [] _ rfl (by decide)
                  · exact ⟨⟨by omega, wstep.2 ⟨hall, by omega⟩⟩, by omega⟩
      · try (exfalso; omega)
        all_goals
          refine tr_exit ?_
          refine tx_then_exit ?_
          refine tx_then_exit ?_
          refine tx_in_exit ?_
          refine tx_then ?_
          refine tr_seq ?_
          refine tr_region ?_
          refine tl_step rfl (oj_val (y_assign fe_c) ?_)
          refine tl_nil ?_
          refine tx_then ?_
          refine tr_ret ?_
          refine tx_ret (res1 Tryz.results5 (rok_t rfl)) (fun w' hS => ?_)
          exact ⟨by rw [wrong_t (by omega) (fun j hj => hall j (by omega))], hS.pick [] _ rfl (by decide)⟩

end Go.Proofs.YtoibebmhfcjpfaaGreatDoor.Wfq
