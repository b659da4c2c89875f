/- The flows of wfq as they lie in memory. -/
import Derived.Test.YtcpdelkamckmfaaWqM
import Derived.Test.YtcpdelkamckmfaaEU
namespace Go.Proofs.Ytcpdelkamckmfaa.Wfq
open Go.RowKit Go.Proofs.Ytcpdelkamckmfaa.E Go.Proofs.Ytcpdelkamckmfaa.Scfq

section
variable {P : Program} {N : Nat} {w0 : World} {F : Frm} {L : List Res}
theorem res0 {fn : Func} (hf : fn.results = #[]) : ∀ a w, Fr N a F → St w0 w L → (results fn a.tmps).run P w = .ok (.tuple #[]) w := fun a w _ _ => by
  simp [results, hf]
theorem St.as {w : World} {i : Nat} {r r' : Res} (h : St w0 w L) (hi : lget L i = some r) (he : r = r') : St w0 w (lset L i r') := by
  subst he
  have hl : lset L i r = L := by
    clear h
    induction L generalizing i with
    | nil => rfl
    | cons a L ih => cases i with
      | zero => simp only [lget, Option.some.injEq] at hi; simp [lset, hi]
      | succ i => simp only [lset]; rw [ih hi]
  rwa [hl]
end
/-- The least begin of the first k. -/
def Lb (fs : List Q) (k : Nat) (b : Int) : Prop := (b = -1 ∧ ∀ j, j < k → (gq fs j).bs.length = 0) ∨ (0 ≤ b ∧ (∃ j, j < k ∧ 0 < (gq fs j).bs.length ∧ (gq fs j).bg = b) ∧ ∀ j, j < k → 0 < (gq fs j).bs.length → b ≤ (gq fs j).bg)
theorem lb_zero (fs : List Q) : Lb fs 0 (-1) := .inl ⟨rfl, fun j h => by omega⟩
theorem Lb.cases {fs : List Q} {k : Nat} {b : Int} (h : Lb fs k b) : b = -1 ∨ 0 ≤ b := h.elim (fun h => .inl h.1) (fun h => .inr h.1)
theorem Lb.skip {fs : List Q} {k : Nat} {b : Int} (h : Lb fs k b) (h0 : (gq fs k).bs.length = 0) : Lb fs (k + 1) b := by
  rcases h with ⟨h1, h2⟩ | ⟨h1, ⟨i, h2, h3, h4⟩, h5⟩
  · refine .inl ⟨h1, fun j hj => ?_⟩
    by_cases e : j = k
    · subst e; exact h0
    · exact h2 j (by omega)
  · refine .inr ⟨h1, ⟨i, by omega, h3, h4⟩, fun j hj hp => ?_⟩
    by_cases e : j = k
    · subst e; omega
    · exact h5 j (by omega) hp
theorem Lb.take {fs : List Q} {k : Nat} {b : Int} (h : Lb fs k b) (h0 : 0 < (gq fs k).bs.length) (hg : 0 ≤ (gq fs k).bg) (hb : b < 0 ∨ (gq fs k).bg < b) : Lb fs (k + 1) (gq fs k).bg := by
  refine .inr ⟨hg, ⟨k, by omega, h0, rfl⟩, fun j hj hp => ?_⟩
  by_cases e : j = k
  · subst e; exact Int.le_refl _
  · rcases h with ⟨h1, h2⟩ | ⟨h1, _, h5⟩
    · have := h2 j (by omega); omega
    · have := h5 j (by omega) hp; omega
theorem Lb.keep {fs : List Q} {k : Nat} {b : Int} (h : Lb fs k b) (h0 : 0 ≤ b) (hb : b ≤ (gq fs k).bg) : Lb fs (k + 1) b := by
  rcases h with ⟨h1, _⟩ | ⟨h1, ⟨i, h2, h3, h4⟩, h5⟩
  · omega
  · refine .inr ⟨h1, ⟨i, by omega, h3, h4⟩, fun j hj hp => ?_⟩
    by_cases e : j = k
    · subst e; exact hb
    · exact h5 j (by omega) hp
/-- The first of the soonest ends of the first k that may begin. -/
def Mb (fs : List Q) (t : Int) (k : Nat) (b : Int) : Prop := (b = -1 ∧ ∀ j, j < k → 0 < (gq fs j).bs.length → t < (gq fs j).bg) ∨ (0 ≤ b ∧ b.toNat < k ∧ 0 < (gq fs b.toNat).bs.length ∧ (gq fs b.toNat).bg ≤ t ∧ ∀ j, j < k → 0 < (gq fs j).bs.length → (gq fs j).bg ≤ t → (gq fs b.toNat).en < (gq fs j).en ∨ ((gq fs b.toNat).en = (gq fs j).en ∧ b.toNat ≤ j))
theorem mb_zero (fs : List Q) (t : Int) : Mb fs t 0 (-1) := .inl ⟨rfl, fun j h => by omega⟩
theorem Mb.cases {fs : List Q} {t : Int} {k : Nat} {b : Int} (h : Mb fs t k b) : b = -1 ∨ (0 ≤ b ∧ b.toNat < k) := h.elim (fun h => .inl h.1) (fun h => .inr ⟨h.1, h.2.1⟩)
theorem Mb.skip {fs : List Q} {t : Int} {k : Nat} {b : Int} (h : Mb fs t k b) (h0 : (gq fs k).bs.length = 0 ∨ t < (gq fs k).bg) : Mb fs t (k + 1) b := by
  rcases h with ⟨h1, h2⟩ | ⟨h1, h2, h3, h4, h5⟩
  · refine .inl ⟨h1, fun j hj hp => ?_⟩
    by_cases e : j = k
    · subst e; omega
    · exact h2 j (by omega) hp
  · refine .inr ⟨h1, by omega, h3, h4, fun j hj hp hg => ?_⟩
    by_cases e : j = k
    · subst e; omega
    · exact h5 j (by omega) hp hg
theorem Mb.take {fs : List Q} {t : Int} {k : Nat} {b : Int} (h : Mb fs t k b) (h0 : 0 < (gq fs k).bs.length) (hg : (gq fs k).bg ≤ t) (hb : b < 0 ∨ (gq fs k).en < (gq fs b.toNat).en) : Mb fs t (k + 1) (k : Int) := by
  refine .inr ⟨by omega, by omega, by simpa using h0, by simpa using hg, fun j hj hp hj2 => ?_⟩
  simp only [Int.toNat_natCast]
  by_cases e : j = k
  · subst e; exact .inr ⟨rfl, Nat.le_refl _⟩
  · rcases h with ⟨h1, h2⟩ | ⟨h1, h2, h3, h4, h5⟩
    · have := h2 j (by omega) hp; omega
    · have := h5 j (by omega) hp hj2; omega
theorem Mb.keep {fs : List Q} {t : Int} {k : Nat} {b : Int} (h : Mb fs t k b) (h0 : 0 ≤ b) (hb : (gq fs b.toNat).en ≤ (gq fs k).en) : Mb fs t (k + 1) b := by
  rcases h with ⟨h1, _⟩ | ⟨h1, h2, h3, h4, h5⟩
  · omega
  · refine .inr ⟨h1, by omega, h3, h4, fun j hj hp hj2 => ?_⟩
    by_cases e : j = k
    · subst e; omega
    · exact h5 j (by omega) hp hj2
theorem mb_may {fs : List Q} {n : Nat} {t b : Int} (h : Mb fs (max t b) n (-1 : Int)) (hl : Least fs n b) : False := by
  obtain ⟨⟨j, h1, h2, h3⟩, _⟩ := hl
  rcases h with ⟨_, h⟩ | ⟨h, _⟩
  · have := h j h1 h2; omega
  · omega
structure Fl where
  A1 : Option Addr
  c1 : Nat
  bs : List Int
  bg : Int
  en : Int
def Fl.nil : Fl := ⟨none, 0, [], 0, 0⟩
def cF (f : Fl) : List Value := [.slice f.A1 f.bs.length f.c1, (.int .i64 f.bg), (.int .i64 f.en)]
theorem hcF : ∀ f, (cF f).length = 3 := fun _ => rfl
def Fl.bV (f : Fl) : Vs := ⟨f.A1, f.bs.length, f.c1, cI f.bs⟩
def Fl.q (f : Fl) : Q := ⟨f.bs, f.bg, f.en⟩
theorem hdI {ts : List Int} (h : 0 < ts.length) : (cI ts)[0]? = some (.int .i64 (hd ts)) := by
  cases ts with
  | nil => simp at h
  | cons a l => rfl
theorem flq {l : List Fl} {fs : List Q} (h : l.map Fl.q = fs) (k : Nat) : gq fs k = (l.getD k Fl.nil).q := by
  unfold gq
  rw [← h]
  exact getD_map Fl.q rfl
theorem cut_b {l : List Fl} {k : Nat} : (l.map Fl.bV).set k ((Fl.bV (l.getD k Fl.nil)).tl 1) = (l.set k ⟨cutA (l.getD k Fl.nil).A1 1 (l.getD k Fl.nil).c1 1, (l.getD k Fl.nil).c1 - 1, (l.getD k Fl.nil).bs.drop 1, (l.getD k Fl.nil).bg, (l.getD k Fl.nil).en⟩).map Fl.bV := by
  rw [List.map_set]
  simp [Vs.tl, Fl.bV, cI, List.map_drop]
theorem lb_none {fs : List Q} {n k : Nat} {b : Int} (hk : k = n) (h : Lb fs k b) (hb : b < 0) : ∀ j, j < n → (gq fs j).bs.length = 0 := by
  subst hk
  rcases h with ⟨_, h⟩ | ⟨h, _⟩
  · exact h
  · omega
theorem lb_at {fs : List Q} {k k0 : Nat} {b : Int} (h : Lb fs k b) (e : k = k0) : Lb fs k0 b := e ▸ h
theorem lb_some {fs : List Q} {n k : Nat} {b : Int} (hk : k = n) (h : Lb fs k b) (hb : ¬ b < 0) : 0 ≤ b ∧ Least fs n b := by
  subst hk
  rcases h with ⟨h, _⟩ | ⟨h, h1, h2⟩
  · omega
  · exact ⟨h, h1, h2⟩
theorem mb_some {fs : List Q} {n k : Nat} {t b m : Int} (hk : k = n) (h : Mb fs (max t b) k m) (hl : Least fs n b) : ∃ q : Nat, m = q ∧ May fs n (max t b) q := by
  subst hk
  have h0 : m ≠ -1 := fun e => by subst e; exact mb_may h hl
  rcases h with ⟨h, _⟩ | ⟨h1, h2, h3, h4, h5⟩
  · exact absurd h h0
  · exact ⟨m.toNat, by omega, h2, h3, h4, h5⟩
end Go.Proofs.Ytcpdelkamckmfaa.Wfq
