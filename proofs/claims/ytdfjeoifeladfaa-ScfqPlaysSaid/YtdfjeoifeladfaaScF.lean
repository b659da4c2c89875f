/- The flows of scfq as they lie in memory. -/
import Derived.Test.YtdfjeoifeladfaaScM
import Derived.Test.YtdfjeoifeladfaaEU
namespace Go.Proofs.Ytdfjeoifeladfaa.Scfq
open Go.RowKit Go.Proofs.Ytdfjeoifeladfaa.E

/-- A flow as it lies there. -/
structure Fl where
  A1 : Option Addr
  c1 : Nat
  bs : List Int
  A2 : Option Addr
  c2 : Nat
  ts : List Int
  last : Int
def Fl.nil : Fl := ⟨none, 0, [], none, 0, [], 0⟩
def cF (f : Fl) : List Value := [.slice f.A1 f.bs.length f.c1, .slice f.A2 f.ts.length f.c2, (.int .i64 f.last)]
theorem hcF : ∀ f, (cF f).length = 3 := fun _ => rfl
def Fl.bV (f : Fl) : Vs := ⟨f.A1, f.bs.length, f.c1, cI f.bs⟩
def Fl.tV (f : Fl) : Vs := ⟨f.A2, f.ts.length, f.c2, cI f.ts⟩
def Fl.q (f : Fl) : Q := ⟨f.bs, f.ts, f.last⟩
theorem hdI {ts : List Int} (h : 0 < ts.length) : (cI ts)[0]? = some (.int .i64 (hd ts)) := by
  cases ts with
  | nil => simp at h
  | cons a l => rfl
theorem flq {l : List Fl} {s : S} (h : l.map Fl.q = s.fs) (k : Nat) : fq s k = (l.getD k Fl.nil).q := by
  unfold fq
  rw [← h]
  exact getD_map Fl.q rfl
/-- A flow without its first packet. -/
def Fl.cut (f : Fl) : Fl := ⟨cutA f.A1 1 f.c1 1, f.c1 - 1, f.bs.drop 1, cutA f.A2 1 f.c2 1, f.c2 - 1, f.ts.drop 1, f.last⟩
theorem cut_b {l : List Fl} {k : Nat} : (l.map Fl.bV).set k ((Fl.bV (l.getD k Fl.nil)).tl 1) = (l.set k (l.getD k Fl.nil).cut).map Fl.bV := by
  rw [List.map_set]
  simp [Vs.tl, Fl.bV, Fl.cut, cI, List.map_drop]
theorem cut_t {l : List Fl} {k : Nat} : (l.map Fl.tV).set k ((Fl.tV (l.getD k Fl.nil)).tl 1) = (l.set k (l.getD k Fl.nil).cut).map Fl.tV := by
  rw [List.map_set]
  simp [Vs.tl, Fl.tV, Fl.cut, cI, List.map_drop]
/-- The first of the least head tags among the first k. -/
def Bst (l : List Fl) (k : Nat) (b : Int) : Prop :=
  (b = -1 ∧ ∀ j, j < k → (l.getD j Fl.nil).ts.length = 0) ∨
  (0 ≤ b ∧ b.toNat < k ∧ 0 < (l.getD b.toNat Fl.nil).ts.length ∧ ∀ j, j < k → 0 < (l.getD j Fl.nil).ts.length → hd (l.getD b.toNat Fl.nil).ts < hd (l.getD j Fl.nil).ts ∨ (hd (l.getD b.toNat Fl.nil).ts = hd (l.getD j Fl.nil).ts ∧ b.toNat ≤ j))
theorem bst_zero (l : List Fl) : Bst l 0 (-1) := .inl ⟨rfl, fun j h => by omega⟩
theorem Bst.cases {l : List Fl} {k : Nat} {b : Int} (h : Bst l k b) : (b = -1 ∧ ∀ j, j < k → (l.getD j Fl.nil).ts.length = 0) ∨ (0 ≤ b ∧ b.toNat < k ∧ 0 < (l.getD b.toNat Fl.nil).ts.length) := h.imp id fun h => ⟨h.1, h.2.1, h.2.2.1⟩
theorem Bst.skip {l : List Fl} {k : Nat} {b : Int} (h : Bst l k b) (h0 : (l.getD k Fl.nil).ts.length = 0) : Bst l (k + 1) b := by
  rcases h with ⟨h1, h2⟩ | ⟨h1, h2, h3, h4⟩
  · refine .inl ⟨h1, fun j hj => ?_⟩
    by_cases e : j = k
    · subst e; exact h0
    · exact h2 j (by omega)
  · refine .inr ⟨h1, by omega, h3, fun j hj hp => ?_⟩
    by_cases e : j = k
    · subst e; omega
    · exact h4 j (by omega) hp
theorem Bst.take {l : List Fl} {k : Nat} {b : Int} (h : Bst l k b) (h0 : 0 < (l.getD k Fl.nil).ts.length) (hb : b < 0 ∨ hd (l.getD k Fl.nil).ts < hd (l.getD b.toNat Fl.nil).ts) : Bst l (k + 1) (k : Int) := by
  refine .inr ⟨by omega, by omega, by simpa using h0, fun j hj hp => ?_⟩
  simp only [Int.toNat_natCast]
  by_cases e : j = k
  · subst e; exact .inr ⟨rfl, Nat.le_refl _⟩
  · rcases h with ⟨h1, h2⟩ | ⟨h1, h2, h3, h4⟩
    · have := h2 j (by omega); omega
    · have := h4 j (by omega) hp; omega
theorem Bst.keep {l : List Fl} {k : Nat} {b : Int} (h : Bst l k b) (h0 : 0 ≤ b) (hb : hd (l.getD b.toNat Fl.nil).ts ≤ hd (l.getD k Fl.nil).ts) : Bst l (k + 1) b := by
  rcases h with ⟨h1, h2⟩ | ⟨h1, h2, h3, h4⟩
  · omega
  · refine .inr ⟨h1, by omega, h3, fun j hj hp => ?_⟩
    by_cases e : j = k
    · subst e; omega
    · exact h4 j (by omega) hp
end Go.Proofs.Ytdfjeoifeladfaa.Scfq
