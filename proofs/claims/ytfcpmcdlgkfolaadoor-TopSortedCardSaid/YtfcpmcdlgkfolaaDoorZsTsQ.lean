/- What a heap has left of what is pushed: in the order in which the flows are done. -/
import Derived.Test.YtfcpmcdlgkfolaaDoorZsTsM
import Derived.Test.YtfcpmcdlgkfolaaDoorZsHpG
import Derived.Test.YtfcpmcdlgkfolaaDoorZsGpB
namespace Go.Proofs.YtfcpmcdlgkfolaaDoor.Sorted
open Go.RowKit Go.Proofs.YtfcpmcdlgkfolaaDoor.E Go.Proofs.YtfcpmcdlgkfolaaDoor.Gps Go.Proofs.YtfcpmcdlgkfolaaDoor.Heap

theorem pushes_len {bs ws : List Int} {n : Nat} : (pushes bs ws n).length = n := by simp [pushes]
theorem playQ {bs ws : List Int} {A : Option Addr} {n m c : Nat} {xs : List Value} {w : World} (hr : Rd w A xs) (hx : xs = (pushes bs ws n).flatMap c4) (hm : m = n) (hn : n ≤ 4398046511103) :
    Calls Tryd.prog 32 #[.slice A m c] w fun e w' => ∃ r : PR, PRok n (run (pushes bs ws n)) r ∧ e = .returned (.tuple #[.slice r.e.A r.e.n r.e.c, .slice r.p.A r.p.n r.p.c, .slice r.d.A r.d.n r.k]) ∧ St w w' [vec 25 1 (.slice r.e.A r.e.n r.e.c) r.e.n r.e.xs, vec 3 1 (.slice r.p.A r.p.n r.p.c) r.p.n r.p.xs, vec 3 1 (.slice r.d.A r.d.n r.d.c) r.d.n r.d.xs] := by
  subst hx
  obtain rfl := hm
  exact playE A _ c _ w hr pushes_len hn
theorem left {bs ws : List Int} {n : Nat} (h : Rg n bs ws) (hw : ∀ k, k < n → gI ws k ≤ 12) {r : Nat × List Nat} (hs : Srt (Lt (gI (eL bs ws n n)) (gI ws)) n n r.2) {q : PR} (hd : PRok n (run (pushes bs ws n)) q) : q.d.n = (r.2.map fun (k : Nat) => (k : Int)).length ∧ q.d.xs = (r.2.map fun (k : Nat) => (k : Int)).map (.int .i64) := by
  have h1 := one h hw hs hd.dr
  exact ⟨by rw [hd.dn.1, h1], by rw [hd.dx, h1]; rfl⟩
end Go.Proofs.YtfcpmcdlgkfolaaDoor.Sorted
