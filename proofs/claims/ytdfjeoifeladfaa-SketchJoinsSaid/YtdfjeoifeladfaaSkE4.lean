/- Walks for the sketch. -/
import Derived.Test.YtdfjeoifeladfaaSkE
namespace Go.Proofs.Ytdfjeoifeladfaa.Sketch
open Go.RowKit Go.Proofs.Ytdfjeoifeladfaa.E

theorem right_yes {rows width : Int} (A : Option Addr) (n c : Nat) {zs : List Int} (w : World) (hr : Rd w A (zs.map (.int .i64))) (hn : zs.length = n) (hm : n ≤ 140737488355328) (v : vright rows width zs = true) :
    Calls Try.prog 74 #[.agg #[(.int .i64 rows), (.int .i64 width), .slice A n c]] w fun e w' => e = .returned (.bool true) ∧ Below w.heap.size w w' := v ▸ right_any rows width A n c zs w hr hn hm
theorem vright_yes {rows width : Int} (A : Option Addr) (n c : Nat) {zs : List Int} (w : World) (hr : Rd w A (zs.map (.int .i64))) (hn : zs.length = n) (hm : n ≤ 140737488355328) (v : vright rows width zs = true) :
    Calls Try.prog 22 #[.agg #[(.int .i64 rows), (.int .i64 width), .slice A n c]] w fun e w' => e = .returned (.bool true) ∧ Below w.heap.size w w' := v ▸ vright_any rows width A n c zs w hr hn hm
theorem same_eq (x y : Int) (A B : Option Addr) (n m c d : Nat) (zs : List Int) (w : World) (hr : RdI .i64 w A zs) (hr' : RdI .i64 w B zs) (hn : zs.length = n) (hm : n ≤ 140737488355328) (h : m = n) :
    Calls Try.prog 21 #[.agg #[(.int .i64 x), (.int .i64 y), .slice A n c], .agg #[(.int .i64 x), (.int .i64 y), .slice B m d]] w fun e w' => e = .returned (.bool true) ∧ E.St w w' [] := by
  subst h
  exact of_bel (same_any x y A B m c d zs w hr hr' hn hm)
theorem good_cells {r x : Int} {zs : List Int} (h : vright r x zs = true) : ∀ k (hk : k < zs.length), 0 ≤ zs[k] ∧ zs[k] ≤ 1099511627776 := fun k hk => by
  simp only [vright, Bool.and_eq_true, Bool.not_eq_true'] at h
  have := List.any_eq_false.1 h.2 _ (List.getElem_mem hk)
  exact badCell_f (by simpa using this)
theorem full_of {a b : List Int} {k : Nat} (h1 : k < a.length) (h2 : k < b.length) (h : 1099511627776 < a[k] + b[k]) : full a b = true := by
  rw [full, List.any_eq_true]
  refine ⟨(sums a b)[k]'(by simp [sums]; omega), List.getElem_mem _, ?_⟩
  rw [sums_get h1 h2]
  simpa using h
theorem full_not {a b : List Int} (hl : a.length = b.length) (h : ∀ k (h1 : k < a.length) (h2 : k < b.length), a[k] + b[k] ≤ 1099511627776) : full a b = false := by
  rw [full, List.any_eq_false]
  intro z hz
  obtain ⟨k, hk, rfl⟩ := List.mem_iff_getElem.1 hz
  have hk' : k < a.length := by simp [sums] at hk; omega
  rw [sums_get hk' (by omega)]
  have := h k hk' (by omega)
  simp
  omega
theorem cI_mix {a b : List Int} (h : a.length = b.length) {k : Nat} (hk : k < a.length) : (cI (mix a b k))[k]? = some (.int .i64 a[k]) := by
  rw [cI, List.getElem?_map, List.getElem?_eq_getElem (by rw [mix_len h (by omega)]; exact hk), mix_get h hk]
  rfl
theorem cI_len {l : List Int} : (cI l).length = l.length := by simp [cI]

end Go.Proofs.Ytdfjeoifeladfaa.Sketch
