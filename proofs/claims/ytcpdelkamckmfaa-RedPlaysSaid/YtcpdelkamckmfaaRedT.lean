/- Segments: plain. -/
import Derived.Test.YtcpdelkamckmfaaRedG
namespace Go.Proofs.Ytcpdelkamckmfaa.Red
open Go.RowKit Go.Proofs.Ytcpdelkamckmfaa.E Go.Proofs.Ytcpdelkamckmfaa.Big Go.Proofs.Ytcpdelkamckmfaa.Frac

section
variable {tg iv : Int} {l : List (Int × Int)} {k n : Nat}
/-- What has come out so far, and false behind it. -/
def outs (tg iv : Int) (l : List (Int × Int)) (n k : Nat) : List Value := bools ((run tg iv (l.take k)).2 ++ List.replicate (n - k) false)
theorem outs_zero : outs tg iv l n 0 = List.replicate n (.bool false) := by simp [outs, run, bools]
theorem outs_all (h : l.length = n) : outs tg iv l n n = bools (run tg iv l).2 := by
  rw [outs, Nat.sub_self, List.replicate_zero, List.append_nil, List.take_of_length_le (by omega)]
theorem outs_len (h : l.length = n) (hk : k ≤ n) : (outs tg iv l n k).length = n := by
  simp [outs, bools, run_len]; omega
theorem outs_false (h : l.length = n) (hk : k < n) (hb : (stp tg iv (run tg iv (l.take k)).1 (l[k]'(by omega))).2 = false) : outs tg iv l n (k + 1) = outs tg iv l n k := by
  unfold outs
  rw [run_take (by omega), rnx, hb, show n - k = (n - (k + 1)) + 1 by omega, List.replicate_succ]
  simp
theorem outs_true (h : l.length = n) (hk : k < n) (hb : (stp tg iv (run tg iv (l.take k)).1 (l[k]'(by omega))).2 = true) : outs tg iv l n (k + 1) = (outs tg iv l n k).set k (.bool true) := by
  unfold outs
  have hl : (run tg iv (l.take k)).2.length = k := by rw [run_len, List.length_take]; omega
  rw [run_take (by omega), rnx, hb, show n - k = (n - (k + 1)) + 1 by omega, List.replicate_succ, bools, bools]
  simp only [List.map_append, List.map_cons, List.map_nil]
  rw [List.set_append_right _ _ (by rw [List.length_map, hl]; exact Nat.le_refl _), List.length_map, hl, Nat.sub_self, List.set_cons_zero]
  simp
/-- In a run of what has waited too long: its first one, how many drops, when the next one. -/
structure Seg (tg iv : Int) (l : List (Int × Int)) (a : Int) (k nn : Nat) (e : Int) : Prop where
  s : (run tg iv (l.take k)).1.since = a
  m : (run tg iv (l.take k)).1.many = nn
  e0 : nn = 0 → e = a + iv
  e1 : 0 < nn → e = (run tg iv (l.take k)).1.next
theorem seg_start (h : k < l.length) (hw : tg ≤ l[k].2) (hs : (run tg iv (l.take k)).1 = fresh) : Seg tg iv l l[k].1 (k + 1) 0 (l[k].1 + iv) ∧ (stp tg iv (run tg iv (l.take k)).1 l[k]).2 = false := by
  have e : stp tg iv (run tg iv (l.take k)).1 l[k] = (⟨l[k].1, false, 0, 0⟩, false) := by
    rw [hs, stp, if_neg (by omega), if_pos (by decide)]; rfl
  refine ⟨⟨?_, ?_, fun _ => rfl, fun h => by omega⟩, by rw [e]⟩ <;> rw [run_take h, rnx, e]
theorem seg_no {a e : Int} {nn : Nat} (h : k < l.length) (hi : RInv (run tg iv (l.take k)).1 k) (ha : 0 ≤ a) (hw : tg ≤ l[k].2) (hg : Seg tg iv l a k nn e) (hlt : l[k].1 < e) : Seg tg iv l a (k + 1) nn e ∧ (stp tg iv (run tg iv (l.take k)).1 l[k]).2 = false := by
  obtain ⟨g1, g2, g3, g4⟩ := hg
  have hd := hi.d
  have e : stp tg iv (run tg iv (l.take k)).1 l[k] = ((run tg iv (l.take k)).1, false) := by
    rw [stp, if_neg (by omega), if_neg (by omega), if_neg, if_neg]
    · rintro ⟨h1, h2⟩
      rw [hd, decide_eq_true_eq, g2] at h1
      have := g4 h1
      omega
    · rintro ⟨h1, h2⟩
      rw [hd, decide_eq_false_iff_not, g2] at h1
      have := g3 (by omega)
      omega
  refine ⟨⟨?_, ?_, g3, ?_⟩, by rw [e]⟩ <;> rw [run_take h, rnx, e]
  · exact g1
  · exact g2
  · exact g4
theorem seg_yes {a e : Int} {nn : Nat} (h : k < l.length) (hi : RInv (run tg iv (l.take k)).1 k) (ha : 0 ≤ a) (hw : tg ≤ l[k].2) (hg : Seg tg iv l a k nn e) (hle : e ≤ l[k].1) : Seg tg iv l a (k + 1) (nn + 1) ((if nn = 0 then l[k].1 else e) + gapv iv (nn + 1)) ∧ (stp tg iv (run tg iv (l.take k)).1 l[k]).2 = true := by
  obtain ⟨g1, g2, g3, g4⟩ := hg
  have hd := hi.d
  have e : stp tg iv (run tg iv (l.take k)).1 l[k] = (⟨a, true, (if nn = 0 then l[k].1 else e) + gapv iv (nn + 1), nn + 1⟩, true) := by
    rw [stp, if_neg (by omega), if_neg (by omega)]
    by_cases hz : nn = 0
    · have h1 : (run tg iv (l.take k)).1.dr = false := by rw [hd, decide_eq_false_iff_not]; omega
      rw [if_pos ⟨h1, by have := g3 hz; omega⟩, if_pos hz, g1, g2]
    · have h1 : (run tg iv (l.take k)).1.dr = true := by rw [hd, decide_eq_true_eq]; omega
      have h2 := g4 (by omega)
      rw [if_neg (by rintro ⟨h3, _⟩; rw [h1] at h3; cases h3), if_pos ⟨h1, by omega⟩, if_neg hz, g1, g2, h2]
  refine ⟨⟨?_, ?_, fun h => by omega, fun _ => ?_⟩, by rw [e]⟩ <;> rw [run_take h, rnx, e]
theorem stp_low (h : k < l.length) (hw : l[k].2 < tg) : (stp tg iv (run tg iv (l.take k)).1 l[k]).2 = false ∧ (run tg iv (l.take (k + 1))).1 = fresh := by
  have e : stp tg iv (run tg iv (l.take k)).1 l[k] = (fresh, false) := by rw [stp, if_pos hw]
  rw [run_take h, rnx, e]
  exact ⟨rfl, rfl⟩
end

end Go.Proofs.Ytcpdelkamckmfaa.Red
