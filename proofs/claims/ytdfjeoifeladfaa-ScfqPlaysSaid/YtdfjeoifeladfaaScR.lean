/- One list of all that wait, against the flows. -/
import Derived.Test.YtdfjeoifeladfaaScM
import Derived.Test.YtdfjeoifeladfaaEM
namespace Go.Proofs.Ytdfjeoifeladfaa.Scfq
open Go.RowKit Go.Proofs.Ytdfjeoifeladfaa.E

theorem hc3 : ∀ x, (c3 x).length = 3 := fun _ => rfl
def ofl (k : Nat) (x : O3) : Bool := x.1 == (k : Int)
/-- The list and the table of last tags say what the flows say. -/
structure Rel (n : Nat) (lst : List O3) (mp : List (Int × Value)) (s : S) : Prop where
  fl : ∀ x ∈ lst, 0 ≤ x.1 ∧ x.1 < n
  eq : ∀ k, k < n → (lst.filter (ofl k)).map (·.2) = List.zip (fq s k).bs (fq s k).ts
  last : ∀ k : Nat, k < n → (mget mp k).getD (.int .i64 0) = (.int .i64 ((fq s k).last))
theorem o_at {l : List O3} {k : Nat} (h : k < l.length) : l[k] = (o1 l k, o2 l k, o3 l k) := by
  unfold o1 o2 o3
  rw [getD_lt h]
theorem rel_zero (n : Nat) : Rel n [] [] ⟨List.replicate n Q.nil, 0, [], []⟩ :=
  ⟨by simp, fun k _ => by rw [fq_nil]; rfl, fun k _ => by rw [fq_nil]; rfl⟩
theorem rel_err {n : Nat} {lst : List O3} {mp : List (Int × Value)} {s : S} (h : Rel n lst mp s) (errs : List Int) : Rel n lst mp { s with errs := errs } := ⟨h.fl, h.eq, h.last⟩
theorem rel_in {n k i : Nat} {lst : List O3} {mp : List (Int × Value)} {s : S} (h : Rel n lst mp s) (hw : Wf n i s) (hk : k < n) (b t : Int) (now : Int) (errs : List Int) (sent : List (Int × Int)) :
    Rel n (lst ++ [((k : Int), b, t)]) (mput mp k (.int .i64 t)) ⟨s.fs.set k ⟨(fq s k).bs ++ [b], (fq s k).ts ++ [t], t⟩, now, errs, sent⟩ := by
  have hkl : k < s.fs.length := by rw [hw.len]; exact hk
  refine ⟨fun x hx => ?_, fun j hj => ?_, fun j hj => ?_⟩
  · rcases List.mem_append.1 hx with hx | hx
    · exact h.fl x hx
    · simp only [List.mem_singleton] at hx
      subst hx
      exact ⟨by simp, by simpa using hk⟩
  · rw [fq_set hkl, List.filter_append, List.map_append, h.eq j hj]
    by_cases e : j = k
    · subst e
      simp only [if_true]
      rw [List.zip_append (hw.same j)]
      simp [ofl]
    · rw [if_neg e]
      have : ofl j ((k : Int), b, t) = false := by simp [ofl]; omega
      simp [this]
  · rw [fq_set hkl, mput_get]
    by_cases e : j = k
    · subst e; simp
    · rw [if_neg (by omega), if_neg e]
      exact h.last j hj
theorem tags_of {n k i : Nat} {lst : List O3} {mp : List (Int × Value)} {s : S} (h : Rel n lst mp s) (hw : Wf n i s) (hk : k < n) : (lst.filter (ofl k)).map (·.2.2) = (fq s k).ts ∧ (lst.filter (ofl k)).map (·.2.1) = (fq s k).bs := by
  have h1 := h.eq k hk
  have h2 := hw.same k
  have e1 := congrArg (List.map Prod.snd) h1
  have e2 := congrArg (List.map Prod.fst) h1
  rw [List.map_snd_zip (by omega)] at e1
  rw [List.map_fst_zip (by omega)] at e2
  simp only [List.map_map] at e1 e2
  exact ⟨e1, e2⟩
theorem rel_nought {n k i : Nat} {mp : List (Int × Value)} {s : S} (h : Rel n [] mp s) (hw : Wf n i s) (hk : k < n) : (fq s k).ts = [] := (tags_of h hw hk).1.symm
theorem rel_out {n i b : Nat} {lst : List O3} {mp : List (Int × Value)} {s : S} (h : Rel n lst mp s) (hw : Wf n i s) (hb : b < lst.length) (hm : ∀ j, j < lst.length → o3 lst b < o3 lst j ∨ (o3 lst b = o3 lst j ∧ o1 lst b ≤ o1 lst j)) :
    ∃ k : Nat, k < n ∧ o1 lst b = k ∧ (fq s k).ts ≠ [] ∧ hd (fq s k).ts = o3 lst b ∧ hd (fq s k).bs = o2 lst b ∧ (∀ j, j < n → (fq s j).ts ≠ [] → hd (fq s k).ts < hd (fq s j).ts ∨ (hd (fq s k).ts = hd (fq s j).ts ∧ k ≤ j)) ∧
      ∀ now errs sent, Rel n (lst.eraseIdx b) mp ⟨s.fs.set k ⟨(fq s k).bs.drop 1, (fq s k).ts.drop 1, (fq s k).last⟩, now, errs, sent⟩ := by
  have hx := h.fl _ (List.getElem_mem hb)
  have hxe := o_at hb
  rw [hxe] at hx
  simp only at hx
  obtain ⟨k, hk⟩ : ∃ k : Nat, o1 lst b = k := ⟨(o1 lst b).toNat, by omega⟩
  have hkn : k < n := by omega
  have hsplit : lst = lst.take b ++ (o1 lst b, o2 lst b, o3 lst b) :: lst.drop (b + 1) := by
    rw [← hxe, List.getElem_cons_drop, List.take_append_drop]
  have hmin : ∀ y ∈ lst, o3 lst b < y.2.2 ∨ (o3 lst b = y.2.2 ∧ o1 lst b ≤ y.1) := fun y hy => by
    obtain ⟨j, hj, rfl⟩ := List.mem_iff_getElem.1 hy
    rw [o_at hj]
    exact hm j hj
  have hox : ofl k (o1 lst b, o2 lst b, o3 lst b) = true := by simp [ofl, hk]
  generalize hpe : lst.take b = pre at hsplit
  generalize hqe : lst.drop (b + 1) = post at hsplit
  have her : lst.eraseIdx b = pre ++ post := by rw [List.eraseIdx_eq_take_drop_succ, hpe, hqe]
  rw [her]
  generalize o1 lst b = x1 at *
  generalize o2 lst b = x2 at *
  generalize o3 lst b = x3 at *
  clear hm hxe her hpe hqe hb
  have hT := (tags_of h hw hkn).1
  have hB := (tags_of h hw hkn).2
  have hfil : lst.filter (ofl k) = pre.filter (ofl k) ++ (x1, x2, x3) :: post.filter (ofl k) := by
    rw [hsplit, List.filter_append, List.filter_cons, if_pos hox]
  have hpre : pre.filter (ofl k) = [] := by
    cases e : pre.filter (ofl k) with
    | nil => rfl
    | cons y ys =>
      exfalso
      have hy : y ∈ pre.filter (ofl k) := by rw [e]; exact List.mem_cons_self ..
      have hup := hw.up k
      rw [← hT, hfil, List.map_append] at hup
      have h1 := (List.pairwise_append.1 hup).2.2 y.2.2 (List.mem_map.2 ⟨y, hy, rfl⟩) x3 (by simp)
      have h2 := hmin y (by rw [hsplit]; exact List.mem_append_left _ (List.mem_filter.1 hy).1)
      omega
  rw [hpre, List.nil_append] at hfil
  rw [hfil] at hT hB
  simp only [List.map_cons] at hT hB
  refine ⟨k, hkn, hk, by rw [← hT]; simp, by rw [← hT]; rfl, by rw [← hB]; rfl, fun j hj hne => ?_, fun now errs sent => ⟨fun y hy => h.fl y ?_, fun j hj => ?_, fun j hj => ?_⟩⟩
  · have hj1 := (tags_of h hw hj).1
    cases e : lst.filter (ofl j) with
    | nil => rw [e] at hj1; exact absurd hj1.symm hne
    | cons y ys =>
      have hy : y ∈ lst.filter (ofl j) := by rw [e]; exact List.mem_cons_self ..
      obtain ⟨hy1, hy2⟩ := List.mem_filter.1 hy
      have hyj : y.1 = (j : Int) := by simpa [ofl] using hy2
      have := hmin y hy1
      rw [e] at hj1
      rw [← hj1, ← hT]
      simp only [hd, List.map_cons, List.getD_eq_getElem?_getD, List.getElem?_cons_zero, Option.getD_some]
      omega
  · rw [hsplit]
    rcases List.mem_append.1 hy with hy | hy
    · exact List.mem_append_left _ hy
    · exact List.mem_append_right _ (List.mem_cons_of_mem _ hy)
  · rw [fq_set (by rw [hw.len]; exact hkn), List.filter_append]
    by_cases e : j = k
    · subst e
      rw [hpre, if_pos rfl, ← hT, ← hB]
      simp only [List.drop_succ_cons, List.drop_zero, List.nil_append]
      rw [List.zip_map', ← List.map_congr_left (f := fun x : O3 => x.2) (g := fun x => (x.2.1, x.2.2)) (fun x _ => rfl)]
    · rw [if_neg e, ← h.eq j hj, hsplit, List.filter_append, List.filter_cons, if_neg (by simp [ofl, hk]; omega)]
  · rw [fq_set (by rw [hw.len]; exact hkn)]
    split
    · rename_i e; subst e; exact h.last j hj
    · exact h.last j hj
/-- How many of each flow are on the list. -/
def cnts (lst : List O3) (n k : Nat) : List Int := (List.range n).map fun (j : Nat) => (((lst.take k).filter (ofl j)).length : Int)
theorem cnts_zero (lst : List O3) (n : Nat) : cnts lst n 0 = List.replicate n 0 := by
  apply List.ext_getElem
  · simp [cnts]
  · intro i h1 h2
    simp [cnts]
theorem cnts_len (lst : List O3) (n k : Nat) : (cnts lst n k).length = n := by simp [cnts]
theorem cnts_get {lst : List O3} {n k f : Nat} (h : f < n) : (cnts lst n k).getD f 0 = (((lst.take k).filter (ofl f)).length : Int) := by
  rw [getD_lt (by rw [cnts_len]; exact h)]
  simp [cnts]
theorem cnts_le {lst : List O3} {n k f : Nat} (h : f < n) : 0 ≤ (cnts lst n k).getD f 0 ∧ (cnts lst n k).getD f 0 ≤ k := by
  rw [cnts_get h]
  have h1 := List.length_filter_le (ofl f) (lst.take k)
  have h2 := List.length_take_le k lst
  omega
theorem cnts_step {lst : List O3} {n k f : Nat} (hk : k < lst.length) (hf : o1 lst k = f) (h : f < n) : (cnts lst n k).set f ((cnts lst n k).getD f 0 + 1) = cnts lst n (k + 1) := by
  apply List.ext_getElem
  · simp [cnts]
  · intro j h1 h2
    rw [List.getElem_set]
    have hg := cnts_get (lst := lst) (k := k) h
    have hj : j < n := by simpa [cnts] using h2
    simp only [hg]
    simp only [cnts, List.getElem_map, List.getElem_range]
    rw [List.take_succ_eq_append_getElem hk, List.filter_append, o_at hk]
    by_cases e : f = j
    · subst e
      have : ofl f (o1 lst k, o2 lst k, o3 lst k) = true := by simp [ofl, hf]
      simp [this]
    · have : ofl j (o1 lst k, o2 lst k, o3 lst k) = false := by simp [ofl, hf]; omega
      rw [if_neg e]
      simp [this]
theorem cnts_end {n i : Nat} {lst : List O3} {mp : List (Int × Value)} {s : S} (h : Rel n lst mp s) (hw : Wf n i s) : cnts lst n lst.length = left s := by
  apply List.ext_getElem
  · simp [cnts, left, hw.len]
  · intro j h1 h2
    have hj : j < n := by simpa [cnts] using h1
    have ht := congrArg List.length (tags_of h hw hj).1
    rw [List.length_map] at ht
    have hjl : j < s.fs.length := by rw [hw.len]; exact hj
    simp only [cnts, left, List.getElem_map, List.getElem_range, List.take_length]
    rw [ht, fq, getD_lt hjl]
theorem rel_len {n i : Nat} {lst : List O3} {mp : List (Int × Value)} {s : S} (h : Rel n lst mp s) (hw : Wf n i s) : True := trivial
/-- The least of the first k by tag and flow. -/
def Lst (lst : List O3) (k b : Nat) : Prop := ∀ j, j < k → o3 lst b < o3 lst j ∨ (o3 lst b = o3 lst j ∧ o1 lst b ≤ o1 lst j)
theorem Lst.take {lst : List O3} {k b : Nat} (h : Lst lst k b) (hb : o3 lst k < o3 lst b ∨ (o3 lst k = o3 lst b ∧ o1 lst k < o1 lst b)) : Lst lst (k + 1) k := fun j hj => by
  by_cases e : j = k
  · subst e; exact .inr ⟨rfl, Int.le_refl _⟩
  · have := h j (by omega); omega
theorem Lst.keep {lst : List O3} {k b : Nat} (h : Lst lst k b) (hb : o3 lst b < o3 lst k ∨ (o3 lst b = o3 lst k ∧ o1 lst b ≤ o1 lst k)) : Lst lst (k + 1) b := fun j hj => by
  by_cases e : j = k
  · subst e; exact hb
  · exact h j (by omega)
section
variable {α : Type} {c : α → List Value} {s : Nat}
theorem flat_take (hc : ∀ a, (c a).length = s) : ∀ (l : List α) (k : Nat), (l.flatMap c).take (k * s) = (l.take k).flatMap c
  | [], k => by simp
  | a :: l, 0 => by simp
  | a :: l, k + 1 => by
    rw [List.flatMap_cons, List.take_succ_cons, List.flatMap_cons, ← flat_take hc l k, List.take_append, hc, show (k + 1) * s - s = k * s by rw [Nat.succ_mul]; omega, List.take_of_length_le (by rw [hc, Nat.succ_mul]; omega)]
theorem flat_drop (hc : ∀ a, (c a).length = s) : ∀ (l : List α) (k : Nat), (l.flatMap c).drop (k * s) = (l.drop k).flatMap c
  | [], k => by simp
  | a :: l, 0 => by simp
  | a :: l, k + 1 => by
    rw [List.flatMap_cons, List.drop_succ_cons, ← flat_drop hc l k, List.drop_append, hc, show (k + 1) * s - s = k * s by rw [Nat.succ_mul]; omega, List.drop_of_length_le (by rw [hc, Nat.succ_mul]; omega), List.nil_append]
end
section
variable {P : Program} {N : Nat} {w0 : World} {F : Frm} {L : List Res}
theorem rdl_cutH {e s n c l : Nat} {A : Option Addr} {xs : List Value} (i : Nat) (h : lget L i = some (vec e s (.slice A n c) n xs)) (hl : l ≤ n) : RdL w0 L A (xs.take (l * s)) := fun w hS => by
  have ho := hS.holds i _ h
  have := rd_cut (s := s) (a := 0) (b := l) (OwnV.rd ho).2.2 ho.1 (Nat.zero_le _) hl (OwnV.rd ho).2.1
  rw [cutA_zero] at this
  simpa using this
theorem rdl_cutL {e s n c l : Nat} {A : Option Addr} {xs : List Value} (i : Nat) (h : lget L i = some (vec e s (.slice A n c) n xs)) (hl : l ≤ n) : RdL w0 L (cutA A l c s) (xs.drop (l * s)) := fun w hS => by
  have ho := hS.holds i _ h
  have := rd_cut (s := s) (a := l) (b := n) (OwnV.rd ho).2.2 ho.1 hl (Nat.le_refl _) (OwnV.rd ho).2.1
  rwa [List.take_of_length_le (by rw [List.length_drop, ho.1, Nat.sub_mul]; exact Nat.le_refl _)] at this
theorem y_eqv {o : Oper} {v u : Value} (h : Yld P N w0 F L o v) (e : v = u) : Yld P N w0 F L o u := e ▸ h
end
end Go.Proofs.Ytdfjeoifeladfaa.Scfq
