/- Many rounds, as functions: how far each flow is, and how much it may. -/
import Derived.Test.YtoibebmhfcjpfaaGreatDoorZfDrrN
namespace Go.Proofs.YtoibebmhfcjpfaaGreatDoor.Drr

structure Tm where
  A : Nat → Nat
  Y : Nat → Int
  S : List (Int × Int)
def rest (fs : List (List Int)) (s : Tm) (q : Nat) : List Int := (fs.getD q []).drop (s.A q)
def nxm (ts : List Int) (s : Tm) (q : Nat) : Int := s.Y q + ts.getD q 0
def sent1 (ts : List Int) (fs : List (List Int)) (s : Tm) (q : Nat) : List (Int × Int) := (cut (nxm ts s q) (rest fs s q)).map fun x => ((q : Int), x)
def nx (ts : List Int) (fs : List (List Int)) (n : Nat) (s : Tm) : Tm :=
  ⟨fun q => s.A q + (gr (nxm ts s q) (rest fs s q)).1, fun q => may (nxm ts s q) (rest fs s q), s.S ++ (List.range n).flatMap (sent1 ts fs s)⟩
def it (ts : List Int) (fs : List (List Int)) (n : Nat) (s : Tm) : Nat → Tm
  | 0 => s
  | r + 1 => nx ts fs n (it ts fs n s r)
/-- Begun. -/
def st0 (ys : List Int) : Tm := ⟨fun _ => 0, fun q => ys.getD q 0, []⟩
def lsOf (fs : List (List Int)) (n : Nat) (s : Tm) : List (List Int) := (List.range n).map (rest fs s)
def ysOf (n : Nat) (s : Tm) : List Int := (List.range n).map s.Y

theorem getD_range {α : Type} {f : Nat → α} {n q : Nat} {x : α} (h : q < n) : ((List.range n).map f).getD q x = f q := by simp [List.getD_eq_getElem?_getD, h]
theorem ls_start {fs : List (List Int)} {ys : List Int} : lsOf fs fs.length (st0 ys) = fs := by
  apply List.ext_getElem
  · simp [lsOf]
  · intro i h1 h2
    simp [lsOf, rest, st0, List.getD_eq_getElem?_getD, h2]
theorem ys_start {ys : List Int} : ysOf ys.length (st0 ys) = ys := by
  apply List.ext_getElem
  · simp [ysOf]
  · intro i h1 h2
    simp [ysOf, st0, List.getD_eq_getElem?_getD, h2]
theorem mk_of {ts : List Int} {n q : Nat} {s : Tm} (h : q < n) : mk ts (ysOf n s) q = nxm ts s q := by rw [mk, ysOf, getD_range h, nxm]
theorem ls_get {fs : List (List Int)} {n q : Nat} {s : Tm} (h : q < n) : (lsOf fs n s).getD q [] = rest fs s q := by rw [lsOf, getD_range h]
theorem rest_nx {ts : List Int} {fs : List (List Int)} {n q : Nat} {s : Tm} : rest fs (nx ts fs n s) q = lft (nxm ts s q) (rest fs s q) := by
  simp only [rest, nx, lft, List.drop_drop]
theorem flatMap_congr' {α β : Type} {f g : α → List β} : ∀ {l : List α}, (∀ x ∈ l, f x = g x) → l.flatMap f = l.flatMap g
  | [], _ => rfl
  | x :: l, h => by rw [List.flatMap_cons, List.flatMap_cons, h x (by simp), flatMap_congr' (fun y hy => h y (by simp [hy]))]
theorem snds_of {ts : List Int} {fs : List (List Int)} {n : Nat} {s : Tm} : snds ts (ysOf n s) (lsOf fs n s) n = (List.range n).flatMap (sent1 ts fs s) := by
  rw [snds]
  apply flatMap_congr'
  intro q hq
  have hq' := List.mem_range.1 hq
  rw [snd1, mk_of hq', ls_get hq', sent1]
theorem lfts_of {ts : List Int} {fs : List (List Int)} {n : Nat} {s : Tm} : lfts ts (ysOf n s) (lsOf fs n s) n = lsOf fs n (nx ts fs n s) := by
  rw [lfts, show lsOf fs n (nx ts fs n s) = (List.range n).map (rest fs (nx ts fs n s)) from rfl]
  apply List.map_congr_left
  intro q hq
  have hq' := List.mem_range.1 hq
  rw [mk_of hq', ls_get hq', rest_nx]
theorem yets_of {ts : List Int} {fs : List (List Int)} {n : Nat} {s : Tm} : yets ts (ysOf n s) (lsOf fs n s) n = ysOf n (nx ts fs n s) := by
  rw [yets, show ysOf n (nx ts fs n s) = (List.range n).map (nx ts fs n s).Y from rfl]
  apply List.map_congr_left
  intro q hq
  have hq' := List.mem_range.1 hq
  rw [mk_of hq', ls_get hq']
  rfl
/-- What is so at every round. -/
structure Good (ts : List Int) (fs : List (List Int)) (n : Nat) (s : Tm) : Prop where
  row : ∀ q, q < n → 1 ≤ ts.getD q 0 ∧ ts.getD q 0 ≤ 10000 ∧ (rest fs s q).length ≤ 400 ∧ (rest fs s q).all nok = true
  may : ∀ q, q < n → 0 ≤ s.Y q ∧ s.Y q < 1500
theorem all_drop {p : Int → Bool} {l : List Int} {k : Nat} (h : l.all p = true) : (l.drop k).all p = true := List.all_eq_true.2 fun x hx => List.all_eq_true.1 h x (List.mem_of_mem_drop hx)
theorem Good.nx {ts : List Int} {fs : List (List Int)} {n : Nat} {s : Tm} (h : Good ts fs n s) : Good ts fs n (nx ts fs n s) := by
  refine ⟨fun q hq => ?_, fun q hq => ?_⟩
  · obtain ⟨h1, h2, h3, h4⟩ := h.row q hq
    rw [rest_nx, lft]
    exact ⟨h1, h2, by rw [List.length_drop]; omega, all_drop h4⟩
  · obtain ⟨h1, h2, h3, h4⟩ := h.row q hq
    have h5 := h.may q hq
    exact may_bd (by unfold nxm; omega) h4
theorem Good.it {ts : List Int} {fs : List (List Int)} {n : Nat} {s : Tm} (h : Good ts fs n s) : ∀ r, Good ts fs n (it ts fs n s r)
  | 0 => h
  | r + 1 => (Good.it h r).nx
theorem good_start {ts : List Int} {fs : List (List Int)} {ys : List Int} (h : wrongE ts fs = 0) (h1 : ys.length = ts.length) (h2 : ∀ j (h : j < ys.length), 0 ≤ ys[j] ∧ ys[j] < 1500) : Good ts fs ts.length (st0 ys) := by
  obtain ⟨g1, g2, g3⟩ := wrong_zero h
  refine ⟨fun q hq => ?_, fun q hq => ?_⟩
  · have := rowok_iff.1 (g3 q hq (by omega))
    simp only [rest, st0, List.drop_zero, List.getD_eq_getElem?_getD, List.getElem?_eq_getElem hq, List.getElem?_eq_getElem (show q < fs.length by omega), Option.getD_some]
    exact ⟨this.1.1, this.1.2, this.2.1, this.2.2⟩
  · simp only [st0, List.getD_eq_getElem?_getD, List.getElem?_eq_getElem (show q < ys.length by omega), Option.getD_some]
    exact h2 q (by omega)
/-- So the next round goes well. -/
theorem Good.wrong {ts : List Int} {fs : List (List Int)} {s : Tm} (h : Good ts fs ts.length s) (h16 : ts.length ≤ 16) : wrongE ts (lsOf fs ts.length s) = 0 := by
  refine wrong_ok (by simp [lsOf]) h16 fun k hk => ?_
  obtain ⟨h1, h2, h3, h4⟩ := h.row k hk
  simp only [List.getD_eq_getElem?_getD, List.getElem?_eq_getElem hk, Option.getD_some] at h1 h2
  have : (lsOf fs ts.length s)[k]'(by simp [lsOf]; exact hk) = rest fs s k := by simp [lsOf]
  rw [this]
  exact rowok_iff.2 ⟨⟨h1, h2⟩, h3, h4⟩
theorem Good.round {ts : List Int} {fs : List (List Int)} {s : Tm} (h : Good ts fs ts.length s) (h16 : ts.length ≤ 16) : roundM ts (lsOf fs ts.length s) (ysOf ts.length s) = (0, (List.range ts.length).flatMap (sent1 ts fs s), lsOf fs ts.length (Drr.nx ts fs ts.length s), ysOf ts.length (Drr.nx ts fs ts.length s)) := by
  rw [round_ok (h.wrong h16) (by simp [ysOf]) (fun j hj => by
    have := h.may j (by simpa [ysOf] using hj)
    simpa [ysOf] using this), snds_of, lfts_of, yets_of]
theorem sent1_len {ts : List Int} {fs : List (List Int)} {s : Tm} {q : Nat} : (sent1 ts fs s q).length ≤ (rest fs s q).length := by
  simp only [sent1, cut, List.length_map]
  exact List.length_take_le' _ _
theorem sents_len {ts : List Int} {fs : List (List Int)} {n : Nat} {s : Tm} (h : Good ts fs n s) : ∀ k, k ≤ n → ((List.range k).flatMap (sent1 ts fs s)).length ≤ 400 * k
  | 0, _ => by simp
  | k + 1, hk => by
    rw [List.range_succ, List.flatMap_append, List.length_append]
    have h1 := sents_len h k (by omega)
    have h2 := sent1_len (ts := ts) (fs := fs) (s := s) (q := k)
    have h3 := (h.row k (by omega)).2.2.1
    simp only [List.flatMap_cons, List.flatMap_nil, List.append_nil]
    omega
theorem S_len {ts : List Int} {fs : List (List Int)} {n : Nat} {s : Tm} (h : Good ts fs n s) (h0 : s.S = []) : ∀ r, (Drr.it ts fs n s r).S.length ≤ 400 * n * r
  | 0 => by simp [Drr.it, h0]
  | r + 1 => by
    have h1 := S_len h h0 r
    have h2 := sents_len (h.it r) n (Nat.le_refl _)
    simp only [Drr.it, Drr.nx, List.length_append]
    rw [Nat.mul_succ]
    omega
end Go.Proofs.YtoibebmhfcjpfaaGreatDoor.Drr
