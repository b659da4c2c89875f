/- Flows by turns: a round, and many of them, as functions of lists. -/
import Derived.Test.YtoibebmhfcjpfaaGreatDoorZfDrrM
namespace Go.Proofs.YtoibebmhfcjpfaaGreatDoor.Drr

def mk (ts ys : List Int) (i : Nat) : Int := ys.getD i 0 + ts.getD i 0
def snd1 (ts ys : List Int) (fs : List (List Int)) (i : Nat) : List (Int × Int) := (cut (mk ts ys i) (fs.getD i [])).map fun x => ((i : Int), x)
def snds (ts ys : List Int) (fs : List (List Int)) (j : Nat) : List (Int × Int) := (List.range j).flatMap (snd1 ts ys fs)
def lfts (ts ys : List Int) (fs : List (List Int)) (j : Nat) : List (List Int) := (List.range j).map fun i => lft (mk ts ys i) (fs.getD i [])
def yets (ts ys : List Int) (fs : List (List Int)) (j : Nat) : List Int := (List.range j).map fun i => may (mk ts ys i) (fs.getD i [])
theorem snds_succ (ts ys : List Int) (fs : List (List Int)) (j : Nat) : snds ts ys fs (j + 1) = snds ts ys fs j ++ snd1 ts ys fs j := by simp [snds, List.range_succ]
theorem lfts_succ (ts ys : List Int) (fs : List (List Int)) (j : Nat) : lfts ts ys fs (j + 1) = lfts ts ys fs j ++ [lft (mk ts ys j) (fs.getD j [])] := by simp [lfts, List.range_succ]
theorem yets_succ (ts ys : List Int) (fs : List (List Int)) (j : Nat) : yets ts ys fs (j + 1) = yets ts ys fs j ++ [may (mk ts ys j) (fs.getD j [])] := by simp [yets, List.range_succ]
theorem lfts_len (ts ys : List Int) (fs : List (List Int)) (j : Nat) : (lfts ts ys fs j).length = j := by simp [lfts]
theorem yets_len (ts ys : List Int) (fs : List (List Int)) (j : Nat) : (yets ts ys fs j).length = j := by simp [yets]
theorem snd1_len (ts ys : List Int) (fs : List (List Int)) (j : Nat) : (snd1 ts ys fs j).length ≤ (fs.getD j []).length := by
  simp only [snd1, cut, List.length_map]
  exact List.length_take_le' _ _
theorem snds_len {ts ys : List Int} {fs : List (List Int)} (h : ∀ r ∈ fs, r.length ≤ 400) : ∀ j, (snds ts ys fs j).length ≤ 400 * j
  | 0 => by simp [snds]
  | j + 1 => by
    rw [snds_succ, List.length_append]
    have h1 := snds_len (ts := ts) (ys := ys) h j
    have h2 := snd1_len ts ys fs j
    have h3 : (fs.getD j []).length ≤ 400 := by
      rcases Nat.lt_or_ge j fs.length with h4 | h4
      · rw [List.getD_eq_getElem?_getD, List.getElem?_eq_getElem h4]; exact h _ (List.getElem_mem h4)
      · rw [List.getD_eq_getElem?_getD, List.getElem?_eq_none h4]; simp
    omega
def yok (y : Int) : Bool := decide (0 ≤ y) && decide (y < 1500)
theorem yok_iff {y : Int} : yok y = true ↔ 0 ≤ y ∧ y < 1500 := by simp [yok]
/-- A round's answer. -/
def roundM (ts : List Int) (fs : List (List Int)) (ys : List Int) : Int × List (Int × Int) × List (List Int) × List Int :=
  if wrongE ts fs ≠ 0 then (wrongE ts fs, [], [], []) else if ys.length ≠ ts.length then (1, [], [], []) else if ys.all yok then (0, snds ts ys fs ts.length, lfts ts ys fs ts.length, yets ts ys fs ts.length) else (2, [], [], [])
theorem round_wrong {ts : List Int} {fs : List (List Int)} {ys : List Int} (h : ¬ wrongE ts fs = 0) : roundM ts fs ys = (wrongE ts fs, [], [], []) := by rw [roundM, if_pos h]
theorem round_len {ts : List Int} {fs : List (List Int)} {ys : List Int} (h : wrongE ts fs = 0) (h1 : ys.length ≠ ts.length) : roundM ts fs ys = (1, [], [], []) := by rw [roundM, if_neg (by simp [h]), if_pos h1]
theorem round_may {ts : List Int} {fs : List (List Int)} {ys : List Int} (h : wrongE ts fs = 0) (h1 : ys.length = ts.length) {k : Nat} (hk : k < ys.length) (h2 : ys[k] < 0 ∨ 1500 ≤ ys[k]) : roundM ts fs ys = (2, [], [], []) := by
  rw [roundM, if_neg (by simp [h]), if_neg (by simp [h1]), if_neg]
  intro ha
  have := yok_iff.1 (List.all_eq_true.1 ha _ (List.getElem_mem hk))
  omega
theorem round_ok {ts : List Int} {fs : List (List Int)} {ys : List Int} (h : wrongE ts fs = 0) (h1 : ys.length = ts.length) (h2 : ∀ j (h : j < ys.length), 0 ≤ ys[j] ∧ ys[j] < 1500) : roundM ts fs ys = (0, snds ts ys fs ts.length, lfts ts ys fs ts.length, yets ts ys fs ts.length) := by
  rw [roundM, if_neg (by simp [h]), if_neg (by simp [h1]), if_pos]
  rw [List.all_eq_true]
  intro y hy
  obtain ⟨k, hk, rfl⟩ := List.mem_iff_getElem.1 hy
  exact yok_iff.2 (h2 k hk)
end Go.Proofs.YtoibebmhfcjpfaaGreatDoor.Drr
