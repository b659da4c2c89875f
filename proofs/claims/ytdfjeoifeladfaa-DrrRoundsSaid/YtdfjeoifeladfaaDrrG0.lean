/- What the reference's NRounds answers. -/
import Derived.Test.YtdfjeoifeladfaaDrrF
import Derived.Test.YtdfjeoifeladfaaE7
namespace Go.Proofs.Ytdfjeoifeladfaa.Drr
open Go.RowKit Go.Proofs.Ytdfjeoifeladfaa.E

def fA (s : Tm) (q : Nat) : Value := .int .i64 ((s.A q : Nat) : Int)
def fY (s : Tm) (q : Nat) : Value := .int .i64 (s.Y q)
theorem cI_ys {n : Nat} {s : Tm} : cI (ysOf n s) = (List.range n).map (fY s) := by simp [cI, ysOf, fY]
theorem done_A {ts : List Int} {fs : List (List Int)} {n : Nat} {T : Tm} {k j : Nat} {x : Int} (hk : k < n) (hgr : gr (nxm ts T k) (rest fs T k) = (j, x)) : (mix (fA T) (fA (nx ts fs n T)) n k).set k (.int .i64 ((T.A k + j : Nat) : Int)) = mix (fA T) (fA (nx ts fs n T)) n (k + 1) := by
  rw [← mix_set hk]
  simp only [fA, nx, hgr]
theorem done_Y {ts : List Int} {fs : List (List Int)} {n : Nat} {T : Tm} {k : Nat} {z : Int} (hk : k < n) (hz : may (nxm ts T k) (rest fs T k) = z) : (mix (fY T) (fY (nx ts fs n T)) n k).set k (.int .i64 z) = mix (fY T) (fY (nx ts fs n T)) n (k + 1) := by
  rw [← mix_set hk]
  simp only [fY, nx, hz]
theorem done_S {ts : List Int} {fs : List (List Int)} {T : Tm} {k j : Nat} {x : Int} (hgr : gr (nxm ts T k) (rest fs T k) = (j, x)) : T.S ++ (List.range (k + 1)).flatMap (sent1 ts fs T) = T.S ++ (List.range k).flatMap (sent1 ts fs T) ++ ((rest fs T k).take j).map fun x => ((k : Int), x) := by
  rw [List.range_succ, List.flatMap_append, List.append_assoc]
  simp only [List.flatMap_cons, List.flatMap_nil, List.append_nil, sent1, cut, hgr]
/-- The header v is flow i's, cut where it has come to. -/
def Cutd (hs0 : List Value) (fs : List (List Int)) (T : Tm) (i : Nat) (v : Value) : Prop :=
  ∃ B c, hs0[i]? = some (.slice B (fs.getD i []).length c) ∧ (fs.getD i []).length ≤ c ∧ v = .slice (cutA B (T.A i) c 1) ((fs.getD i []).length - T.A i) (c - T.A i)
theorem Cutd.hd {w : World} {A : Option Addr} {hs0 : List Value} {fs : List (List Int)} {T : Tm} {i : Nat} {v : Value} (h : Cutd hs0 fs T i v) (hR : RdR w A hs0 fs) (hi : i < fs.length) (ha : T.A i ≤ (fs.getD i []).length) : HdI w v (rest fs T i) := by
  obtain ⟨B, c, h1, h2, rfl⟩ := h
  have hfk : fs.getD i [] = fs[i] := by simp [List.getD_eq_getElem?_getD, hi]
  obtain ⟨hl, he⟩ := List.getElem?_eq_some_iff.1 h1
  have hr := hR.rd hi hl he
  rw [hfk] at h2 ha
  rw [rest, hfk]
  exact ⟨_, _, by rw [List.length_drop], by rw [List.length_drop]; omega, rd_dropI hr rfl ha h2⟩
def NRoundsP (w : World) (hs0 : List Value) (fs : List (List Int)) (T : Tm) (sl : List (Int × Int)) (ls : List (List Int)) (yl : List Int) (e : Ending) (w' : World) : Prop :=
  ∃ q : RQ, ((sl.length ≤ q.k1 ∧ ls.length ≤ q.k2 ∧ yl.length ≤ q.k3) ∧ q.hs.length = ls.length ∧ ∀ i (h' : i < q.hs.length), Cutd hs0 fs T i q.hs[i]) ∧ e = .returned (.tuple #[.slice q.A1 sl.length q.k1, .slice q.A2 ls.length q.k2, .slice q.A3 yl.length q.k3]) ∧
    E.St w w' [vec 64 2 (.slice q.A1 sl.length q.k1) sl.length (sl.flatMap c2), vec 31 1 (.slice q.A2 ls.length q.k2) ls.length q.hs, vec 3 1 (.slice q.A3 yl.length q.k3) yl.length (cI yl)]
end Go.Proofs.Ytdfjeoifeladfaa.Drr
