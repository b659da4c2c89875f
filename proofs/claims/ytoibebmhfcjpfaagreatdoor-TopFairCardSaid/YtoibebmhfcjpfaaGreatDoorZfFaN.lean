/- Flows side by side, and by turns: plain. -/
import Derived.Test.YtoibebmhfcjpfaaGreatDoorZfDrrF
import Derived.Test.YtoibebmhfcjpfaaGreatDoorZfShG
import Derived.Test.YtoibebmhfcjpfaaGreatDoorZfRpE
import Derived.Test.YtoibebmhfcjpfaaGreatDoorZfEA
namespace Go.Proofs.YtoibebmhfcjpfaaGreatDoor.Fair
open Go.Proofs.YtoibebmhfcjpfaaGreatDoor.Drr

/-- What is sent of flow k. -/
def hadS : List (Int × Int) → Nat → Int
  | [], _ => 0
  | x :: l, k => (if x.1 = (k : Int) then x.2 else 0) + hadS l k
theorem had_app {k : Nat} : ∀ {a b : List (Int × Int)}, hadS (a ++ b) k = hadS a k + hadS b k
  | [], b => by simp [hadS]
  | x :: a, b => by
    rw [List.cons_append, hadS, hadS, had_app]
    omega
theorem had_rep {q k a : Nat} : hadS (List.replicate a ((q : Int), (100 : Int))) k = if q = k then (a : Int) * 100 else 0 := by
  induction a with
  | zero => simp [hadS]
  | succ a ih =>
    rw [List.replicate_succ, hadS, ih]
    by_cases e : q = k
    · subst e
      rw [if_pos rfl, if_pos rfl, if_pos rfl]
      omega
    · rw [if_neg e, if_neg e, if_neg (by omega)]
      rfl
theorem had_range {f : Nat → Nat} {k : Nat} : ∀ n : Nat, hadS ((List.range n).flatMap fun q => List.replicate (f q) ((q : Int), (100 : Int))) k = if k < n then (f k : Int) * 100 else 0
  | 0 => by simp [hadS]
  | n + 1 => by
    rw [List.range_succ, List.flatMap_append, had_app, had_range n, List.flatMap_cons, List.flatMap_nil, List.append_nil, had_rep]
    by_cases e : n = k
    · subst e
      rw [if_pos rfl, if_neg (by omega), if_pos (by omega), Int.zero_add]
    · rw [if_neg e]
      by_cases e2 : k < n
      · rw [if_pos e2, if_pos (by omega), Int.add_zero]
      · rw [if_neg e2, if_neg (by omega), Int.add_zero]
theorem had_nn {k : Nat} : ∀ {l : List (Int × Int)}, (∀ x ∈ l, 0 ≤ x.2) → 0 ≤ hadS l k
  | [], _ => Int.le_refl _
  | x :: l, h => by
    have h1 := had_nn (k := k) (l := l) (fun y hy => h y (List.mem_cons_of_mem _ hy))
    have h2 := h x (List.mem_cons_self ..)
    rw [hadS]
    split <;> omega
theorem had_take {k : Nat} {l : List (Int × Int)} (h : ∀ x ∈ l, 0 ≤ x.2) (i : Nat) : 0 ≤ hadS (l.take i) k ∧ hadS (l.take i) k ≤ hadS l k := by
  have h1 := had_app (k := k) (a := l.take i) (b := l.drop i)
  rw [List.take_append_drop] at h1
  have h2 := had_nn (k := k) (l := l.take i) (fun x hx => h x (List.mem_of_mem_take hx))
  have h3 := had_nn (k := k) (l := l.drop i) (fun x hx => h x (List.mem_of_mem_drop hx))
  omega
theorem had_succ {k i : Nat} {l : List (Int × Int)} (hi : i < l.length) : hadS (l.take (i + 1)) k = hadS (l.take i) k + if (l.getD i (0, 0)).1 = (k : Int) then (l.getD i (0, 0)).2 else 0 := by
  rw [List.take_succ_eq_append_getElem hi, had_app]
  simp [hadS, List.getD_eq_getElem?_getD, hi]

/-- The turns, and the packets. -/
def tsF (ws : List Int) : List Int := ws.map (· * 100)
def row (w : Int) (R : Nat) : List Int := List.replicate (w * R + 1).toNat 100
def fsF (ws : List Int) (R : Nat) : List (List Int) := ws.map fun w => row w R
def wN (ws : List Int) (q : Nat) : Nat := (ws.getD q 0).toNat
theorem gr_rep : ∀ (a b : Nat), gr ((a : Int) * 100) (List.replicate (a + 1 + b) 100) = (a, 0)
  | 0, b => by
    rw [show 0 + 1 + b = b + 1 by omega, List.replicate_succ, gr, if_neg (by omega)]
    rfl
  | a + 1, b => by
    rw [show a + 1 + 1 + b = a + 1 + b + 1 by omega, List.replicate_succ, gr, if_pos (by omega), show ((a + 1 : Nat) : Int) * 100 - 100 = (a : Int) * 100 by omega, gr_rep a b]
theorem getT {ws : List Int} {q : Nat} (hq : q < ws.length) : (tsF ws).getD q 0 = ws.getD q 0 * 100 := by
  simp [tsF, List.getD_eq_getElem?_getD, hq]
theorem getF {ws : List Int} {R q : Nat} (hq : q < ws.length) : (fsF ws R).getD q [] = row (ws.getD q 0) R := by
  simp [fsF, List.getD_eq_getElem?_getD, hq]
structure At (ws : List Int) (n R r : Nat) (s : Tm) : Prop where
  A : ∀ q, q < n → s.A q = wN ws q * r
  Y : ∀ q, q < n → s.Y q = 0
  S : ∀ k, k < n → hadS s.S k = (wN ws k * r : Nat) * 100
  el : ∀ x ∈ s.S, ∃ q : Nat, q < n ∧ x.1 = q ∧ x.2 = 100
theorem at_rest {ws : List Int} {n R r q : Nat} {s : Tm} (hn : n = ws.length) (hw : ∀ k, k < n → 1 ≤ ws.getD k 0 ∧ ws.getD k 0 ≤ 12) (h : At ws n R r s) (hr : r < R) (hq : q < n) : ∃ b, rest (fsF ws R) s q = List.replicate (wN ws q + 1 + b) 100 := by
  subst hn
  have hwq := hw q hq
  unfold rest
  rw [getF hq, h.A q hq, row, List.drop_replicate]
  have e1 : (ws.getD q 0 * R + 1).toNat = wN ws q * R + 1 := by
    unfold wN
    obtain ⟨w, hw'⟩ := Int.eq_ofNat_of_zero_le (show 0 ≤ ws.getD q 0 by omega)
    rw [hw', Int.toNat_natCast]
    have : ((w : Int) * R + 1) = ((w * R + 1 : Nat) : Int) := by simp
    rw [this, Int.toNat_natCast]
  rw [e1]
  obtain ⟨d, rfl⟩ : ∃ d, R = r + 1 + d := ⟨R - (r + 1), by omega⟩
  refine ⟨wN ws q * d, ?_⟩
  rw [Nat.mul_add, Nat.mul_add, Nat.mul_one]
  congr 1
  omega
theorem at_step {ws : List Int} {n R r : Nat} {s : Tm} (hn : n = ws.length) (hw : ∀ k, k < n → 1 ≤ ws.getD k 0 ∧ ws.getD k 0 ≤ 12) (h : At ws n R r s) (hr : r < R) : At ws n R (r + 1) (nx (tsF ws) (fsF ws R) n s) := by
  have hg : ∀ q, q < n → gr (nxm (tsF ws) s q) (rest (fsF ws R) s q) = (wN ws q, 0) ∧ wN ws q < (rest (fsF ws R) s q).length ∧ cut (nxm (tsF ws) s q) (rest (fsF ws R) s q) = List.replicate (wN ws q) 100 := fun q hq => by
    obtain ⟨b, hb⟩ := at_rest hn hw h hr hq
    have e : nxm (tsF ws) s q = (wN ws q : Int) * 100 := by
      unfold nxm wN
      rw [h.Y q hq, getT (by omega)]
      have := hw q hq
      omega
    rw [e, hb]
    refine ⟨gr_rep _ _, by rw [List.length_replicate]; omega, ?_⟩
    unfold cut
    rw [gr_rep, List.take_replicate]
    congr 1
    omega
  have hs1 : ∀ q, q < n → sent1 (tsF ws) (fsF ws R) s q = List.replicate (wN ws q) ((q : Int), (100 : Int)) := fun q hq => by
    unfold sent1
    rw [(hg q hq).2.2, List.map_replicate]
  have hfl : (List.range n).flatMap (sent1 (tsF ws) (fsF ws R) s) = (List.range n).flatMap fun q => List.replicate (wN ws q) ((q : Int), (100 : Int)) :=
    flatMap_congr' fun q hq => hs1 q (List.mem_range.1 hq)
  refine ⟨fun q hq => ?_, fun q hq => ?_, fun k hk => ?_, fun x hx => ?_⟩
  · show s.A q + (gr (nxm (tsF ws) s q) (rest (fsF ws R) s q)).1 = _
    rw [(hg q hq).1, h.A q hq, Nat.mul_succ]
  · show may (nxm (tsF ws) s q) (rest (fsF ws R) s q) = 0
    unfold may
    rw [(hg q hq).1]
    split <;> rfl
  · show hadS (s.S ++ _) k = _
    rw [had_app, hfl, had_range, if_pos hk, h.S k hk, Nat.mul_succ]
    omega
  · have hx : x ∈ s.S ++ (List.range n).flatMap (sent1 (tsF ws) (fsF ws R) s) := hx
    rw [hfl] at hx
    rcases List.mem_append.1 hx with hx | hx
    · exact h.el x hx
    · obtain ⟨q, hq, hx⟩ := List.mem_flatMap.1 hx
      obtain ⟨_, rfl⟩ := List.mem_replicate.1 hx
      exact ⟨q, List.mem_range.1 hq, rfl, rfl⟩
theorem at_it {ws : List Int} {n R : Nat} (hn : n = ws.length) (hw : ∀ k, k < n → 1 ≤ ws.getD k 0 ∧ ws.getD k 0 ≤ 12) : ∀ r, r ≤ R → At ws n R r (it (tsF ws) (fsF ws R) n (st0 (List.replicate n 0)) r)
  | 0, _ => ⟨fun q _ => rfl, fun q hq => by simp [it, st0, List.getD_eq_getElem?_getD, hq], fun k _ => by simp [it, st0, hadS], fun x hx => by simp [it, st0] at hx⟩
  | r + 1, h => at_step hn hw (at_it hn hw r (by omega)) (by omega)
theorem row_len {w : Int} {R : Nat} (hw : 1 ≤ w ∧ w ≤ 12) (hR : R ≤ 10) : (row w R).length ≤ 121 := by
  unfold row
  rw [List.length_replicate]
  have := Int.mul_le_mul hw.2 (show (R : Int) ≤ 10 by omega) (by omega) (by omega)
  omega
theorem wrong0 {ws : List Int} {R : Nat} (h16 : ws.length ≤ 16) (hw : ∀ k, k < ws.length → 1 ≤ ws.getD k 0 ∧ ws.getD k 0 ≤ 12) (hR : R ≤ 10) : wrongE (tsF ws) (fsF ws R) = 0 := by
  refine wrong_ok (by simp [tsF, fsF]) (by simpa [tsF] using h16) (fun k hk => ?_)
  have hk2 : k < ws.length := by simpa [tsF] using hk
  have hwk := hw k hk2
  rw [List.getD_eq_getElem?_getD, List.getElem?_eq_getElem hk2, Option.getD_some] at hwk
  rw [rowok_iff]
  simp only [tsF, fsF, List.getElem_map]
  refine ⟨by omega, by have := row_len hwk hR; omega, List.all_eq_true.2 fun x hx => ?_⟩
  obtain ⟨_, rfl⟩ := List.mem_replicate.1 hx
  decide
/-- The rounds send of each its weight's packets. -/
theorem rounds_fair {ws : List Int} {R : Nat} (h16 : ws.length ≤ 16) (hw : ∀ k, k < ws.length → 1 ≤ ws.getD k 0 ∧ ws.getD k 0 ≤ 12) (hR : R ≤ 10) :
    ∃ S ls ys, roundsM (tsF ws) (fsF ws R) R = (0, S, ls, ys) ∧ S.length ≤ 64000 ∧ (∀ k, k < ws.length → hadS S k = ws.getD k 0 * 100 * R) ∧ ∀ x ∈ S, ∃ q : Nat, q < ws.length ∧ x.1 = q ∧ x.2 = 100 := by
  have hl : (tsF ws).length = ws.length := by simp [tsF]
  have h := at_it (R := R) (n := ws.length) rfl hw R (Nat.le_refl _)
  have hg : Drr.Good (tsF ws) (fsF ws R) (tsF ws).length (st0 (List.replicate (tsF ws).length 0)) := Drr.good_start (wrong0 h16 hw hR) (by rw [List.length_replicate]) (fun j hj => by rw [List.getElem_replicate]; omega)
  have hsl := S_len hg rfl R
  have hsm := Nat.mul_le_mul (Nat.mul_le_mul_left 400 (show (tsF ws).length ≤ 16 by omega)) hR
  rw [hl] at hsl hsm
  unfold roundsM
  rw [if_neg (by rw [wrong0 h16 hw hR]; simp), if_neg (by omega), hl, Int.toNat_natCast]
  refine ⟨_, _, _, rfl, by omega, fun k hk => ?_, h.el⟩
  rw [h.S k hk]
  have hwk := hw k hk
  unfold wN
  obtain ⟨w, hw'⟩ := Int.eq_ofNat_of_zero_le (show 0 ≤ ws.getD k 0 by omega)
  rw [hw', Int.toNat_natCast, Int.natCast_mul]
  grind
end Go.Proofs.YtoibebmhfcjpfaaGreatDoor.Fair
namespace Go.Proofs.YtoibebmhfcjpfaaGreatDoor.Fair
open Go.Proofs.YtoibebmhfcjpfaaGreatDoor.Share

theorem sm_ge {f : Nat → Int} {j : Nat} : ∀ {n : Nat}, (∀ k, k < n → 0 ≤ f k) → j < n → f j ≤ sm f n
  | 0, _, h => by omega
  | n + 1, h, hj => by
    rw [sm]
    by_cases e : j = n
    · subst e
      have := sm_nn (n := j) (f := f) (fun k hk => h k (by omega))
      omega
    · have h1 := sm_ge (n := n) (fun k hk => h k (by omega)) (by omega : j < n)
      have h2 := h n (by omega)
      omega
/-- Nobody has all that he wants. -/
theorem none_full {all : Int} {w t : Nat → Int} {n : Nat} {S : Nat → Bool} (g : Gd all w t n S) (hw : ∀ k, k < n → w k = 1048576) (ha : all < 1048576) : ∀ k, k < n → S k = false := fun k hk => by
  cases e : S k with
  | false => rfl
  | true =>
    have h1 := g.l0
    unfold Lf at h1
    have h2 := sm_ge (f := fun k => if S k then w k else 0) (fun j hj => by have := hw j hj; split <;> omega) hk
    rw [e, if_pos rfl, hw k hk] at h2
    omega
theorem get_fair {all : Int} {w t : Nat → Int} {n : Nat} {S : Nat → Bool} (g : Gd all w t n S) (hw : ∀ k, k < n → w k = 1048576) (ht : ∀ k, k < n → 1 ≤ t k) (ha : all < 1048576) {k : Nat} (hk : k < n) : get1 all w t n S k = (t k * all, sm t n) := by
  have hs := none_full g hw ha
  have hD : Df t n S = sm t n := sm_congr fun j hj => by rw [hs j hj]; rfl
  have hL : Lf all w n S = all := by
    unfold Lf
    rw [sm_congr (g := fun _ => 0) (fun j hj => by rw [hs j hj]; rfl), sm_zero]
    omega
  have h1 := sm_ge (f := t) (fun j hj => by have := ht j hj; omega) hk
  have h2 := ht k hk
  unfold get1
  rw [hs k hk, if_neg (by decide)]
  unfold lev
  rw [if_neg (by omega), hL, hD]
theorem lw_fair {all : Int} {ws wn : List Int} (hl : wn.length = ws.length) (hw : ∀ k, k < wn.length → gI wn k = 1048576) (ht : ∀ k, k < ws.length → 1 ≤ gI ws k ∧ gI ws k ≤ 12) (h16 : ws.length ≤ 16) (ha : 0 ≤ all ∧ all < 1048576) : lw all wn ws = 0 := by
  refine lw_0 hl ⟨⟨ha.1, by omega, by omega⟩, fun k hk => ?_⟩
  have h1 := hw k hk
  have h2 := ht k (by omega)
  exact ⟨by omega, by omega⟩
theorem sum_bd {ws : List Int} (h16 : ws.length ≤ 16) (ht : ∀ k, k < ws.length → 1 ≤ gI ws k ∧ gI ws k ≤ 12) {k : Nat} (hk : k ≤ ws.length) : 0 ≤ sm (gI ws) k ∧ sm (gI ws) k ≤ 192 := by
  have h1 := sm_nn (f := gI ws) (n := k) (fun j hj => by have := ht j (by omega); omega)
  have h2 := sm_le (f := gI ws) (m := 12) (n := k) (fun j hj => (ht j (by omega)).2)
  omega
end Go.Proofs.YtoibebmhfcjpfaaGreatDoor.Fair

namespace Go.Proofs.YtoibebmhfcjpfaaGreatDoor.Fair
open Go.RowKit Go.Lib Go.Proofs.YtoibebmhfcjpfaaGreatDoor.E Go.Proofs.YtoibebmhfcjpfaaGreatDoor.Share

theorem getG {zs : List Int} {i : Nat} (h : i < zs.length) : (zs.map (Value.int .i64))[i]? = some (.int .i64 (gI zs i)) := by
  simp [gI, List.getD_eq_getElem?_getD, h]
theorem rd_v {w0 w : World} {L : List Res} {e s n c : Nat} {A : Option Addr} {xs : List Value} (hS : St w0 w L) (i : Nat) (hi : lget L i = some (vec e s (.slice A n c) n xs)) : Rd w A xs := (OwnV.rd (hS.holds i _ hi)).2.2
theorem tsF_succ {ws : List Int} {k : Nat} (h : k < ws.length) : tsF (ws.take (k + 1)) = tsF (ws.take k) ++ [gI ws k * 100] := by
  rw [List.take_succ_eq_append_getElem h]
  rw [tsF, List.map_append]
  simp [tsF, gI, List.getD_eq_getElem?_getD, h, -List.map_take]
theorem fsF_succ {ws : List Int} {R k : Nat} (h : k < ws.length) : fsF (ws.take (k + 1)) R = fsF (ws.take k) R ++ [row (gI ws k) R] := by
  rw [List.take_succ_eq_append_getElem h]
  rw [fsF, List.map_append]
  simp [fsF, gI, List.getD_eq_getElem?_getD, h, -List.map_take]
theorem repF {A : Option Addr} {c : Nat} {m : Int} (w : World) (hr : Rd w A [(.int .i64 100)]) (h0 : 0 ≤ m) (h1 : m ≤ 1000000) :
    Calls Tryz.prog 6 #[.slice A 1 c, (.int .i64 m)] w fun e w' => ∃ v : Vs, (v.n = m.toNat ∧ v.xs = cI (List.replicate m.toNat 100)) ∧ e = .returned (.slice v.A v.n v.c) ∧ St w w' [vec 3 1 (.slice v.A v.n v.c) v.n v.xs] := by
  obtain ⟨n, rfl⟩ := Int.eq_ofNat_of_zero_le h0
  refine (Edf.repeatE A c n 100 w hr (by omega)).mono ?_
  rintro e w' ⟨g, -, rfl, hS⟩
  exact ⟨⟨some ⟨g, 0, none⟩, n, n, cI (List.replicate n 100)⟩, ⟨rfl, rfl⟩, rfl, hS⟩
theorem roundsF {ws : List Int} {R : Nat} {A B : Option Addr} {n m l c d : Nat} {xs hs : List Value} (w : World) (hr : Rd w A xs) (hx : xs = cI (tsF ws)) (hn : ws.length = n) (hB : RdR w B hs (fsF ws R)) (hl : l = n) (hm : m = n) (h16 : ws.length ≤ 16) (hw : ∀ k, k < ws.length → 1 ≤ gI ws k ∧ gI ws k ≤ 12) (hR : R ≤ 10) :
    Calls Tryz.prog 7 #[.slice A l c, .slice B m d, (.int .i64 ((R : Int)))] w fun e w' => ∃ q : Vs × List (Int × Int) × Value × Value, ((q.1.n = q.2.1.length ∧ q.1.xs = q.2.1.flatMap c2) ∧ q.2.1.length ≤ 64000 ∧ (∀ k, k < n → hadS q.2.1 k = gI ws k * 100 * R) ∧ ∀ x ∈ q.2.1, ∃ q : Nat, q < n ∧ x.1 = q ∧ x.2 = 100) ∧ e = .returned (.tuple #[.slice q.1.A q.1.n q.1.c, q.2.2.1, q.2.2.2, (.int .i64 0)]) ∧ St w w' [vec 35 2 (.slice q.1.A q.1.n q.1.c) q.1.n q.1.xs] := by
  subst hx hn hm hl
  obtain ⟨S, ls, ys, hE, h6, hh, he⟩ := rounds_fair h16 hw hR
  have h := Drr.rounds_any A B ws.length ws.length c d (tsF ws) hs (fsF ws R) R w hr (by simp [tsF]) hB (by simp [fsF]) (by omega) (by omega) (fun r hr => by
    obtain ⟨v, hv, rfl⟩ := List.mem_map.1 hr
    obtain ⟨k, hk, rfl⟩ := List.mem_iff_getElem.1 hv
    have h1 := hw k hk
    rw [gI, List.getD_eq_getElem?_getD, List.getElem?_eq_getElem hk, Option.getD_some] at h1
    have := row_len h1 hR
    omega)
  rw [hE] at h
  refine h.mono ?_
  rintro e w' ⟨q, -, rfl, hS⟩
  exact ⟨⟨⟨q.A1, S.length, q.k1, S.flatMap c2⟩, S, _, _⟩, ⟨⟨rfl, rfl⟩, h6, hh, he⟩, rfl, hS.pick [0] _ rfl (by decide)⟩
theorem getsF {ws : List Int} {all : Int} {A B : Option Addr} {n m c d : Nat} {xs : List Value} (w : World) (hr : Rd w A xs) (hx : xs = cI (List.replicate n 1048576)) (ht : Rd w B (ws.map (.int .i64))) (hn : ws.length = n) (hm : m = n) (h16 : ws.length ≤ 16) (hw : ∀ k, k < ws.length → 1 ≤ gI ws k ∧ gI ws k ≤ 12) (ha : 0 ≤ all ∧ all < 1048576) :
    Calls Tryz.prog 8 #[(.int .i64 all), .slice A m c, .slice B n d] w fun e w' => ∃ r : Vs, (r.n = n ∧ r.xs = ((List.range n).map fun k => (gI ws k * all, sm (gI ws) n)).flatMap c2) ∧ e = .returned (.tuple #[.slice r.A r.n r.c, (.int .i64 0)]) ∧ St w w' [vec 37 2 (.slice r.A r.n r.c) r.n r.xs] := by
  subst hx hn hm
  have hwn : ∀ k, k < ws.length → gI (List.replicate ws.length 1048576) k = 1048576 := fun k hk => by simp [gI, List.getD_eq_getElem?_getD, hk]
  refine (gets_ok A B ws.length ws.length c d (List.replicate ws.length 1048576) ws w hr ht (by simp) rfl (by omega) (by omega) (all := all) (lw_fair (by simp) (fun k hk => hwn k (by simpa using hk)) hw h16 ha)).mono ?_
  rintro e w' ⟨r, ⟨hg, h1, h2⟩, rfl, hS⟩
  refine ⟨r.1, ⟨h1, ?_⟩, rfl, hS⟩
  rw [h2]
  unfold gL
  congr 1
  exact List.map_congr_left fun k hk => get_fair hg hwn (fun j hj => (hw j hj).1) ha.2 (List.mem_range.1 hk)
theorem getC {l : List (Int × Int)} {q i : Nat} (h : i < l.length) (e : l.getD i (0, 0) = ((q : Int), 100)) : ∀ j u, [(.int .i64 ((q : Int))), (.int .i64 100)][j]? = some u → (l.flatMap c2)[i * 2 + j]? = some u := by
  have h1 : l[i] = ((q : Int), 100) := by rw [← e, List.getD_eq_getElem?_getD, List.getElem?_eq_getElem h]; rfl
  have h2 := E.getF (c := c2) (s := 2) (l := l) (j := i) (fun _ => rfl) h
  rw [h1] at h2
  exact h2
theorem getF0 {f : Nat → Int × Int} {n j : Nat} (h : j < n) : (((List.range n).map f).flatMap c2)[j * 2 + 0]? = some (.int .i64 ((f j).1)) :=
  E.getF (c := c2) (l := (List.range n).map f) (fun _ => rfl) (by simpa using h) 0 _ (by simp [c2])
theorem getF1 {f : Nat → Int × Int} {n j : Nat} (h : j < n) : (((List.range n).map f).flatMap c2)[j * 2 + 1]? = some (.int .i64 ((f j).2)) :=
  E.getF (c := c2) (l := (List.range n).map f) (fun _ => rfl) (by simpa using h) 1 _ (by simp [c2])
theorem gN_len {f : Nat → Int × Int} {n : Nat} : (((List.range n).map f).flatMap c2).length = n * 2 := E.lenF (fun _ => rfl) (by simp)
theorem sN_len {l : List (Int × Int)} {n : Nat} {xs : List Value} (h : xs = l.flatMap c2) (hn : n = l.length) : xs.length = n * 2 := by
  subst h hn
  exact E.lenF (fun _ => rfl) rfl
/-- What each has had of the first i. -/
def hadV (l : List (Int × Int)) (n i : Nat) : List Value := (List.range n).map fun (k : Nat) => (.int .i64 (hadS (l.take i) k))
theorem hadV_len {l : List (Int × Int)} {n i : Nat} : (hadV l n i).length = n := by simp [hadV]
theorem hadV_get {l : List (Int × Int)} {n i k : Nat} (h : k < n) : (hadV l n i)[k]? = some (.int .i64 (hadS (l.take i) k)) := by simp [hadV, h]
theorem hadV_zero {l : List (Int × Int)} {n : Nat} : List.replicate n (.int .i64 0) = hadV l n 0 := by
  apply List.ext_getElem
  · simp [hadV]
  · intro k h1 h2
    simp [hadV, hadS]
theorem hadV_set {l : List (Int × Int)} {n i q : Nat} (hi : i < l.length) (e : l.getD i (0, 0) = ((q : Int), 100)) : (hadV l n i).set q (.int .i64 (hadS (l.take i) q + 100)) = hadV l n (i + 1) := by
  apply List.ext_getElem
  · simp [hadV]
  · intro k h1 h2
    have hs := had_succ (k := k) hi
    rw [e] at hs
    rw [List.getElem_set]
    simp only [hadV, List.getElem_map, List.getElem_range]
    by_cases h : q = k
    · subst h
      rw [if_pos rfl, hs, if_pos rfl]
    · rw [if_neg h, hs, if_neg (by dsimp only; omega), Int.add_zero]
theorem had_nnS {l : List (Int × Int)} {n : Nat} (h : ∀ x ∈ l, ∃ q : Nat, q < n ∧ x.1 = q ∧ x.2 = 100) : ∀ x ∈ l, 0 ≤ x.2 := fun x hx => by
  obtain ⟨_, _, _, h1⟩ := h x hx
  omega
theorem sent_at {l : List (Int × Int)} {n i : Nat} (h : ∀ x ∈ l, ∃ q : Nat, q < n ∧ x.1 = q ∧ x.2 = 100) (hi : i < l.length) : ∃ q : Nat, q < n ∧ l.getD i (0, 0) = ((q : Int), 100) := by
  obtain ⟨q, hq, h1, h2⟩ := h l[i] (List.getElem_mem hi)
  refine ⟨q, hq, ?_⟩
  rw [List.getD_eq_getElem?_getD, List.getElem?_eq_getElem hi]
  exact Prod.ext h1 h2
theorem fair_bd {w R D : Int} (h : 1 ≤ w ∧ w ≤ 12) (hR : 0 ≤ R ∧ R ≤ 10) (hD : 0 ≤ D ∧ D ≤ 192) :
    (0 ≤ w * R ∧ w * R ≤ 120) ∧ (0 ≤ w * 100 * R ∧ w * 100 * R ≤ 12000) ∧ (0 ≤ D * 100 * R ∧ D * 100 * R ≤ 192000) ∧ (0 ≤ w * 100 * R * D ∧ w * 100 * R * D ≤ 2304000) ∧ w * 100 * R * D = w * (D * 100 * R) := by
  have h1 := Int.mul_le_mul h.2 hR.2 hR.1 (by decide)
  have h2 := Int.mul_nonneg (show 0 ≤ w by omega) hR.1
  have h3 := Int.mul_le_mul hD.2 hR.2 hR.1 (by decide)
  have h4 := Int.mul_nonneg hD.1 hR.1
  have e1 : w * 100 * R = 100 * (w * R) := by grind
  have e2 : D * 100 * R = 100 * (D * R) := by grind
  have h5 := Int.mul_le_mul (show w * 100 * R ≤ 12000 by omega) hD.2 hD.1 (by decide)
  have h6 := Int.mul_nonneg (show 0 ≤ w * 100 * R by omega) hD.1
  refine ⟨⟨h2, by omega⟩, ⟨by omega, by omega⟩, ⟨by omega, by omega⟩, ⟨h6, by omega⟩, by grind⟩

end Go.Proofs.YtoibebmhfcjpfaaGreatDoor.Fair
