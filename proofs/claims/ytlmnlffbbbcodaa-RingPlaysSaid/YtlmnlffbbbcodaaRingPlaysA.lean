/- Walks: ring.Play and weirhouseref.HPlay: both have a queue go on by stp. -/
import Derived.Test.YtlmnlffbbbcodaaRingPlaysM
namespace Go.Proofs.Ytlmnlffbbbcodaa.Ring
open Go.RowKit Go.Proofs.Ytlmnlffbbbcodaa.Big

abbrev QS := List Int × Int × List Int
def nx (most mb : Int) (s : QS) (o : Int × Int) : QS :=
  match stp s.1 most mb s.2.1 o.1 o.2 with
  | none => s
  | some (r, xs, dr) => (xs, dr, if o.1 = 2 then s.2.2 ++ [r] else s.2.2)
def stt (most mb : Int) (l : List (Int × Int)) : QS := l.foldl (nx most mb) ([], 0, [])
theorem stt_take {most mb : Int} {l : List (Int × Int)} {k : Nat} (h : k < l.length) : stt most mb (l.take (k + 1)) = nx most mb (stt most mb (l.take k)) l[k] := by
  unfold stt
  rw [List.take_succ_eq_append_getElem h, List.foldl_append]; rfl

theorem nx_none {most mb : Int} {zs os : List Int} {dr kd v : Int} (h : stp zs most mb dr kd v = none) : nx most mb (zs, dr, os) (kd, v) = (zs, dr, os) := by simp [nx, h]
theorem nx_two {most mb : Int} {zs os xs : List Int} {dr dr' r kd v : Int} (h : stp zs most mb dr kd v = some (r, xs, dr')) (hk : kd = 2) : nx most mb (zs, dr, os) (kd, v) = (xs, dr', os ++ [r]) := by subst hk; simp [nx, h]
theorem nx_one {most mb : Int} {zs os xs : List Int} {dr dr' r kd v : Int} (h : stp zs most mb dr kd v = some (r, xs, dr')) (hk : kd ≠ 2) : nx most mb (zs, dr, os) (kd, v) = (xs, dr', os) := by simp [nx, h, hk]

theorem cell_of {w : World} {g : Nat} {cs : Array Value} {t : TypeId} {fz : Nat × Nat} (h : w.heap[g]? = some (.cells cs t fz)) (o : Nat) : w.cell? ⟨g, o, none⟩ = cs[o]? := by simp [World.cell?, h]
theorem frozen_of {w : World} {g : Nat} {cs : Array Value} {t : TypeId} (h : w.heap[g]? = some (.cells cs t (0, 0))) (o : Nat) : w.frozen? ⟨g, o, none⟩ = false := by simp [World.frozen?, h]

/-- append of one integer to an own slice, of whatever length can be. -/
theorem wpList_app1' {P : Program} {w : World} {ops : Array Oper} {rest : List Oper} {o : Oper} {a : Act} {Q : Exit → Act → World → Prop} (hgd : o.guard = none) (s x : Operand) (t : TypeId)
    (ho : o.op = .call { callee := .builtin .append, args := #[s, x], argTypes := #[t, t] }) (e : TypeId) (k : IntKind) (bytes : Nat) (ht : P.underlying t = some (.slice e))
    (hi : (P.info? e).map (fun i => (i.zero, i.size, i.bytes)) = some (some (.int k 0), 1, bytes)) (base : Nat) (xs : List Int) (z : Int)
    (v : Value) (hs : a.eval s = v) (g : Nat) (hx : a.eval x = .slice (some ⟨g, 0, none⟩) 1 1) (hby : bytes ≤ 8) (hown : OwnI w base e k v xs) (hc : w.cell? ⟨g, 0, none⟩ = some (.int k z))
    (hlen : xs.length ≤ 10000000000000) (hbase : base ≤ w.heap.size)
    (h : ∀ v' w', OwnI w' base e k v' (xs ++ [z]) → w.grownBy w' v.ownBlock → wpList P ops Q rest (a.put o.dst v') w') : wpList P ops Q (o :: rest) a w := by
  obtain ⟨i, h1, h2, h3, h4⟩ := info_parts' hi
  refine wpList_append_own w hgd s x t ho base e i (.int k 0) 1 bytes ht h1 h2 h3 h4 rfl (by decide) v xs.length (xs.map (Value.int k)) hs hown ⟨g, 0, none⟩ 1 1 [.int k z] hx rfl (fun j u hu => ?_) (fun u hu => ?_) (by unfold maxLen; omega) ?_ hbase (fun v' w' h5 h6 _ => h v' w' ?_ h6)
  · cases j with
    | zero =>
      simp only [List.getElem?_cons_zero, Option.some.injEq] at hu
      subst hu
      simpa [Addr.add] using hc
    | succ j => simp at hu
  · simp only [List.mem_singleton] at hu
    subst hu
    rfl
  · have := Nat.mul_le_mul (show xs.length + 1 ≤ 10000000000001 by omega) hby
    omega
  · unfold OwnI
    rw [List.length_append, List.map_append]
    exact h5

theorem RdI.otherA {k : IntKind} {w w' : World} {A : Option Addr} {b o n : Nat} {xs : List Int} (h : RdI k w A xs) (hu : Upd w w' b o n) (hne : ∀ g o s, A = some ⟨g, o, s⟩ → g ≠ b) : RdI k w' A xs := by
  cases A with
  | none =>
    rcases h with h | ⟨b', off', hA, hc⟩
    · exact .inl h
    · cases hA
  | some a => obtain ⟨g, off, s⟩ := a; exact h.other hu (hne g off s rfl)
theorem RdI.grownA {k : IntKind} {w w' : World} {A : Option Addr} {row : Option Nat} {xs : List Int} (h : RdI k w A xs) (hg : w.grownBy w' row) (hne : ∀ g o s, A = some ⟨g, o, s⟩ → some g ≠ row) : RdI k w' A xs := by
  rcases h with h | ⟨b, off, hA, hc⟩
  · exact .inl h
  · exact .inr ⟨b, off, hA, fun j u hj => (World.cell?_of_block (a := ⟨b, off + j, none⟩) (hg.block b (lt_of_cell (hc j u hj)) (hne b off none hA))).trans (hc j u hj)⟩

/-- What both give back. -/
def PlayR (most mb : Int) (s : QS) (w : World) (e : Ending) (w' : World) : Prop :=
  ∃ (A1 : Option Addr) (c1 : Nat) (A2 : Option Addr) (c2 : Nat), e = .returned (.tuple #[.slice A1 s.2.2.length c1, .agg #[.slice A2 s.1.length c2, (.int .i64 most), (.int .i64 mb), (.int .i64 s.2.1)], (.int .i64 0)]) ∧ RdI .i64 w' A1 s.2.2 ∧ RdI .i64 w' A2 s.1 ∧ s.1.length ≤ 1000 ∧ s.2.2.length ≤ 10000000000000 ∧ Below w.heap.size w w'

theorem at2p {w wr : World} {A : Option Addr} {l : List (Int × Int)} (hr : Rd w A (l.flatMap c2)) (hb : Below w.heap.size w wr) {k : Nat} (hk : k < l.length) {x y : Int} (hxy : l[k] = (x, y)) :
    ∃ b off, A = some ⟨b, off, none⟩ ∧ b < wr.heap.size ∧ wr.cell? ⟨b, off + k * 2, none⟩ = some (.int .i64 x) ∧ wr.cell? ⟨b, off + k * 2 + 1, none⟩ = some (.int .i64 y) := by
  obtain ⟨b, off, hA, hbl, h0, h1⟩ := hr.at2 hk
  rw [hxy] at h0 h1
  exact ⟨b, off, hA, Nat.lt_of_lt_of_le hbl hb.size, (hb.cell (p := ⟨b, _, none⟩) hbl).trans h0, (hb.cell (p := ⟨b, _, none⟩) hbl).trans h1⟩

set_option maxRecDepth 100000 in
set_option maxHeartbeats 2000000 in
theorem play_bad (A : Option Addr) (n c : Nat) (most mb : Int) (w : World) (h : right [] most mb 0 = false) :
    Calls Try.prog 57 #[(.int .i64 most), (.int .i64 mb), .slice A n c] w fun e w' => e = .returned (.tuple #[.slice none 0 0, .agg #[.slice none 0 0, (.int .i64 0), (.int .i64 0), (.int .i64 0)], (.int .i64 2)]) ∧ Below w.heap.size w w' := by
  have HR : Hid (∀ W, Below w.heap.size w W → Calls Try.prog 89 #[.agg #[.slice none 0 0, (.int .i64 most), (.int .i64 mb), (.int .i64 0)]] W fun e w' => e = .returned (.bool false) ∧ Below W.heap.size W w') := Lib.hid fun W hW => h ▸ right_any none 0 0 [] most mb 0 W (.inl rfl) rfl (by omega)
  clear h
  go_enter Try.func57, Try.ntmps57
  go_wp2_with fail
  refine (HR.out _ (by repeat (first | (with_reducible exact Below.refl _ _) | (with_reducible assumption) | (with_reducible refine Below.drew ?_) | (with_reducible refine below_drewN ?_ _) | ((with_reducible refine Below.setCell ?_ ?_ _); rotate_left; (next => first | omega | exact Nat.le_refl _ | (refine Below.size (B := ?_) ?_; rotate_left; assumption) | (simp; done) | (simp; omega))) | ((with_reducible refine Below.alloc ?_ ?_ _); rotate_left; (next => first | omega | exact Nat.le_refl _ | (refine Below.size (B := ?_) ?_; rotate_left; assumption) | (simp; done) | (simp; omega))) | ((with_reducible refine Below.trans (b := ?_) ?_ (Below.mono (B := ?_) ?_ ?_)); rotate_left 3; (next => (with_reducible assumption)); (next => first | omega | exact Nat.le_refl _ | (refine Below.size (B := ?_) ?_; rotate_left; assumption) | (simp; done) | (simp; omega))) | exact Below.refl _ _ | assumption | refine Below.drew ?_ | refine below_drewN ?_ _ | refine Below.alloc ?_ (by first | omega | exact Below.size (by assumption) | (simp; done) | (simp; omega)) _ | refine Below.setCell ?_ (by first | omega | exact Below.size (by assumption) | (simp; done) | (simp; omega)) _ | refine Below.trans ?_ (Below.mono (by assumption) (by first | omega | exact Below.size (by assumption) | (simp; done) | (simp; omega)))))).mono ?_
  rintro e w1 ⟨rfl, hb1⟩
  have hB1 : Below w.heap.size w w1 := (by repeat (first | (with_reducible exact Below.refl _ _) | (with_reducible assumption) | (with_reducible refine Below.drew ?_) | (with_reducible refine below_drewN ?_ _) | ((with_reducible refine Below.setCell ?_ ?_ _); rotate_left; (next => first | omega | exact Nat.le_refl _ | (refine Below.size (B := ?_) ?_; rotate_left; assumption) | (simp; done) | (simp; omega))) | ((with_reducible refine Below.alloc ?_ ?_ _); rotate_left; (next => first | omega | exact Nat.le_refl _ | (refine Below.size (B := ?_) ?_; rotate_left; assumption) | (simp; done) | (simp; omega))) | ((with_reducible refine Below.trans (b := ?_) ?_ (Below.mono (B := ?_) ?_ ?_)); rotate_left 3; (next => (with_reducible assumption)); (next => first | omega | exact Nat.le_refl _ | (refine Below.size (B := ?_) ?_; rotate_left; assumption) | (simp; done) | (simp; omega))) | exact Below.refl _ _ | assumption | refine Below.drew ?_ | refine below_drewN ?_ _ | refine Below.alloc ?_ (by first | omega | exact Below.size (by assumption) | (simp; done) | (simp; omega)) _ | refine Below.setCell ?_ (by first | omega | exact Below.size (by assumption) | (simp; done) | (simp; omega)) _ | refine Below.trans ?_ (Below.mono (by assumption) (by first | omega | exact Below.size (by assumption) | (simp; done) | (simp; omega)))))
  have hs1 := hB1.size
  have c1_0 := fun o => Below.cell hb1 (p := ⟨w.heap.size, o, none⟩) (by first | omega | exact Below.size (by assumption) | (simp; done) | (simp; omega))
  have f1_0 := fun o => Below.frozen hb1 (p := ⟨w.heap.size, o, none⟩) (by first | omega | exact Below.size (by assumption) | (simp; done) | (simp; omega))
  have l1_0 : w.heap.size < w1.heap.size := Nat.lt_of_lt_of_le (by first | omega | exact Below.size (by assumption) | (simp; done) | (simp; omega)) (Below.size hb1)
  go_wp2_with fail
  refine bodyPost_ret (v := .tuple #[.slice none 0 0, .agg #[.slice none 0 0, (.int .i64 0), (.int .i64 0), (.int .i64 0)], (.int .i64 2)]) (by simp [results, Try.results57, go_sem, *]) rfl ?_
  exact ⟨rfl, (by repeat (first | (with_reducible exact Below.refl _ _) | (with_reducible assumption) | (with_reducible refine Below.drew ?_) | (with_reducible refine below_drewN ?_ _) | ((with_reducible refine Below.setCell ?_ ?_ _); rotate_left; (next => first | omega | exact Nat.le_refl _ | (refine Below.size (B := ?_) ?_; rotate_left; assumption) | (simp; done) | (simp; omega))) | ((with_reducible refine Below.alloc ?_ ?_ _); rotate_left; (next => first | omega | exact Nat.le_refl _ | (refine Below.size (B := ?_) ?_; rotate_left; assumption) | (simp; done) | (simp; omega))) | ((with_reducible refine Below.trans (b := ?_) ?_ (Below.mono (B := ?_) ?_ ?_)); rotate_left 3; (next => (with_reducible assumption)); (next => first | omega | exact Nat.le_refl _ | (refine Below.size (B := ?_) ?_; rotate_left; assumption) | (simp; done) | (simp; omega)))))⟩

set_option maxRecDepth 100000 in
set_option maxHeartbeats 4000000 in
theorem play_ok (A : Option Addr) (n c : Nat) (l : List (Int × Int)) (most mb : Int) (w : World) (hr : Rd w A (l.flatMap c2)) (hn : l.length = n) (hm : n * 16 ≤ 140737488355328) (h : right [] most mb 0 = true) :
    Calls Try.prog 57 #[(.int .i64 most), (.int .i64 mb), .slice A n c] w fun e w' => PlayR most mb (stt most mb l) w e w' := by
  have HR : Hid (∀ W, Below w.heap.size w W → Calls Try.prog 89 #[.agg #[.slice none 0 0, (.int .i64 most), (.int .i64 mb), (.int .i64 0)]] W fun e w' => e = .returned (.bool true) ∧ Below W.heap.size W w') := Lib.hid fun W hW => h ▸ right_any none 0 0 [] most mb 0 W (.inl rfl) rfl (by omega)
  have Hr := Lib.hid hr
  have Hn := Lib.hid hn
  clear h hr hn
  go_enter Try.func57, Try.ntmps57
  go_wp2_with fail
  refine (HR.out _ (by repeat (first | (with_reducible exact Below.refl _ _) | (with_reducible assumption) | (with_reducible refine Below.drew ?_) | (with_reducible refine below_drewN ?_ _) | ((with_reducible refine Below.setCell ?_ ?_ _); rotate_left; (next => first | omega | exact Nat.le_refl _ | (refine Below.size (B := ?_) ?_; rotate_left; assumption) | (simp; done) | (simp; omega))) | ((with_reducible refine Below.alloc ?_ ?_ _); rotate_left; (next => first | omega | exact Nat.le_refl _ | (refine Below.size (B := ?_) ?_; rotate_left; assumption) | (simp; done) | (simp; omega))) | ((with_reducible refine Below.trans (b := ?_) ?_ (Below.mono (B := ?_) ?_ ?_)); rotate_left 3; (next => (with_reducible assumption)); (next => first | omega | exact Nat.le_refl _ | (refine Below.size (B := ?_) ?_; rotate_left; assumption) | (simp; done) | (simp; omega))) | exact Below.refl _ _ | assumption | refine Below.drew ?_ | refine below_drewN ?_ _ | refine Below.alloc ?_ (by first | omega | exact Below.size (by assumption) | (simp; done) | (simp; omega)) _ | refine Below.setCell ?_ (by first | omega | exact Below.size (by assumption) | (simp; done) | (simp; omega)) _ | refine Below.trans ?_ (Below.mono (by assumption) (by first | omega | exact Below.size (by assumption) | (simp; done) | (simp; omega)))))).mono ?_
  rintro e w1 ⟨rfl, hb1⟩
  have hB1 : Below w.heap.size w w1 := (by repeat (first | (with_reducible exact Below.refl _ _) | (with_reducible assumption) | (with_reducible refine Below.drew ?_) | (with_reducible refine below_drewN ?_ _) | ((with_reducible refine Below.setCell ?_ ?_ _); rotate_left; (next => first | omega | exact Nat.le_refl _ | (refine Below.size (B := ?_) ?_; rotate_left; assumption) | (simp; done) | (simp; omega))) | ((with_reducible refine Below.alloc ?_ ?_ _); rotate_left; (next => first | omega | exact Nat.le_refl _ | (refine Below.size (B := ?_) ?_; rotate_left; assumption) | (simp; done) | (simp; omega))) | ((with_reducible refine Below.trans (b := ?_) ?_ (Below.mono (B := ?_) ?_ ?_)); rotate_left 3; (next => (with_reducible assumption)); (next => first | omega | exact Nat.le_refl _ | (refine Below.size (B := ?_) ?_; rotate_left; assumption) | (simp; done) | (simp; omega))) | exact Below.refl _ _ | assumption | refine Below.drew ?_ | refine below_drewN ?_ _ | refine Below.alloc ?_ (by first | omega | exact Below.size (by assumption) | (simp; done) | (simp; omega)) _ | refine Below.setCell ?_ (by first | omega | exact Below.size (by assumption) | (simp; done) | (simp; omega)) _ | refine Below.trans ?_ (Below.mono (by assumption) (by first | omega | exact Below.size (by assumption) | (simp; done) | (simp; omega)))))
  have hs1 := hB1.size
  have c1_0 := fun o => Below.cell hb1 (p := ⟨w.heap.size, o, none⟩) (by first | omega | exact Below.size (by assumption) | (simp; done) | (simp; omega))
  have f1_0 := fun o => Below.frozen hb1 (p := ⟨w.heap.size, o, none⟩) (by first | omega | exact Below.size (by assumption) | (simp; done) | (simp; omega))
  have l1_0 : w.heap.size < w1.heap.size := Nat.lt_of_lt_of_le (by first | omega | exact Below.size (by assumption) | (simp; done) | (simp; omega)) (Below.size hb1)
  have k1 : w.heap.size + 1 < w1.heap.size := by have := hb1.size; simp at this; omega
  have hq0 : w1.heap[w.heap.size + 1]? = some (.cells #[.slice none 0 0, (.int .i64 most), (.int .i64 mb), (.int .i64 0)] 98 (0, 0)) := (hb1.block (w.heap.size + 1) (by simp)).trans (by simpa using top0 (w.alloc _) _)
  have d0 : ∀ o, w1.cell? ⟨w.heap.size, o, none⟩ = (#[.slice none 0 0, (.int .i64 0), (.int .i64 0), (.int .i64 0)] : Array Value)[o]? := fun o => by rw [c1_0]; simp [go_sem]
  have d1 : ∀ o, w1.frozen? ⟨w.heap.size, o, none⟩ = false := fun o => by rw [f1_0]; simp [go_sem]
  clear c1_0 f1_0 l1_0 hb1 HR
  go_wp2_with fail
  go_loopw [10, 25] (fun v i wr => ∃ k : Nat, k ≤ n ∧ i = .int .i64 k ∧ Below w.heap.size w wr ∧ w.heap.size + 1 < wr.heap.size ∧ (stt most mb (l.take k)).1.length ≤ 1000 ∧ (stt most mb (l.take k)).2.2.length ≤ k ∧ OwnI wr (w.heap.size + 2) 3 .i64 v (stt most mb (l.take k)).2.2 ∧
      (∃ A' c', wr.heap[w.heap.size + 1]? = some (.cells #[.slice A' (stt most mb (l.take k)).1.length c', (.int .i64 most), (.int .i64 mb), (.int .i64 ((stt most mb (l.take k)).2.1))] 98 (0, 0)) ∧ RdI .i64 wr A' (stt most mb (l.take k)).1 ∧ (∀ g o s, A' = some ⟨g, o, s⟩ → w.heap.size + 1 < g)) ∧
      (∀ o, wr.cell? ⟨w.heap.size, o, none⟩ = (#[.slice none 0 0, (.int .i64 0), (.int .i64 0), (.int .i64 0)] : Array Value)[o]?) ∧ (∀ o, wr.frozen? ⟨w.heap.size, o, none⟩ = false)) (fun _ i _ => n - (intOf i).toNat)
  case atStart => exact ⟨0, by omega, rfl, hB1, k1, by simp [stt], by simp [stt], OwnI.nil _ _ _ _, ⟨none, 0, hq0, .inl rfl, fun _ _ _ h => by cases h⟩, d0, d1⟩
  case round =>
    obtain ⟨k, hk, rfl, hbw, hsz, z1, z2, ho, ⟨A1, c1, hq, hr1, hA1⟩, e0, e1⟩ := hrel
    have HT : ∀ hl : k < l.length, Hid (stt most mb (l.take (k + 1)) = nx most mb (stt most mb (l.take k)) l[k]) := fun hl => Lib.hid (stt_take hl)
    have HL : ¬ k < n → Hid (stt most mb l = stt most mb (l.take k)) := fun hl => Lib.hid (by rw [List.take_of_length_le (by have := Hn.out; omega)])
    generalize stt most mb (l.take k) = s at z1 z2 ho hq hr1 HT HL
    obtain ⟨zs, dr, os⟩ := s
    simp only at z1 z2 ho hq hr1
    have Ho := Lib.hid ho
    have Hr1 := Lib.hid hr1
    have qc := cell_of hq
    clear ho hr1 hq0 d0 d1 k1
    by_cases hlt : k < n
    · have hl : k < l.length := by have := Hn.out; omega
      obtain ⟨⟨kd, v⟩, Hxy⟩ : ∃ z, Hid (l[k] = z) := ⟨_, Lib.hid rfl⟩
      obtain ⟨b, off, rfl, hbl, hc0, hc1⟩ := at2p Hr.out hbw hl Hxy.out
      have Ht := HT hl
      rw [Hxy.out] at Ht
      clear HT HL
      obtain ⟨zn, Hzn⟩ : ∃ z, Hid (zs.length = z) := ⟨_, Lib.hid rfl⟩
      rw [Hzn.out] at hq qc z1
      rcases step_stp A1 zn c1 zs most mb dr kd v wr Hr1.out Hzn.out (by omega) with ⟨hs, er, hne, HS, HH⟩ | ⟨r, xs, dr', hs, hxl, HS, HH⟩
      · replace HS := Lib.hid HS
        clear HH
        rw [nx_none hs] at Ht
        clear hs
        have hd : (er != 0) = true := by simpa using hne
        go_wp2_with fail
        refine (HS.out _ (by repeat (first | (with_reducible exact Below.refl _ _) | (with_reducible assumption) | (with_reducible refine Below.drew ?_) | (with_reducible refine below_drewN ?_ _) | ((with_reducible refine Below.setCell ?_ ?_ _); rotate_left; (next => first | omega | exact Nat.le_refl _ | (refine Below.size (B := ?_) ?_; rotate_left; assumption) | (simp; done) | (simp; omega))) | ((with_reducible refine Below.alloc ?_ ?_ _); rotate_left; (next => first | omega | exact Nat.le_refl _ | (refine Below.size (B := ?_) ?_; rotate_left; assumption) | (simp; done) | (simp; omega))) | ((with_reducible refine Below.trans (b := ?_) ?_ (Below.mono (B := ?_) ?_ ?_)); rotate_left 3; (next => (with_reducible assumption)); (next => first | omega | exact Nat.le_refl _ | (refine Below.size (B := ?_) ?_; rotate_left; assumption) | (simp; done) | (simp; omega)))))).mono ?_
        rintro e w2 ⟨rfl, hb2⟩
        have hB2 : Below wr.heap.size wr w2 := Below.trans (by repeat (first | (with_reducible exact Below.refl _ _) | (with_reducible assumption) | (with_reducible refine Below.drew ?_) | (with_reducible refine below_drewN ?_ _) | ((with_reducible refine Below.setCell ?_ ?_ _); rotate_left; (next => first | omega | exact Nat.le_refl _ | (refine Below.size (B := ?_) ?_; rotate_left; assumption) | (simp; done) | (simp; omega))) | ((with_reducible refine Below.alloc ?_ ?_ _); rotate_left; (next => first | omega | exact Nat.le_refl _ | (refine Below.size (B := ?_) ?_; rotate_left; assumption) | (simp; done) | (simp; omega))) | ((with_reducible refine Below.trans (b := ?_) ?_ (Below.mono (B := ?_) ?_ ?_)); rotate_left 3; (next => (with_reducible assumption)); (next => first | omega | exact Nat.le_refl _ | (refine Below.size (B := ?_) ?_; rotate_left; assumption) | (simp; done) | (simp; omega))))) (hb2.mono (by simp; try omega))
        have k2 : wr.heap.size ≤ w2.heap.size := hB2.size
        clear hb2
        go_wp2_with fail
        go_roundw
        case rel => exact ⟨k + 1, by omega, by go_num, hbw.trans (Below.mono (by repeat (first | (with_reducible exact Below.refl _ _) | (with_reducible assumption) | (with_reducible refine Below.drew ?_) | (with_reducible refine below_drewN ?_ _) | ((with_reducible refine Below.setCell ?_ ?_ _); rotate_left; (next => first | omega | exact Nat.le_refl _ | (refine Below.size (B := ?_) ?_; rotate_left; assumption) | (simp; done) | (simp; omega))) | ((with_reducible refine Below.alloc ?_ ?_ _); rotate_left; (next => first | omega | exact Nat.le_refl _ | (refine Below.size (B := ?_) ?_; rotate_left; assumption) | (simp; done) | (simp; omega))) | ((with_reducible refine Below.trans (b := ?_) ?_ (Below.mono (B := ?_) ?_ ?_)); rotate_left 3; (next => (with_reducible assumption)); (next => first | omega | exact Nat.le_refl _ | (refine Below.size (B := ?_) ?_; rotate_left; assumption) | (simp; done) | (simp; omega))))) hbw.size), by simp; omega, Ht.out ▸ (Hzn.out ▸ z1), Ht.out ▸ (by simpa using Nat.le_succ_of_le z2), Ht.out ▸ Ho.out.below (by repeat (first | (with_reducible exact Below.refl _ _) | (with_reducible assumption) | (with_reducible refine Below.drew ?_) | (with_reducible refine below_drewN ?_ _) | ((with_reducible refine Below.setCell ?_ ?_ _); rotate_left; (next => first | omega | exact Nat.le_refl _ | (refine Below.size (B := ?_) ?_; rotate_left; assumption) | (simp; done) | (simp; omega))) | ((with_reducible refine Below.alloc ?_ ?_ _); rotate_left; (next => first | omega | exact Nat.le_refl _ | (refine Below.size (B := ?_) ?_; rotate_left; assumption) | (simp; done) | (simp; omega))) | ((with_reducible refine Below.trans (b := ?_) ?_ (Below.mono (B := ?_) ?_ ?_)); rotate_left 3; (next => (with_reducible assumption)); (next => first | omega | exact Nat.le_refl _ | (refine Below.size (B := ?_) ?_; rotate_left; assumption) | (simp; done) | (simp; omega))))), ⟨A1, c1, Ht.out ▸ Hzn.out ▸ ((Below.block (w := wr) (B := wr.heap.size) (by repeat (first | (with_reducible exact Below.refl _ _) | (with_reducible assumption) | (with_reducible refine Below.drew ?_) | (with_reducible refine below_drewN ?_ _) | ((with_reducible refine Below.setCell ?_ ?_ _); rotate_left; (next => first | omega | exact Nat.le_refl _ | (refine Below.size (B := ?_) ?_; rotate_left; assumption) | (simp; done) | (simp; omega))) | ((with_reducible refine Below.alloc ?_ ?_ _); rotate_left; (next => first | omega | exact Nat.le_refl _ | (refine Below.size (B := ?_) ?_; rotate_left; assumption) | (simp; done) | (simp; omega))) | ((with_reducible refine Below.trans (b := ?_) ?_ (Below.mono (B := ?_) ?_ ?_)); rotate_left 3; (next => (with_reducible assumption)); (next => first | omega | exact Nat.le_refl _ | (refine Below.size (B := ?_) ?_; rotate_left; assumption) | (simp; done) | (simp; omega))))) _ hsz).trans hq), Ht.out ▸ Hr1.out.below (by repeat (first | (with_reducible exact Below.refl _ _) | (with_reducible assumption) | (with_reducible refine Below.drew ?_) | (with_reducible refine below_drewN ?_ _) | ((with_reducible refine Below.setCell ?_ ?_ _); rotate_left; (next => first | omega | exact Nat.le_refl _ | (refine Below.size (B := ?_) ?_; rotate_left; assumption) | (simp; done) | (simp; omega))) | ((with_reducible refine Below.alloc ?_ ?_ _); rotate_left; (next => first | omega | exact Nat.le_refl _ | (refine Below.size (B := ?_) ?_; rotate_left; assumption) | (simp; done) | (simp; omega))) | ((with_reducible refine Below.trans (b := ?_) ?_ (Below.mono (B := ?_) ?_ ?_)); rotate_left 3; (next => (with_reducible assumption)); (next => first | omega | exact Nat.le_refl _ | (refine Below.size (B := ?_) ?_; rotate_left; assumption) | (simp; done) | (simp; omega))))), hA1⟩,
          fun o => (Below.cell (w := wr) (B := wr.heap.size) (p := ⟨w.heap.size, o, none⟩) (by repeat (first | (with_reducible exact Below.refl _ _) | (with_reducible assumption) | (with_reducible refine Below.drew ?_) | (with_reducible refine below_drewN ?_ _) | ((with_reducible refine Below.setCell ?_ ?_ _); rotate_left; (next => first | omega | exact Nat.le_refl _ | (refine Below.size (B := ?_) ?_; rotate_left; assumption) | (simp; done) | (simp; omega))) | ((with_reducible refine Below.alloc ?_ ?_ _); rotate_left; (next => first | omega | exact Nat.le_refl _ | (refine Below.size (B := ?_) ?_; rotate_left; assumption) | (simp; done) | (simp; omega))) | ((with_reducible refine Below.trans (b := ?_) ?_ (Below.mono (B := ?_) ?_ ?_)); rotate_left 3; (next => (with_reducible assumption)); (next => first | omega | exact Nat.le_refl _ | (refine Below.size (B := ?_) ?_; rotate_left; assumption) | (simp; done) | (simp; omega))))) (by simp; omega)).trans (e0 o), fun o => (Below.frozen (w := wr) (B := wr.heap.size) (p := ⟨w.heap.size, o, none⟩) (by repeat (first | (with_reducible exact Below.refl _ _) | (with_reducible assumption) | (with_reducible refine Below.drew ?_) | (with_reducible refine below_drewN ?_ _) | ((with_reducible refine Below.setCell ?_ ?_ _); rotate_left; (next => first | omega | exact Nat.le_refl _ | (refine Below.size (B := ?_) ?_; rotate_left; assumption) | (simp; done) | (simp; omega))) | ((with_reducible refine Below.alloc ?_ ?_ _); rotate_left; (next => first | omega | exact Nat.le_refl _ | (refine Below.size (B := ?_) ?_; rotate_left; assumption) | (simp; done) | (simp; omega))) | ((with_reducible refine Below.trans (b := ?_) ?_ (Below.mono (B := ?_) ?_ ?_)); rotate_left 3; (next => (with_reducible assumption)); (next => first | omega | exact Nat.le_refl _ | (refine Below.size (B := ?_) ?_; rotate_left; assumption) | (simp; done) | (simp; omega))))) (by simp; omega)).trans (e1 o)⟩
        case measure => first | (simp [intOf]; done) | (simp [intOf]; omega)
      · replace HS := Lib.hid HS
        clear HH
        go_wp2_with fail
        refine (HS.out _ (by repeat (first | (with_reducible exact Below.refl _ _) | (with_reducible assumption) | (with_reducible refine Below.drew ?_) | (with_reducible refine below_drewN ?_ _) | ((with_reducible refine Below.setCell ?_ ?_ _); rotate_left; (next => first | omega | exact Nat.le_refl _ | (refine Below.size (B := ?_) ?_; rotate_left; assumption) | (simp; done) | (simp; omega))) | ((with_reducible refine Below.alloc ?_ ?_ _); rotate_left; (next => first | omega | exact Nat.le_refl _ | (refine Below.size (B := ?_) ?_; rotate_left; assumption) | (simp; done) | (simp; omega))) | ((with_reducible refine Below.trans (b := ?_) ?_ (Below.mono (B := ?_) ?_ ?_)); rotate_left 3; (next => (with_reducible assumption)); (next => first | omega | exact Nat.le_refl _ | (refine Below.size (B := ?_) ?_; rotate_left; assumption) | (simp; done) | (simp; omega)))))).mono ?_
        rintro e w2 ⟨A2, c2, rfl, hlc2, ⟨hr2, hA2⟩, hb2⟩
        have hB2 : Below wr.heap.size wr w2 := Below.trans (by repeat (first | (with_reducible exact Below.refl _ _) | (with_reducible assumption) | (with_reducible refine Below.drew ?_) | (with_reducible refine below_drewN ?_ _) | ((with_reducible refine Below.setCell ?_ ?_ _); rotate_left; (next => first | omega | exact Nat.le_refl _ | (refine Below.size (B := ?_) ?_; rotate_left; assumption) | (simp; done) | (simp; omega))) | ((with_reducible refine Below.alloc ?_ ?_ _); rotate_left; (next => first | omega | exact Nat.le_refl _ | (refine Below.size (B := ?_) ?_; rotate_left; assumption) | (simp; done) | (simp; omega))) | ((with_reducible refine Below.trans (b := ?_) ?_ (Below.mono (B := ?_) ?_ ?_)); rotate_left 3; (next => (with_reducible assumption)); (next => first | omega | exact Nat.le_refl _ | (refine Below.size (B := ?_) ?_; rotate_left; assumption) | (simp; done) | (simp; omega))))) (hb2.mono (by simp; try omega))
        have k2 : wr.heap.size ≤ w2.heap.size := hB2.size
        replace hA2 : ∀ g o s, A2 = some ⟨g, o, s⟩ → wr.heap.size < g := fun g o s h => by have := hA2 g o s h; simp at this; omega
        have c2_0 := fun o => Below.cell hb2 (p := ⟨wr.heap.size, o, none⟩) (by first | omega | exact Below.size (by assumption) | (simp; done) | (simp; omega))
        have l2_0 : wr.heap.size < w2.heap.size := Nat.lt_of_lt_of_le (by first | omega | exact Below.size (by assumption) | (simp; done) | (simp; omega)) (Below.size hb2)
        have hq2 := (hB2.block _ hsz).trans hq
        have Hr2 := Lib.hid hr2
        clear hb2 hr2 hlc2 hq qc
        go_upto_region 11 with ((with_reducible refine wpList_storeA (y := .tmp 38) ?_); refine ⟨_, _, _, _, rfl, rfl, (Go.heap_alloc_old _ _ (by omega)).trans hq2, infoQ, rfl, by simp [Value.oneCell'], ?_⟩; intro w3 d3 e3 g3 s3 u3)
        have k3 : w3.heap.size = w2.heap.size + 1 := by rw [s3]; simp
        have c3_0 := fun o => Upd.other u3 (b' := wr.heap.size) (by first | omega | simp) (by first | omega | exact Below.size (by assumption) | (simp; done) | (simp; omega)) o
        have l3_0 : wr.heap.size < w3.heap.size := Nat.lt_of_lt_of_le (by first | omega | exact Below.size (by assumption) | (simp; done) | (simp; omega)) (Upd.size u3)
        have hw3 : ∀ b, b < wr.heap.size → b ≠ w.heap.size + 1 → w3.heap[b]? = wr.heap[b]? := fun b hb hne => (u3.block b (by simp; omega) hne).trans ((Go.heap_alloc_old _ _ (by omega)).trans (hB2.block b hb))
        have hbw3 : Below w.heap.size w w3 := (hbw.trans ((hB2.alloc k2 _).mono hbw.size)).trans (u3.below (by omega) (by simp; omega))
        have Hr3 : Hid (RdI .i64 w3 A2 xs) := Lib.hid (RdI.otherA (RdI.below Hr2.out ((Below.refl _ _).alloc (Nat.le_refl _) _)) u3 (fun g o s h => by have := hA2 g o s h; omega))
        have Ho3 : Hid (OwnI w3 (w.heap.size + 2) 3 .i64 u10 os) := Lib.hid (OwnI.upd ((Ho.out.below hB2).alloc _) u3 (fun g hg => by have := (World.ownsRow.lt Ho.out g hg).1; omega))
        have e03 : ∀ o, w3.cell? ⟨w.heap.size, o, none⟩ = (#[.slice none 0 0, (.int .i64 0), (.int .i64 0), (.int .i64 0)] : Array Value)[o]? := fun o => (World.cell?_of_block (a := ⟨w.heap.size, o, none⟩) (hw3 w.heap.size (by omega) (by omega))).trans (e0 o)
        have e13 : ∀ o, w3.frozen? ⟨w.heap.size, o, none⟩ = false := fun o => (World.frozen?_of_block (a := ⟨w.heap.size, o, none⟩) (hw3 w.heap.size (by omega) (by omega))).trans (e1 o)
        clear u3 s3 d3 e3 e0 e1 hw3 hB2 hq2
        rcases (by by_cases h : kd = 2; exact .inl ⟨h, by simp [h]⟩; exact .inr ⟨h, by simp [h]⟩ : (kd = 2 ∧ (kd == 2) = true) ∨ (kd ≠ 2 ∧ (kd == 2) = false)) with ⟨kk, kb⟩ | ⟨kk, kb⟩
        · rw [nx_two hs kk] at Ht
          clear kk hs
          go_wp2_with (at_builtin; refine wpList_app1' rfl _ _ 23 rfl 3 .i64 8 Try.underlying23 infoI8 (w.heap.size + 2) os r u10 rfl _ rfl (by decide) ?own ?cell ?len ?base ?_)
          case own => exact Ho3.out.alloc _
          case cell => (rw [← k3]; simp [go_sem])
          case len => omega
          case base => (simp; omega)
          intro v' w4 hown hgr
          have hlt4 := fun g hg => World.ownsRow.lt Ho.out g hg
          have hbw4 : Below w.heap.size w w4 := Below.grown (hbw3.alloc hbw3.size _) hgr (by have := hbw3.size; simp; omega) (fun g hg => by have := (hlt4 g hg).1; omega)
          have g0 := fun b (hb : b < w3.heap.size) (hne : b < w.heap.size + 2) => (hgr.block b (by simp; omega) (fun e => by have := (hlt4 _ e.symm).1; omega)).trans (Go.heap_alloc_old _ _ hb)
          have hsz4 : w.heap.size + 1 < w4.heap.size := by have := hgr.size; simp at this; omega
          have Hr4 : Hid (RdI .i64 w4 A2 xs) := Lib.hid (RdI.grownA (RdI.below Hr3.out ((Below.refl _ _).alloc (Nat.le_refl _) _)) hgr (fun g o s h e => by have := hA2 g o s h; have := (hlt4 g e.symm).2; omega))
          have Hown := Lib.hid hown
          clear hown hgr
          go_wp2_with fail
          go_roundw
          case rel => exact ⟨k + 1, by omega, by go_num, hbw4, hsz4, by rw [Ht.out]; exact hxl, by rw [Ht.out]; simp; omega, by rw [Ht.out]; exact Hown.out, ⟨A2, c2, by rw [Ht.out]; exact (g0 _ (by omega) (by omega)).trans g3, by rw [Ht.out]; exact Hr4.out, fun g o s h => by have := hA2 g o s h; omega⟩,
            fun o => (World.cell?_of_block (a := ⟨w.heap.size, o, none⟩) (g0 w.heap.size (by omega) (by omega))).trans (e03 o), fun o => (World.frozen?_of_block (a := ⟨w.heap.size, o, none⟩) (g0 w.heap.size (by omega) (by omega))).trans (e13 o)⟩
          case measure => first | (simp [intOf]; done) | (simp [intOf]; omega)
        · rw [nx_one hs kk] at Ht
          clear kk hs
          go_wp2_with fail
          go_roundw
          case rel => exact ⟨k + 1, by omega, by go_num, hbw3, by omega, by rw [Ht.out]; exact hxl, by rw [Ht.out]; simp; omega, by rw [Ht.out]; exact Ho3.out, ⟨A2, c2, by rw [Ht.out]; exact g3, by rw [Ht.out]; exact Hr3.out, fun g o s h => by have := hA2 g o s h; omega⟩, e03, e13⟩
          case measure => first | (simp [intOf]; done) | (simp [intOf]; omega)
    · have Hf := HL hlt
      clear HT HL
      obtain ⟨A2, c2, rfl, hlc, hr2, hA2⟩ := Ho.out.form
      have Hr2 := Lib.hid hr2
      obtain ⟨zn, Hzn⟩ : ∃ z, Hid (zs.length = z) := ⟨_, Lib.hid rfl⟩
      obtain ⟨on, Hon⟩ : ∃ z, Hid (os.length = z) := ⟨_, Lib.hid rfl⟩
      rw [Hzn.out] at hq qc z1
      rw [Hon.out] at z2 hlc ⊢
      clear hr2 hq
      go_wp2_with fail
      go_region
      go_wp2_with fail
      refine bodyPost_ret (v := .tuple #[.slice A2 on c2, .agg #[.slice A1 zn c1, (.int .i64 most), (.int .i64 mb), (.int .i64 dr)], (.int .i64 0)]) (by simp [results, Try.results57, go_sem, *]) rfl ?_
      refine ⟨A2, c2, A1, c1, by rw [Hf.out, Hzn.out, Hon.out], by rw [Hf.out]; exact RdI.otherA Hr2.out (((((Upd.refl wr w.heap.size 0 4).setCell (by omega) (by omega) _).setCell (by omega) (by omega) _).setCell (by omega) (by omega) _).setCell (by omega) (by omega) _).drew (fun g o s h => by have := hA2 g o s h; omega), by rw [Hf.out]; exact RdI.otherA Hr1.out (((((Upd.refl wr w.heap.size 0 4).setCell (by omega) (by omega) _).setCell (by omega) (by omega) _).setCell (by omega) (by omega) _).setCell (by omega) (by omega) _).drew (fun g o s h => by have := hA1 g o s h; omega), by rw [Hf.out, Hzn.out]; exact z1, by rw [Hf.out, Hon.out]; omega, (by repeat (first | (with_reducible exact Below.refl _ _) | (with_reducible assumption) | (with_reducible refine Below.drew ?_) | (with_reducible refine below_drewN ?_ _) | ((with_reducible refine Below.setCell ?_ ?_ _); rotate_left; (next => first | omega | exact Nat.le_refl _ | (refine Below.size (B := ?_) ?_; rotate_left; assumption) | (simp; done) | (simp; omega))) | ((with_reducible refine Below.alloc ?_ ?_ _); rotate_left; (next => first | omega | exact Nat.le_refl _ | (refine Below.size (B := ?_) ?_; rotate_left; assumption) | (simp; done) | (simp; omega))) | ((with_reducible refine Below.trans (b := ?_) ?_ (Below.mono (B := ?_) ?_ ?_)); rotate_left 3; (next => (with_reducible assumption)); (next => first | omega | exact Nat.le_refl _ | (refine Below.size (B := ?_) ?_; rotate_left; assumption) | (simp; done) | (simp; omega)))))⟩

set_option maxRecDepth 100000 in
set_option maxHeartbeats 2000000 in
theorem hplay_bad (A : Option Addr) (n c : Nat) (most mb : Int) (w : World) (h : right [] most mb 0 = false) :
    Calls Try.prog 58 #[(.int .i64 most), (.int .i64 mb), .slice A n c] w fun e w' => e = .returned (.tuple #[.slice none 0 0, .agg #[.slice none 0 0, (.int .i64 0), (.int .i64 0), (.int .i64 0)], (.int .i64 2)]) ∧ Below w.heap.size w w' := by
  have HR : Hid (∀ W, Below w.heap.size w W → Calls Try.prog 91 #[.agg #[.slice none 0 0, (.int .i64 most), (.int .i64 mb), (.int .i64 0)]] W fun e w' => e = .returned (.bool false) ∧ Below W.heap.size W w') := Lib.hid fun W hW => h ▸ hright_any none 0 0 [] most mb 0 W (.inl rfl) rfl (by omega)
  clear h
  go_enter Try.func58, Try.ntmps58
  go_wp2_with fail
  refine (HR.out _ (by repeat (first | (with_reducible exact Below.refl _ _) | (with_reducible assumption) | (with_reducible refine Below.drew ?_) | (with_reducible refine below_drewN ?_ _) | ((with_reducible refine Below.setCell ?_ ?_ _); rotate_left; (next => first | omega | exact Nat.le_refl _ | (refine Below.size (B := ?_) ?_; rotate_left; assumption) | (simp; done) | (simp; omega))) | ((with_reducible refine Below.alloc ?_ ?_ _); rotate_left; (next => first | omega | exact Nat.le_refl _ | (refine Below.size (B := ?_) ?_; rotate_left; assumption) | (simp; done) | (simp; omega))) | ((with_reducible refine Below.trans (b := ?_) ?_ (Below.mono (B := ?_) ?_ ?_)); rotate_left 3; (next => (with_reducible assumption)); (next => first | omega | exact Nat.le_refl _ | (refine Below.size (B := ?_) ?_; rotate_left; assumption) | (simp; done) | (simp; omega))) | exact Below.refl _ _ | assumption | refine Below.drew ?_ | refine below_drewN ?_ _ | refine Below.alloc ?_ (by first | omega | exact Below.size (by assumption) | (simp; done) | (simp; omega)) _ | refine Below.setCell ?_ (by first | omega | exact Below.size (by assumption) | (simp; done) | (simp; omega)) _ | refine Below.trans ?_ (Below.mono (by assumption) (by first | omega | exact Below.size (by assumption) | (simp; done) | (simp; omega)))))).mono ?_
  rintro e w1 ⟨rfl, hb1⟩
  have hB1 : Below w.heap.size w w1 := (by repeat (first | (with_reducible exact Below.refl _ _) | (with_reducible assumption) | (with_reducible refine Below.drew ?_) | (with_reducible refine below_drewN ?_ _) | ((with_reducible refine Below.setCell ?_ ?_ _); rotate_left; (next => first | omega | exact Nat.le_refl _ | (refine Below.size (B := ?_) ?_; rotate_left; assumption) | (simp; done) | (simp; omega))) | ((with_reducible refine Below.alloc ?_ ?_ _); rotate_left; (next => first | omega | exact Nat.le_refl _ | (refine Below.size (B := ?_) ?_; rotate_left; assumption) | (simp; done) | (simp; omega))) | ((with_reducible refine Below.trans (b := ?_) ?_ (Below.mono (B := ?_) ?_ ?_)); rotate_left 3; (next => (with_reducible assumption)); (next => first | omega | exact Nat.le_refl _ | (refine Below.size (B := ?_) ?_; rotate_left; assumption) | (simp; done) | (simp; omega))) | exact Below.refl _ _ | assumption | refine Below.drew ?_ | refine below_drewN ?_ _ | refine Below.alloc ?_ (by first | omega | exact Below.size (by assumption) | (simp; done) | (simp; omega)) _ | refine Below.setCell ?_ (by first | omega | exact Below.size (by assumption) | (simp; done) | (simp; omega)) _ | refine Below.trans ?_ (Below.mono (by assumption) (by first | omega | exact Below.size (by assumption) | (simp; done) | (simp; omega)))))
  have hs1 := hB1.size
  have c1_0 := fun o => Below.cell hb1 (p := ⟨w.heap.size, o, none⟩) (by first | omega | exact Below.size (by assumption) | (simp; done) | (simp; omega))
  have f1_0 := fun o => Below.frozen hb1 (p := ⟨w.heap.size, o, none⟩) (by first | omega | exact Below.size (by assumption) | (simp; done) | (simp; omega))
  have l1_0 : w.heap.size < w1.heap.size := Nat.lt_of_lt_of_le (by first | omega | exact Below.size (by assumption) | (simp; done) | (simp; omega)) (Below.size hb1)
  go_wp2_with fail
  refine bodyPost_ret (v := .tuple #[.slice none 0 0, .agg #[.slice none 0 0, (.int .i64 0), (.int .i64 0), (.int .i64 0)], (.int .i64 2)]) (by simp [results, Try.results58, go_sem, *]) rfl ?_
  exact ⟨rfl, (by repeat (first | (with_reducible exact Below.refl _ _) | (with_reducible assumption) | (with_reducible refine Below.drew ?_) | (with_reducible refine below_drewN ?_ _) | ((with_reducible refine Below.setCell ?_ ?_ _); rotate_left; (next => first | omega | exact Nat.le_refl _ | (refine Below.size (B := ?_) ?_; rotate_left; assumption) | (simp; done) | (simp; omega))) | ((with_reducible refine Below.alloc ?_ ?_ _); rotate_left; (next => first | omega | exact Nat.le_refl _ | (refine Below.size (B := ?_) ?_; rotate_left; assumption) | (simp; done) | (simp; omega))) | ((with_reducible refine Below.trans (b := ?_) ?_ (Below.mono (B := ?_) ?_ ?_)); rotate_left 3; (next => (with_reducible assumption)); (next => first | omega | exact Nat.le_refl _ | (refine Below.size (B := ?_) ?_; rotate_left; assumption) | (simp; done) | (simp; omega)))))⟩

set_option maxRecDepth 100000 in
set_option maxHeartbeats 4000000 in
theorem hplay_ok (A : Option Addr) (n c : Nat) (l : List (Int × Int)) (most mb : Int) (w : World) (hr : Rd w A (l.flatMap c2)) (hn : l.length = n) (hm : n * 16 ≤ 140737488355328) (h : right [] most mb 0 = true) :
    Calls Try.prog 58 #[(.int .i64 most), (.int .i64 mb), .slice A n c] w fun e w' => PlayR most mb (stt most mb l) w e w' := by
  have HR : Hid (∀ W, Below w.heap.size w W → Calls Try.prog 91 #[.agg #[.slice none 0 0, (.int .i64 most), (.int .i64 mb), (.int .i64 0)]] W fun e w' => e = .returned (.bool true) ∧ Below W.heap.size W w') := Lib.hid fun W hW => h ▸ hright_any none 0 0 [] most mb 0 W (.inl rfl) rfl (by omega)
  have Hr := Lib.hid hr
  have Hn := Lib.hid hn
  clear h hr hn
  go_enter Try.func58, Try.ntmps58
  go_wp2_with fail
  refine (HR.out _ (by repeat (first | (with_reducible exact Below.refl _ _) | (with_reducible assumption) | (with_reducible refine Below.drew ?_) | (with_reducible refine below_drewN ?_ _) | ((with_reducible refine Below.setCell ?_ ?_ _); rotate_left; (next => first | omega | exact Nat.le_refl _ | (refine Below.size (B := ?_) ?_; rotate_left; assumption) | (simp; done) | (simp; omega))) | ((with_reducible refine Below.alloc ?_ ?_ _); rotate_left; (next => first | omega | exact Nat.le_refl _ | (refine Below.size (B := ?_) ?_; rotate_left; assumption) | (simp; done) | (simp; omega))) | ((with_reducible refine Below.trans (b := ?_) ?_ (Below.mono (B := ?_) ?_ ?_)); rotate_left 3; (next => (with_reducible assumption)); (next => first | omega | exact Nat.le_refl _ | (refine Below.size (B := ?_) ?_; rotate_left; assumption) | (simp; done) | (simp; omega))) | exact Below.refl _ _ | assumption | refine Below.drew ?_ | refine below_drewN ?_ _ | refine Below.alloc ?_ (by first | omega | exact Below.size (by assumption) | (simp; done) | (simp; omega)) _ | refine Below.setCell ?_ (by first | omega | exact Below.size (by assumption) | (simp; done) | (simp; omega)) _ | refine Below.trans ?_ (Below.mono (by assumption) (by first | omega | exact Below.size (by assumption) | (simp; done) | (simp; omega)))))).mono ?_
  rintro e w1 ⟨rfl, hb1⟩
  have hB1 : Below w.heap.size w w1 := (by repeat (first | (with_reducible exact Below.refl _ _) | (with_reducible assumption) | (with_reducible refine Below.drew ?_) | (with_reducible refine below_drewN ?_ _) | ((with_reducible refine Below.setCell ?_ ?_ _); rotate_left; (next => first | omega | exact Nat.le_refl _ | (refine Below.size (B := ?_) ?_; rotate_left; assumption) | (simp; done) | (simp; omega))) | ((with_reducible refine Below.alloc ?_ ?_ _); rotate_left; (next => first | omega | exact Nat.le_refl _ | (refine Below.size (B := ?_) ?_; rotate_left; assumption) | (simp; done) | (simp; omega))) | ((with_reducible refine Below.trans (b := ?_) ?_ (Below.mono (B := ?_) ?_ ?_)); rotate_left 3; (next => (with_reducible assumption)); (next => first | omega | exact Nat.le_refl _ | (refine Below.size (B := ?_) ?_; rotate_left; assumption) | (simp; done) | (simp; omega))) | exact Below.refl _ _ | assumption | refine Below.drew ?_ | refine below_drewN ?_ _ | refine Below.alloc ?_ (by first | omega | exact Below.size (by assumption) | (simp; done) | (simp; omega)) _ | refine Below.setCell ?_ (by first | omega | exact Below.size (by assumption) | (simp; done) | (simp; omega)) _ | refine Below.trans ?_ (Below.mono (by assumption) (by first | omega | exact Below.size (by assumption) | (simp; done) | (simp; omega)))))
  have hs1 := hB1.size
  have c1_0 := fun o => Below.cell hb1 (p := ⟨w.heap.size, o, none⟩) (by first | omega | exact Below.size (by assumption) | (simp; done) | (simp; omega))
  have f1_0 := fun o => Below.frozen hb1 (p := ⟨w.heap.size, o, none⟩) (by first | omega | exact Below.size (by assumption) | (simp; done) | (simp; omega))
  have l1_0 : w.heap.size < w1.heap.size := Nat.lt_of_lt_of_le (by first | omega | exact Below.size (by assumption) | (simp; done) | (simp; omega)) (Below.size hb1)
  have k1 : w.heap.size + 1 < w1.heap.size := by have := hb1.size; simp at this; omega
  have hq0 : w1.heap[w.heap.size + 1]? = some (.cells #[.slice none 0 0, (.int .i64 most), (.int .i64 mb), (.int .i64 0)] 98 (0, 0)) := (hb1.block (w.heap.size + 1) (by simp)).trans (by simpa using top0 (w.alloc _) _)
  have d0 : ∀ o, w1.cell? ⟨w.heap.size, o, none⟩ = (#[.slice none 0 0, (.int .i64 0), (.int .i64 0), (.int .i64 0)] : Array Value)[o]? := fun o => by rw [c1_0]; simp [go_sem]
  have d1 : ∀ o, w1.frozen? ⟨w.heap.size, o, none⟩ = false := fun o => by rw [f1_0]; simp [go_sem]
  clear c1_0 f1_0 l1_0 hb1 HR
  go_wp2_with fail
  go_loopw [10, 25] (fun v i wr => ∃ k : Nat, k ≤ n ∧ i = .int .i64 k ∧ Below w.heap.size w wr ∧ w.heap.size + 1 < wr.heap.size ∧ (stt most mb (l.take k)).1.length ≤ 1000 ∧ (stt most mb (l.take k)).2.2.length ≤ k ∧ OwnI wr (w.heap.size + 2) 3 .i64 v (stt most mb (l.take k)).2.2 ∧
      (∃ A' c', wr.heap[w.heap.size + 1]? = some (.cells #[.slice A' (stt most mb (l.take k)).1.length c', (.int .i64 most), (.int .i64 mb), (.int .i64 ((stt most mb (l.take k)).2.1))] 98 (0, 0)) ∧ RdI .i64 wr A' (stt most mb (l.take k)).1 ∧ (∀ g o s, A' = some ⟨g, o, s⟩ → w.heap.size + 1 < g)) ∧
      (∀ o, wr.cell? ⟨w.heap.size, o, none⟩ = (#[.slice none 0 0, (.int .i64 0), (.int .i64 0), (.int .i64 0)] : Array Value)[o]?) ∧ (∀ o, wr.frozen? ⟨w.heap.size, o, none⟩ = false)) (fun _ i _ => n - (intOf i).toNat)
  case atStart => exact ⟨0, by omega, rfl, hB1, k1, by simp [stt], by simp [stt], OwnI.nil _ _ _ _, ⟨none, 0, hq0, .inl rfl, fun _ _ _ h => by cases h⟩, d0, d1⟩
  case round =>
    obtain ⟨k, hk, rfl, hbw, hsz, z1, z2, ho, ⟨A1, c1, hq, hr1, hA1⟩, e0, e1⟩ := hrel
    have HT : ∀ hl : k < l.length, Hid (stt most mb (l.take (k + 1)) = nx most mb (stt most mb (l.take k)) l[k]) := fun hl => Lib.hid (stt_take hl)
    have HL : ¬ k < n → Hid (stt most mb l = stt most mb (l.take k)) := fun hl => Lib.hid (by rw [List.take_of_length_le (by have := Hn.out; omega)])
    generalize stt most mb (l.take k) = s at z1 z2 ho hq hr1 HT HL
    obtain ⟨zs, dr, os⟩ := s
    simp only at z1 z2 ho hq hr1
    have Ho := Lib.hid ho
    have Hr1 := Lib.hid hr1
    have qc := cell_of hq
    clear ho hr1 hq0 d0 d1 k1
    by_cases hlt : k < n
    · have hl : k < l.length := by have := Hn.out; omega
      obtain ⟨⟨kd, v⟩, Hxy⟩ : ∃ z, Hid (l[k] = z) := ⟨_, Lib.hid rfl⟩
      obtain ⟨b, off, rfl, hbl, hc0, hc1⟩ := at2p Hr.out hbw hl Hxy.out
      have Ht := HT hl
      rw [Hxy.out] at Ht
      clear HT HL
      obtain ⟨zn, Hzn⟩ : ∃ z, Hid (zs.length = z) := ⟨_, Lib.hid rfl⟩
      rw [Hzn.out] at hq qc z1
      rcases step_stp A1 zn c1 zs most mb dr kd v wr Hr1.out Hzn.out (by omega) with ⟨hs, er, hne, HS, HH⟩ | ⟨r, xs, dr', hs, hxl, HS, HH⟩
      · replace HH := Lib.hid HH
        clear HS
        rw [nx_none hs] at Ht
        clear hs
        have hd : (er == 0) = false := by simpa using hne
        go_wp2_with fail
        refine (HH.out _ (by repeat (first | (with_reducible exact Below.refl _ _) | (with_reducible assumption) | (with_reducible refine Below.drew ?_) | (with_reducible refine below_drewN ?_ _) | ((with_reducible refine Below.setCell ?_ ?_ _); rotate_left; (next => first | omega | exact Nat.le_refl _ | (refine Below.size (B := ?_) ?_; rotate_left; assumption) | (simp; done) | (simp; omega))) | ((with_reducible refine Below.alloc ?_ ?_ _); rotate_left; (next => first | omega | exact Nat.le_refl _ | (refine Below.size (B := ?_) ?_; rotate_left; assumption) | (simp; done) | (simp; omega))) | ((with_reducible refine Below.trans (b := ?_) ?_ (Below.mono (B := ?_) ?_ ?_)); rotate_left 3; (next => (with_reducible assumption)); (next => first | omega | exact Nat.le_refl _ | (refine Below.size (B := ?_) ?_; rotate_left; assumption) | (simp; done) | (simp; omega)))))).mono ?_
        rintro e w2 ⟨rfl, hb2⟩
        have hB2 : Below wr.heap.size wr w2 := Below.trans (by repeat (first | (with_reducible exact Below.refl _ _) | (with_reducible assumption) | (with_reducible refine Below.drew ?_) | (with_reducible refine below_drewN ?_ _) | ((with_reducible refine Below.setCell ?_ ?_ _); rotate_left; (next => first | omega | exact Nat.le_refl _ | (refine Below.size (B := ?_) ?_; rotate_left; assumption) | (simp; done) | (simp; omega))) | ((with_reducible refine Below.alloc ?_ ?_ _); rotate_left; (next => first | omega | exact Nat.le_refl _ | (refine Below.size (B := ?_) ?_; rotate_left; assumption) | (simp; done) | (simp; omega))) | ((with_reducible refine Below.trans (b := ?_) ?_ (Below.mono (B := ?_) ?_ ?_)); rotate_left 3; (next => (with_reducible assumption)); (next => first | omega | exact Nat.le_refl _ | (refine Below.size (B := ?_) ?_; rotate_left; assumption) | (simp; done) | (simp; omega))))) (hb2.mono (by simp; try omega))
        have k2 : wr.heap.size ≤ w2.heap.size := hB2.size
        clear hb2
        go_wp2_with fail
        go_roundw
        case rel => exact ⟨k + 1, by omega, by go_num, hbw.trans (Below.mono (by repeat (first | (with_reducible exact Below.refl _ _) | (with_reducible assumption) | (with_reducible refine Below.drew ?_) | (with_reducible refine below_drewN ?_ _) | ((with_reducible refine Below.setCell ?_ ?_ _); rotate_left; (next => first | omega | exact Nat.le_refl _ | (refine Below.size (B := ?_) ?_; rotate_left; assumption) | (simp; done) | (simp; omega))) | ((with_reducible refine Below.alloc ?_ ?_ _); rotate_left; (next => first | omega | exact Nat.le_refl _ | (refine Below.size (B := ?_) ?_; rotate_left; assumption) | (simp; done) | (simp; omega))) | ((with_reducible refine Below.trans (b := ?_) ?_ (Below.mono (B := ?_) ?_ ?_)); rotate_left 3; (next => (with_reducible assumption)); (next => first | omega | exact Nat.le_refl _ | (refine Below.size (B := ?_) ?_; rotate_left; assumption) | (simp; done) | (simp; omega))))) hbw.size), by simp; omega, Ht.out ▸ (Hzn.out ▸ z1), Ht.out ▸ (by simpa using Nat.le_succ_of_le z2), Ht.out ▸ Ho.out.below (by repeat (first | (with_reducible exact Below.refl _ _) | (with_reducible assumption) | (with_reducible refine Below.drew ?_) | (with_reducible refine below_drewN ?_ _) | ((with_reducible refine Below.setCell ?_ ?_ _); rotate_left; (next => first | omega | exact Nat.le_refl _ | (refine Below.size (B := ?_) ?_; rotate_left; assumption) | (simp; done) | (simp; omega))) | ((with_reducible refine Below.alloc ?_ ?_ _); rotate_left; (next => first | omega | exact Nat.le_refl _ | (refine Below.size (B := ?_) ?_; rotate_left; assumption) | (simp; done) | (simp; omega))) | ((with_reducible refine Below.trans (b := ?_) ?_ (Below.mono (B := ?_) ?_ ?_)); rotate_left 3; (next => (with_reducible assumption)); (next => first | omega | exact Nat.le_refl _ | (refine Below.size (B := ?_) ?_; rotate_left; assumption) | (simp; done) | (simp; omega))))), ⟨A1, c1, Ht.out ▸ Hzn.out ▸ ((Below.block (w := wr) (B := wr.heap.size) (by repeat (first | (with_reducible exact Below.refl _ _) | (with_reducible assumption) | (with_reducible refine Below.drew ?_) | (with_reducible refine below_drewN ?_ _) | ((with_reducible refine Below.setCell ?_ ?_ _); rotate_left; (next => first | omega | exact Nat.le_refl _ | (refine Below.size (B := ?_) ?_; rotate_left; assumption) | (simp; done) | (simp; omega))) | ((with_reducible refine Below.alloc ?_ ?_ _); rotate_left; (next => first | omega | exact Nat.le_refl _ | (refine Below.size (B := ?_) ?_; rotate_left; assumption) | (simp; done) | (simp; omega))) | ((with_reducible refine Below.trans (b := ?_) ?_ (Below.mono (B := ?_) ?_ ?_)); rotate_left 3; (next => (with_reducible assumption)); (next => first | omega | exact Nat.le_refl _ | (refine Below.size (B := ?_) ?_; rotate_left; assumption) | (simp; done) | (simp; omega))))) _ hsz).trans hq), Ht.out ▸ Hr1.out.below (by repeat (first | (with_reducible exact Below.refl _ _) | (with_reducible assumption) | (with_reducible refine Below.drew ?_) | (with_reducible refine below_drewN ?_ _) | ((with_reducible refine Below.setCell ?_ ?_ _); rotate_left; (next => first | omega | exact Nat.le_refl _ | (refine Below.size (B := ?_) ?_; rotate_left; assumption) | (simp; done) | (simp; omega))) | ((with_reducible refine Below.alloc ?_ ?_ _); rotate_left; (next => first | omega | exact Nat.le_refl _ | (refine Below.size (B := ?_) ?_; rotate_left; assumption) | (simp; done) | (simp; omega))) | ((with_reducible refine Below.trans (b := ?_) ?_ (Below.mono (B := ?_) ?_ ?_)); rotate_left 3; (next => (with_reducible assumption)); (next => first | omega | exact Nat.le_refl _ | (refine Below.size (B := ?_) ?_; rotate_left; assumption) | (simp; done) | (simp; omega))))), hA1⟩,
          fun o => (Below.cell (w := wr) (B := wr.heap.size) (p := ⟨w.heap.size, o, none⟩) (by repeat (first | (with_reducible exact Below.refl _ _) | (with_reducible assumption) | (with_reducible refine Below.drew ?_) | (with_reducible refine below_drewN ?_ _) | ((with_reducible refine Below.setCell ?_ ?_ _); rotate_left; (next => first | omega | exact Nat.le_refl _ | (refine Below.size (B := ?_) ?_; rotate_left; assumption) | (simp; done) | (simp; omega))) | ((with_reducible refine Below.alloc ?_ ?_ _); rotate_left; (next => first | omega | exact Nat.le_refl _ | (refine Below.size (B := ?_) ?_; rotate_left; assumption) | (simp; done) | (simp; omega))) | ((with_reducible refine Below.trans (b := ?_) ?_ (Below.mono (B := ?_) ?_ ?_)); rotate_left 3; (next => (with_reducible assumption)); (next => first | omega | exact Nat.le_refl _ | (refine Below.size (B := ?_) ?_; rotate_left; assumption) | (simp; done) | (simp; omega))))) (by simp; omega)).trans (e0 o), fun o => (Below.frozen (w := wr) (B := wr.heap.size) (p := ⟨w.heap.size, o, none⟩) (by repeat (first | (with_reducible exact Below.refl _ _) | (with_reducible assumption) | (with_reducible refine Below.drew ?_) | (with_reducible refine below_drewN ?_ _) | ((with_reducible refine Below.setCell ?_ ?_ _); rotate_left; (next => first | omega | exact Nat.le_refl _ | (refine Below.size (B := ?_) ?_; rotate_left; assumption) | (simp; done) | (simp; omega))) | ((with_reducible refine Below.alloc ?_ ?_ _); rotate_left; (next => first | omega | exact Nat.le_refl _ | (refine Below.size (B := ?_) ?_; rotate_left; assumption) | (simp; done) | (simp; omega))) | ((with_reducible refine Below.trans (b := ?_) ?_ (Below.mono (B := ?_) ?_ ?_)); rotate_left 3; (next => (with_reducible assumption)); (next => first | omega | exact Nat.le_refl _ | (refine Below.size (B := ?_) ?_; rotate_left; assumption) | (simp; done) | (simp; omega))))) (by simp; omega)).trans (e1 o)⟩
        case measure => first | (simp [intOf]; done) | (simp [intOf]; omega)
      · replace HH := Lib.hid HH
        clear HS
        go_wp2_with fail
        refine (HH.out _ (by repeat (first | (with_reducible exact Below.refl _ _) | (with_reducible assumption) | (with_reducible refine Below.drew ?_) | (with_reducible refine below_drewN ?_ _) | ((with_reducible refine Below.setCell ?_ ?_ _); rotate_left; (next => first | omega | exact Nat.le_refl _ | (refine Below.size (B := ?_) ?_; rotate_left; assumption) | (simp; done) | (simp; omega))) | ((with_reducible refine Below.alloc ?_ ?_ _); rotate_left; (next => first | omega | exact Nat.le_refl _ | (refine Below.size (B := ?_) ?_; rotate_left; assumption) | (simp; done) | (simp; omega))) | ((with_reducible refine Below.trans (b := ?_) ?_ (Below.mono (B := ?_) ?_ ?_)); rotate_left 3; (next => (with_reducible assumption)); (next => first | omega | exact Nat.le_refl _ | (refine Below.size (B := ?_) ?_; rotate_left; assumption) | (simp; done) | (simp; omega)))))).mono ?_
        rintro e w2 ⟨A2, c2, rfl, hlc2, ⟨hr2, hA2⟩, hb2⟩
        have hB2 : Below wr.heap.size wr w2 := Below.trans (by repeat (first | (with_reducible exact Below.refl _ _) | (with_reducible assumption) | (with_reducible refine Below.drew ?_) | (with_reducible refine below_drewN ?_ _) | ((with_reducible refine Below.setCell ?_ ?_ _); rotate_left; (next => first | omega | exact Nat.le_refl _ | (refine Below.size (B := ?_) ?_; rotate_left; assumption) | (simp; done) | (simp; omega))) | ((with_reducible refine Below.alloc ?_ ?_ _); rotate_left; (next => first | omega | exact Nat.le_refl _ | (refine Below.size (B := ?_) ?_; rotate_left; assumption) | (simp; done) | (simp; omega))) | ((with_reducible refine Below.trans (b := ?_) ?_ (Below.mono (B := ?_) ?_ ?_)); rotate_left 3; (next => (with_reducible assumption)); (next => first | omega | exact Nat.le_refl _ | (refine Below.size (B := ?_) ?_; rotate_left; assumption) | (simp; done) | (simp; omega))))) (hb2.mono (by simp; try omega))
        have k2 : wr.heap.size ≤ w2.heap.size := hB2.size
        replace hA2 : ∀ g o s, A2 = some ⟨g, o, s⟩ → wr.heap.size < g := fun g o s h => by have := hA2 g o s h; simp at this; omega
        have c2_0 := fun o => Below.cell hb2 (p := ⟨wr.heap.size, o, none⟩) (by first | omega | exact Below.size (by assumption) | (simp; done) | (simp; omega))
        have l2_0 : wr.heap.size < w2.heap.size := Nat.lt_of_lt_of_le (by first | omega | exact Below.size (by assumption) | (simp; done) | (simp; omega)) (Below.size hb2)
        have hq2 := (hB2.block _ hsz).trans hq
        have Hr2 := Lib.hid hr2
        clear hb2 hr2 hlc2 hq qc
        go_upto_region 11 with ((with_reducible refine wpList_storeA (y := .tmp 38) ?_); refine ⟨_, _, _, _, rfl, rfl, (Go.heap_alloc_old _ _ (by omega)).trans hq2, infoQ, rfl, by simp [Value.oneCell'], ?_⟩; intro w3 d3 e3 g3 s3 u3)
        have k3 : w3.heap.size = w2.heap.size + 1 := by rw [s3]; simp
        have c3_0 := fun o => Upd.other u3 (b' := wr.heap.size) (by first | omega | simp) (by first | omega | exact Below.size (by assumption) | (simp; done) | (simp; omega)) o
        have l3_0 : wr.heap.size < w3.heap.size := Nat.lt_of_lt_of_le (by first | omega | exact Below.size (by assumption) | (simp; done) | (simp; omega)) (Upd.size u3)
        have hw3 : ∀ b, b < wr.heap.size → b ≠ w.heap.size + 1 → w3.heap[b]? = wr.heap[b]? := fun b hb hne => (u3.block b (by simp; omega) hne).trans ((Go.heap_alloc_old _ _ (by omega)).trans (hB2.block b hb))
        have hbw3 : Below w.heap.size w w3 := (hbw.trans ((hB2.alloc k2 _).mono hbw.size)).trans (u3.below (by omega) (by simp; omega))
        have Hr3 : Hid (RdI .i64 w3 A2 xs) := Lib.hid (RdI.otherA (RdI.below Hr2.out ((Below.refl _ _).alloc (Nat.le_refl _) _)) u3 (fun g o s h => by have := hA2 g o s h; omega))
        have Ho3 : Hid (OwnI w3 (w.heap.size + 2) 3 .i64 u10 os) := Lib.hid (OwnI.upd ((Ho.out.below hB2).alloc _) u3 (fun g hg => by have := (World.ownsRow.lt Ho.out g hg).1; omega))
        have e03 : ∀ o, w3.cell? ⟨w.heap.size, o, none⟩ = (#[.slice none 0 0, (.int .i64 0), (.int .i64 0), (.int .i64 0)] : Array Value)[o]? := fun o => (World.cell?_of_block (a := ⟨w.heap.size, o, none⟩) (hw3 w.heap.size (by omega) (by omega))).trans (e0 o)
        have e13 : ∀ o, w3.frozen? ⟨w.heap.size, o, none⟩ = false := fun o => (World.frozen?_of_block (a := ⟨w.heap.size, o, none⟩) (hw3 w.heap.size (by omega) (by omega))).trans (e1 o)
        clear u3 s3 d3 e3 e0 e1 hw3 hB2 hq2
        rcases (by by_cases h : kd = 2; exact .inl ⟨h, by simp [h]⟩; exact .inr ⟨h, by simp [h]⟩ : (kd = 2 ∧ (kd == 2) = true) ∨ (kd ≠ 2 ∧ (kd == 2) = false)) with ⟨kk, kb⟩ | ⟨kk, kb⟩
        · rw [nx_two hs kk] at Ht
          clear kk hs
          go_wp2_with (at_builtin; refine wpList_app1' rfl _ _ 23 rfl 3 .i64 8 Try.underlying23 infoI8 (w.heap.size + 2) os r u10 rfl _ rfl (by decide) ?own ?cell ?len ?base ?_)
          case own => exact Ho3.out.alloc _
          case cell => (rw [← k3]; simp [go_sem])
          case len => omega
          case base => (simp; omega)
          intro v' w4 hown hgr
          have hlt4 := fun g hg => World.ownsRow.lt Ho.out g hg
          have hbw4 : Below w.heap.size w w4 := Below.grown (hbw3.alloc hbw3.size _) hgr (by have := hbw3.size; simp; omega) (fun g hg => by have := (hlt4 g hg).1; omega)
          have g0 := fun b (hb : b < w3.heap.size) (hne : b < w.heap.size + 2) => (hgr.block b (by simp; omega) (fun e => by have := (hlt4 _ e.symm).1; omega)).trans (Go.heap_alloc_old _ _ hb)
          have hsz4 : w.heap.size + 1 < w4.heap.size := by have := hgr.size; simp at this; omega
          have Hr4 : Hid (RdI .i64 w4 A2 xs) := Lib.hid (RdI.grownA (RdI.below Hr3.out ((Below.refl _ _).alloc (Nat.le_refl _) _)) hgr (fun g o s h e => by have := hA2 g o s h; have := (hlt4 g e.symm).2; omega))
          have Hown := Lib.hid hown
          clear hown hgr
          go_wp2_with fail
          go_roundw
          case rel => exact ⟨k + 1, by omega, by go_num, hbw4, hsz4, by rw [Ht.out]; exact hxl, by rw [Ht.out]; simp; omega, by rw [Ht.out]; exact Hown.out, ⟨A2, c2, by rw [Ht.out]; exact (g0 _ (by omega) (by omega)).trans g3, by rw [Ht.out]; exact Hr4.out, fun g o s h => by have := hA2 g o s h; omega⟩,
            fun o => (World.cell?_of_block (a := ⟨w.heap.size, o, none⟩) (g0 w.heap.size (by omega) (by omega))).trans (e03 o), fun o => (World.frozen?_of_block (a := ⟨w.heap.size, o, none⟩) (g0 w.heap.size (by omega) (by omega))).trans (e13 o)⟩
          case measure => first | (simp [intOf]; done) | (simp [intOf]; omega)
        · rw [nx_one hs kk] at Ht
          clear kk hs
          go_wp2_with fail
          go_roundw
          case rel => exact ⟨k + 1, by omega, by go_num, hbw3, by omega, by rw [Ht.out]; exact hxl, by rw [Ht.out]; simp; omega, by rw [Ht.out]; exact Ho3.out, ⟨A2, c2, by rw [Ht.out]; exact g3, by rw [Ht.out]; exact Hr3.out, fun g o s h => by have := hA2 g o s h; omega⟩, e03, e13⟩
          case measure => first | (simp [intOf]; done) | (simp [intOf]; omega)
    · have Hf := HL hlt
      clear HT HL
      obtain ⟨A2, c2, rfl, hlc, hr2, hA2⟩ := Ho.out.form
      have Hr2 := Lib.hid hr2
      obtain ⟨zn, Hzn⟩ : ∃ z, Hid (zs.length = z) := ⟨_, Lib.hid rfl⟩
      obtain ⟨on, Hon⟩ : ∃ z, Hid (os.length = z) := ⟨_, Lib.hid rfl⟩
      rw [Hzn.out] at hq qc z1
      rw [Hon.out] at z2 hlc ⊢
      clear hr2 hq
      go_wp2_with fail
      go_region
      go_wp2_with fail
      refine bodyPost_ret (v := .tuple #[.slice A2 on c2, .agg #[.slice A1 zn c1, (.int .i64 most), (.int .i64 mb), (.int .i64 dr)], (.int .i64 0)]) (by simp [results, Try.results58, go_sem, *]) rfl ?_
      refine ⟨A2, c2, A1, c1, by rw [Hf.out, Hzn.out, Hon.out], by rw [Hf.out]; exact RdI.otherA Hr2.out (((((Upd.refl wr w.heap.size 0 4).setCell (by omega) (by omega) _).setCell (by omega) (by omega) _).setCell (by omega) (by omega) _).setCell (by omega) (by omega) _).drew (fun g o s h => by have := hA2 g o s h; omega), by rw [Hf.out]; exact RdI.otherA Hr1.out (((((Upd.refl wr w.heap.size 0 4).setCell (by omega) (by omega) _).setCell (by omega) (by omega) _).setCell (by omega) (by omega) _).setCell (by omega) (by omega) _).drew (fun g o s h => by have := hA1 g o s h; omega), by rw [Hf.out, Hzn.out]; exact z1, by rw [Hf.out, Hon.out]; omega, (by repeat (first | (with_reducible exact Below.refl _ _) | (with_reducible assumption) | (with_reducible refine Below.drew ?_) | (with_reducible refine below_drewN ?_ _) | ((with_reducible refine Below.setCell ?_ ?_ _); rotate_left; (next => first | omega | exact Nat.le_refl _ | (refine Below.size (B := ?_) ?_; rotate_left; assumption) | (simp; done) | (simp; omega))) | ((with_reducible refine Below.alloc ?_ ?_ _); rotate_left; (next => first | omega | exact Nat.le_refl _ | (refine Below.size (B := ?_) ?_; rotate_left; assumption) | (simp; done) | (simp; omega))) | ((with_reducible refine Below.trans (b := ?_) ?_ (Below.mono (B := ?_) ?_ ?_)); rotate_left 3; (next => (with_reducible assumption)); (next => first | omega | exact Nat.le_refl _ | (refine Below.size (B := ?_) ?_; rotate_left; assumption) | (simp; done) | (simp; omega)))))⟩
end Go.Proofs.Ytlmnlffbbbcodaa.Ring
