/- Who paces packets, plain: one thing that happens, and one behind the other. -/
import Derived.Test.YtoibebmhfcjpfaaGreatDoorZfRingM
import Derived.Test.YtoibebmhfcjpfaaGreatDoorZfBucketK
import Derived.Test.YtoibebmhfcjpfaaGreatDoorZfRingH
import Derived.Test.YtoibebmhfcjpfaaGreatDoorZfBucketG
import Derived.Test.YtoibebmhfcjpfaaGreatDoorZfEU
namespace Go.Proofs.YtoibebmhfcjpfaaGreatDoor.Pace
open Go.RowKit Go.Proofs.YtoibebmhfcjpfaaGreatDoor.Ring Go.Proofs.YtoibebmhfcjpfaaGreatDoor.Bucket

structure Pc where
  zs : List Int
  drops : Int
  b : Bkt
  sent : Int
/-- How many packets go out at once. -/
def cnt (den : Int) : List Int → Int → Int → Nat
  | [], _, _ => 0
  | z :: l, room, lv => if z ≤ room ∧ z * den ≤ lv then cnt den l (room - z) (lv - z * den) + 1 else 0
def lvl (b : Bkt) (x : Int) : Bkt := ⟨b.num, b.den, b.burst, x, b.at0⟩
def pop (s : Pc) (j : Nat) : Pc := ⟨s.zs.drop j, s.drops, lvl s.b (s.b.level - tot (s.zs.take j) * s.b.den), s.sent + tot (s.zs.take j)⟩
def tick (b : Bkt) (t : Int) : Bkt := ⟨b.num, b.den, b.burst, b.lev t, t⟩
abbrev Ans := Int × List Int
def does (s : Pc) (k v : Int) : Pc × Ans :=
  if k = 1 then
    if v < 1 ∨ 1500 < v then (s, 2, [])
    else if (s.zs.length : Int) < 100 ∧ tot s.zs + v ≤ 60000 then (⟨s.zs ++ [v], s.drops, s.b, s.sent⟩, 0, [])
    else (⟨s.zs, s.drops + 1, s.b, s.sent⟩, 4, [])
  else if k = 2 then
    if v < 0 ∨ 1099511627776 < v then (s, 2, [])
    else (⟨s.zs, s.drops, tick s.b (min (s.b.at0 + v) 1099511627776), s.sent⟩, 0, [])
  else if k = 3 then
    if v < 0 ∨ 1073741824 < v then (s, 2, [])
    else (pop s (cnt s.b.den s.zs v s.b.level), 0, s.zs.take (cnt s.b.den s.zs v s.b.level))
  else (s, 5, [])
/-- What is true all the time: m things have happened. -/
structure Gd (m : Nat) (s : Pc) : Prop where
  q : right s.zs 100 60000 0 = true
  b : s.b.right = true
  d0 : 0 ≤ s.drops
  d1 : s.drops ≤ m
  s0 : 0 ≤ s.sent
  s1 : s.sent ≤ 60000 * m

theorem right_drops {zs : List Int} {most mb d d' : Int} (h : right zs most mb d = true) (h0 : 0 ≤ d') (h1 : d' ≤ 1099511627776) : right zs most mb d' = true := by
  simp only [right, hd, Bool.and_eq_true, decide_eq_true_eq] at h ⊢
  obtain ⟨⟨h2, h3⟩, h4⟩ := h
  exact ⟨⟨by omega, h3⟩, h4⟩
theorem tot_drop (l : List Int) (j : Nat) : tot (l.take j) + tot (l.drop j) = tot l := by rw [← tot_append, List.take_append_drop]
theorem Gd.parts {m : Nat} {s : Pc} (h : Gd m s) : s.zs.length ≤ 100 ∧ s.zs.all okp = true ∧ 0 ≤ tot s.zs ∧ tot s.zs ≤ 60000 := by
  have := h.q
  simp only [right, hd, Bool.and_eq_true, decide_eq_true_eq] at this
  exact ⟨by omega, this.1.2, (tot_bd this.1.2).1, by omega⟩
theorem right_drop {zs : List Int} (h : right zs 100 60000 0 = true) (j : Nat) : right (zs.drop j) 100 60000 0 = true := by
  simp only [right, hd, Bool.and_eq_true, decide_eq_true_eq] at h ⊢
  have h1 := tot_drop zs j
  have h2 : (zs.take j).all okp = true := List.all_eq_true.2 fun x hx => List.all_eq_true.1 h.1.2 x (List.mem_of_mem_take hx)
  have h3 := (tot_bd h2).1
  refine ⟨⟨by rw [List.length_drop]; omega, List.all_eq_true.2 fun x hx => List.all_eq_true.1 h.1.2 x (List.mem_of_mem_drop hx)⟩, by omega⟩
theorem bparts {b : Bkt} (h : b.right = true) : (0 ≤ b.num ∧ b.num ≤ 1048576) ∧ (1 ≤ b.den ∧ b.den ≤ 1048576) ∧ (0 ≤ b.burst ∧ b.burst ≤ 1048576) ∧ (0 ≤ b.level ∧ b.level ≤ b.burst * b.den ∧ b.burst * b.den ≤ 1099511627776) ∧ 0 ≤ b.at0 ∧ b.at0 ≤ 1099511627776 := by
  have h1 := rng_iff.1 (bright_rng h)
  have h2 := prod_bd h1.2.2.1 h1.2.2.2 h1.2.1.1 h1.2.1.2
  simp only [Bkt.right, bright, Bool.and_eq_true, decide_eq_true_eq] at h
  omega
theorem lvl_right {b : Bkt} (h : b.right = true) {x : Int} (h0 : 0 ≤ x) (h1 : x ≤ b.burst * b.den) : (lvl b x).right = true := by
  change bright b.num b.den b.burst x b.at0 = true
  simp only [Bkt.right, bright, Bool.and_eq_true, decide_eq_true_eq] at h ⊢
  exact ⟨⟨⟨⟨h.1.1.1.1, h0⟩, h1⟩, h.1.2⟩, h.2⟩
theorem tick_right {b : Bkt} (h : b.right = true) {t : Int} (h0 : b.at0 ≤ t) (h1 : t ≤ 1099511627776) : (tick b t).right = true := by
  have h2 := lev_bd (now := t) h h0
  change bright b.num b.den b.burst (lev b.num b.den b.burst b.level b.at0 t) t = true
  simp only [Bkt.right, bright, Bool.and_eq_true, decide_eq_true_eq] at h ⊢
  exact ⟨⟨⟨⟨h.1.1.1.1, h2.1⟩, h2.2.1⟩, by omega⟩, h1⟩
theorem lev_same {b : Bkt} (h : b.right = true) : b.lev b.at0 = b.level := by
  have := bparts h
  simp only [Bkt.lev, lev, Int.sub_self, Int.mul_zero]
  split <;> omega

/-- One by one: so many have gone out. -/
structure Go (s : Pc) (v : Int) (j : Nat) : Prop where
  le : j ≤ s.zs.length
  cnt : cnt s.b.den s.zs v s.b.level = j + cnt s.b.den (s.zs.drop j) (v - tot (s.zs.take j)) (s.b.level - tot (s.zs.take j) * s.b.den)
  lo : 0 ≤ s.b.level - tot (s.zs.take j) * s.b.den
theorem Go.zero {m : Nat} {s : Pc} (h : Gd m s) (v : Int) : Go s v 0 := ⟨Nat.zero_le _, by simp [tot], by have := bparts h.b; simp [tot]; omega⟩
theorem Go.next {s : Pc} {v : Int} {j : Nat} (h : Go s v j) (hj : j < s.zs.length) (h1 : s.zs[j] ≤ v - tot (s.zs.take j)) (h2 : s.zs[j] * s.b.den ≤ s.b.level - tot (s.zs.take j) * s.b.den) : Go s v (j + 1) := by
  have e := h.cnt
  rw [List.drop_eq_getElem_cons hj, Pace.cnt, if_pos ⟨h1, h2⟩] at e
  refine ⟨hj, ?_, ?_⟩
  · rw [e, tot_take hj, Int.add_mul, Int.sub_sub, Int.sub_sub]; omega
  · rw [tot_take hj, Int.add_mul]; omega
theorem Go.stop {s : Pc} {v : Int} {j : Nat} (h : Go s v j) (hj : (hj : j < s.zs.length) → v - tot (s.zs.take j) < s.zs[j] ∨ s.b.level - tot (s.zs.take j) * s.b.den < s.zs[j] * s.b.den) : j = Pace.cnt s.b.den s.zs v s.b.level := by
  have e := h.cnt
  by_cases hl : j < s.zs.length
  · rw [List.drop_eq_getElem_cons hl, Pace.cnt, if_neg (by have := hj hl; omega)] at e
    omega
  · rw [List.drop_eq_nil_of_le (by omega), Pace.cnt] at e
    omega
theorem Go.upper {m : Nat} {s : Pc} {v : Int} {j : Nat} (h : Go s v j) (hg : Gd m s) : 0 ≤ tot (s.zs.take j) ∧ tot (s.zs.take j) ≤ 60000 ∧ 0 ≤ tot (s.zs.take j) * s.b.den ∧ s.b.level - tot (s.zs.take j) * s.b.den ≤ s.b.burst * s.b.den := by
  have h1 := hg.parts
  have h2 := bparts hg.b
  have h3 : (s.zs.take j).all okp = true := List.all_eq_true.2 fun x hx => List.all_eq_true.1 h1.2.1 x (List.mem_of_mem_take hx)
  have h4 := (tot_bd h3).1
  have h5 : (s.zs.drop j).all okp = true := List.all_eq_true.2 fun x hx => List.all_eq_true.1 h1.2.1 x (List.mem_of_mem_drop hx)
  have h6 := (tot_bd h5).1
  have h7 := tot_drop s.zs j
  have h8 : 0 ≤ tot (s.zs.take j) * s.b.den := Int.mul_nonneg h4 (by omega)
  omega
theorem Go.good {m : Nat} {s : Pc} {v : Int} {j : Nat} (h : Go s v j) (hg : Gd m s) : (lvl s.b (s.b.level - tot (s.zs.take j) * s.b.den)).right = true := lvl_right hg.b h.lo (h.upper hg).2.2.2
theorem cnt_go {m : Nat} {s : Pc} (hg : Gd m s) (v : Int) : Go s v (Pace.cnt s.b.den s.zs v s.b.level) := by
  have key : ∀ d j, s.zs.length - j = d → Go s v j → Go s v (Pace.cnt s.b.den s.zs v s.b.level) := by
    intro d
    induction d with
    | zero => intro j hj h; exact (h.stop (fun hl => by omega)) ▸ h
    | succ d ih =>
      intro j hj h
      by_cases hc : s.zs[j]'(by omega) ≤ v - tot (s.zs.take j) ∧ s.zs[j]'(by omega) * s.b.den ≤ s.b.level - tot (s.zs.take j) * s.b.den
      · exact ih (j + 1) (by omega) (h.next (by omega) hc.1 hc.2)
      · exact (h.stop (fun _ => by omega)) ▸ h
  exact key _ 0 rfl (Go.zero hg v)
theorem Gd.mono {m n : Nat} {s : Pc} (h : Gd m s) (hmn : m ≤ n) : Gd n s := ⟨h.q, h.b, h.d0, by have := h.d1; omega, h.s0, by have := h.s1; omega⟩
theorem does_good {m : Nat} {s : Pc} (h : Gd m s) (k v : Int) : Gd (m + 1) (does s k v).1 := by
  have h0 := h.parts
  have hm := h.mono (Nat.le_succ m)
  unfold does
  split
  · split
    · exact hm
    · split
      · rename_i h1 h2
        refine ⟨?_, hm.b, hm.d0, hm.d1, hm.s0, hm.s1⟩
        have := h.q
        simp only [right, hd, Bool.and_eq_true, decide_eq_true_eq, List.length_append, List.length_singleton, List.all_append, tot_append] at this ⊢
        have e : tot [v] = v := by simp [tot]
        have e2 : [v].all okp = true := by simp [okp]; omega
        refine ⟨⟨by omega, this.1.2, e2⟩, by rw [e]; omega⟩
      · refine ⟨hm.q, hm.b, ?_, ?_, hm.s0, hm.s1⟩
        · have := h.d0; show 0 ≤ s.drops + 1; omega
        · have := h.d1; show s.drops + 1 ≤ ((m + 1 : Nat) : Int); omega
  · split
    · split
      · exact hm
      · rename_i h1 h2 h3
        have := bparts h.b
        exact ⟨hm.q, tick_right h.b (by omega) (by omega), hm.d0, hm.d1, hm.s0, hm.s1⟩
    · split
      · split
        · exact hm
        · have hg := cnt_go h v
          have hu := hg.upper h
          refine ⟨right_drop h.q _, hg.good h, hm.d0, hm.d1, ?_, ?_⟩
          · have := h.s0; show 0 ≤ s.sent + _; omega
          · have := h.s1; show s.sent + _ ≤ 60000 * ((m + 1 : Nat) : Int); omega
      · exact hm

theorem pop_zero (s : Pc) : pop s 0 = s := by simp [pop, tot, lvl]
theorem pop_head {m : Nat} {s u : Pc} {j : Nat} (hg : Gd m s) (hu : u = pop s j) (h0 : 0 < u.zs.length) : ∃ hj : j < s.zs.length, s.zs[j] = u.zs.headD 0 ∧ 1 ≤ u.zs.headD 0 ∧ u.zs.headD 0 ≤ 1500 := by
  subst hu
  have h1 : (pop s j).zs = s.zs.drop j := rfl
  rw [h1] at h0 ⊢
  rw [List.length_drop] at h0
  have hj : j < s.zs.length := by omega
  have h2 : (s.zs.drop j).headD 0 = s.zs[j] := by rw [List.drop_eq_getElem_cons hj]; rfl
  have h3 := okp_iff.1 (List.all_eq_true.1 hg.parts.2.1 _ (List.getElem_mem hj))
  rw [h2]
  exact ⟨hj, rfl, h3⟩
theorem pop_succ {s u : Pc} {j : Nat} (hu : u = pop s j) (hj : j < s.zs.length) (hz : s.zs[j] = u.zs.headD 0) : (⟨u.zs.tail, u.drops, lvl u.b (u.b.level - u.zs.headD 0 * u.b.den), u.sent + u.zs.headD 0⟩ : Pc) = pop s (j + 1) := by
  rw [← hz]
  subst hu
  simp only [pop, lvl, tot_take hj, List.tail_drop, Int.add_mul, Pc.mk.injEq, Bkt.mk.injEq, true_and, and_true]
  omega
/-- What is true on the way. -/
structure Way (m : Nat) (s : Pc) (v ro : Int) (j : Nat) (u : Pc) : Prop where
  u : u = pop s j
  go : Go s v j
  ro : ro = v - tot (s.zs.take j)
theorem Way.zero {m : Nat} {s : Pc} (h : Gd m s) (v : Int) : Way m s v v 0 s := ⟨(pop_zero s).symm, Go.zero h v, by simp [tot]⟩
theorem Way.next {m : Nat} {s u : Pc} {v ro : Int} {j : Nat} (h : Way m s v ro j u) (hg : Gd m s) (h0 : 0 < u.zs.length) (h1 : u.zs.headD 0 ≤ ro) (h2 : u.zs.headD 0 * u.b.den ≤ u.b.level) : Way m s v (ro - u.zs.headD 0) (j + 1) ⟨u.zs.tail, u.drops, lvl u.b (u.b.level - u.zs.headD 0 * u.b.den), u.sent + u.zs.headD 0⟩ := by
  obtain ⟨hj, hz, _⟩ := pop_head hg h.u h0
  refine ⟨pop_succ h.u hj hz, h.go.next hj (by rw [hz, ← h.ro]; exact h1) (by rw [hz]; have e := h.u; subst e; exact h2), ?_⟩
  rw [h.ro, tot_take hj, hz]; omega
theorem Way.stop {m : Nat} {s u : Pc} {v ro : Int} {j : Nat} (h : Way m s v ro j u) (hg : Gd m s) (h1 : 0 < u.zs.length → ro < u.zs.headD 0 ∨ u.b.level < u.zs.headD 0 * u.b.den) : j = Pace.cnt s.b.den s.zs v s.b.level := by
  refine h.go.stop (fun hj => ?_)
  have h0 : 0 < u.zs.length := by rw [h.u]; simp only [pop, List.length_drop]; omega
  obtain ⟨_, hz, _⟩ := pop_head hg h.u h0
  rw [hz, ← h.ro]
  have := h1 h0
  have e := h.u; subst e
  exact this
theorem Way.facts {m : Nat} {s u : Pc} {v ro : Int} {j : Nat} (h : Way m s v ro j u) (hg : Gd m s) : u.b.right = true ∧ right u.zs 100 60000 0 = true ∧ u.drops = s.drops ∧ u.zs.length = s.zs.length - j ∧ j ≤ s.zs.length ∧ u.zs.length ≤ 100 ∧ u.sent = s.sent + tot (s.zs.take j) ∧ 0 ≤ tot (s.zs.take j) ∧ tot (s.zs.take j) ≤ 60000 ∧ ro = v - tot (s.zs.take j) ∧ u.b.den = s.b.den := by
  have h1 := h.go.good hg
  have h2 := h.go.upper hg
  have h3 := hg.parts
  refine ⟨by rw [h.u]; exact h1, by rw [h.u]; exact right_drop hg.q j, by rw [h.u]; rfl, by rw [h.u]; simp [pop], h.go.le, by rw [h.u]; simp [pop]; omega, by rw [h.u]; rfl, h2.1, h2.2.1, h.ro, by rw [h.u]; rfl⟩
theorem does_1r {s : Pc} {v : Int} (h : v < 1 ∨ 1500 < v) : does s 1 v = (s, 2, []) := by simp [does, h]
theorem does_1i {s : Pc} {v : Int} (h0 : 1 ≤ v) (h1 : v ≤ 1500) (h : (s.zs.length : Int) < 100 ∧ tot s.zs + v ≤ 60000) : does s 1 v = (⟨s.zs ++ [v], s.drops, s.b, s.sent⟩, 0, []) := by
  unfold does; rw [if_pos rfl, if_neg (by omega), if_pos h]
theorem does_1d {s : Pc} {v : Int} (h0 : 1 ≤ v) (h1 : v ≤ 1500) (h : ¬ ((s.zs.length : Int) < 100 ∧ tot s.zs + v ≤ 60000)) : does s 1 v = (⟨s.zs, s.drops + 1, s.b, s.sent⟩, 4, []) := by
  unfold does; rw [if_pos rfl, if_neg (by omega), if_neg h]
theorem does_2r {s : Pc} {v : Int} (h : v < 0 ∨ 1099511627776 < v) : does s 2 v = (s, 2, []) := by
  unfold does; rw [if_neg (by decide), if_pos rfl, if_pos h]
theorem does_2t {s : Pc} {v t : Int} (h0 : 0 ≤ v) (h1 : v ≤ 1099511627776) (ht : min (s.b.at0 + v) 1099511627776 = t) : does s 2 v = (⟨s.zs, s.drops, tick s.b t, s.sent⟩, 0, []) := by
  unfold does; rw [if_neg (by decide), if_pos rfl, if_neg (by omega), ht]
theorem does_3r {s : Pc} {v : Int} (h : v < 0 ∨ 1073741824 < v) : does s 3 v = (s, 2, []) := by
  unfold does; rw [if_neg (by decide), if_neg (by decide), if_pos rfl, if_pos h]
theorem does_3p {s : Pc} {v : Int} {j : Nat} (h0 : 0 ≤ v) (h1 : v ≤ 1073741824) (hj : j = Pace.cnt s.b.den s.zs v s.b.level) : does s 3 v = (pop s j, 0, s.zs.take j) := by
  unfold does; rw [if_neg (by decide), if_neg (by decide), if_pos rfl, if_neg (by omega), hj]
theorem does_k {s : Pc} {k v : Int} (h : k < 1 ∨ 3 < k) : does s k v = (s, 5, []) := by
  unfold does; rw [if_neg (by omega), if_neg (by omega), if_neg (by omega)]

/-- One behind the other. -/
def run (b : Bkt) (l : List (Int × Int)) : Pc × List Ans := l.foldl (fun s o => ((does s.1 o.1 o.2).1, s.2 ++ [(does s.1 o.1 o.2).2])) (⟨[], 0, b, 0⟩, [])
theorem run_take {b : Bkt} {l : List (Int × Int)} {k : Nat} (h : k < l.length) : run b (l.take (k + 1)) = ((does (run b (l.take k)).1 l[k].1 l[k].2).1, (run b (l.take k)).2 ++ [(does (run b (l.take k)).1 l[k].1 l[k].2).2]) := by
  unfold run
  rw [List.take_succ_eq_append_getElem h, List.foldl_append]; rfl
theorem run_good {b : Bkt} (hb : b.right = true) {l : List (Int × Int)} : ∀ k, k ≤ l.length → Gd k (run b (l.take k)).1 ∧ (run b (l.take k)).2.length = k
  | 0, _ => ⟨⟨(show right [] 100 60000 0 = true by decide), hb, Int.le_refl _, Int.le_refl _, Int.le_refl _, Int.le_refl _⟩, rfl⟩
  | k + 1, h => by
    obtain ⟨h1, h2⟩ := run_good hb (l := l) k (by omega)
    rw [run_take h]
    exact ⟨does_good h1 _ _, by simp [h2]⟩
theorem run_zero (b : Bkt) (l : List (Int × Int)) : run b (l.take 0) = (⟨[], 0, b, 0⟩, []) := rfl
end Go.Proofs.YtoibebmhfcjpfaaGreatDoor.Pace

namespace Go.Proofs.YtoibebmhfcjpfaaGreatDoor.E
open Go.RowKit

def rdr (A : Option Addr) (xs : List Value) : Res where
  foot := match xs, A with | _ :: _, some a => [a.block] | _, _ => []
  holds w := Rd w A xs
  stable w w' hf h := by
    rcases h with rfl | ⟨b, off, rfl, hc⟩
    · exact .inl rfl
    · cases xs with
      | nil => exact .inl rfl
      | cons x xs => exact .inr ⟨b, off, rfl, fun j u hu => (World.cell?_of_block (hf b (by simp))).trans (hc j u hu)⟩
theorem rdl_rdr {w0 : World} {L : List Res} {A : Option Addr} {xs : List Value} (i : Nat) (h : lget L i = some (rdr A xs)) : RdL w0 L A xs := fun _ hS => hS.holds i _ h
theorem rdr_nil {A : Option Addr} : ∀ w, (rdr A []).holds w := fun _ => .inl rfl
theorem rdr_foot {A : Option Addr} {xs : List Value} {b : Nat} (h : b ∈ (rdr A xs).foot) : xs ≠ [] ∧ ∃ a, A = some a ∧ b = a.block := by
  unfold rdr at h
  dsimp only at h
  split at h
  · exact ⟨by simp, _, rfl, by simpa using h⟩
  · cases h
theorem rd_new {w w' : World} {A : Option Addr} {xs : List Value} (hr : Rd w' A xs) (hf : ∀ g o s, A = some ⟨g, o, s⟩ → w.heap.size ≤ g) {b : Nat} (h : b ∈ (rdr A xs).foot) : w.heap.size ≤ b ∧ b < w'.heap.size := by
  obtain ⟨hne, a, hA, hb⟩ := rdr_foot h
  obtain ⟨x, l, rfl⟩ := List.exists_cons_of_ne_nil hne
  rcases hr with h0 | ⟨g, off, hA', hc⟩
  · cases h0
  · have h2 := lt_of_cell (hc 0 x rfl)
    rw [hA'] at hA
    have h3 := hf _ _ _ hA'
    cases hA
    exact hb ▸ ⟨h3, h2⟩
theorem St.of_rd {w w' : World} {A : Option Addr} {xs : List Value} (hb : Below w.heap.size w w') (hr : Rd w' A xs) (hf : ∀ g o s, A = some ⟨g, o, s⟩ → w.heap.size ≤ g) : St w w' [rdr A xs] :=
  St.add (r := rdr A xs) (St.refl w) hb hr (fun _ h => rd_new hr hf h)
end Go.Proofs.YtoibebmhfcjpfaaGreatDoor.E
namespace Go.Proofs.YtoibebmhfcjpfaaGreatDoor.Pace
open Go.RowKit Go.Proofs.YtoibebmhfcjpfaaGreatDoor.E Go.Proofs.YtoibebmhfcjpfaaGreatDoor.Ring Go.Proofs.YtoibebmhfcjpfaaGreatDoor.Bucket

abbrev StepE (r d : Int) (xs : List Int) (w : World) (e : Ending) (w' : World) : Prop :=
  ∃ q : Option Addr × Nat, xs.length ≤ q.2 ∧ e = .returned (.tuple #[.agg #[.slice q.1 xs.length q.2, (.int .i64 100), (.int .i64 60000), (.int .i64 d)], (.int .i64 r), (.int .i64 0)]) ∧ St w w' [rdr q.1 (cI xs)]
theorem stepR_E {r d : Int} {xs : List Int} {w : World} {e : Ending} {w' : World} (h : StepR 100 60000 d r xs w e w') : StepE r d xs w e w' := by
  obtain ⟨A, c, h1, h2, ⟨h3, h4⟩, h5⟩ := h
  exact ⟨(A, c), h2, h1, St.of_rd h5 h3 h4⟩
theorem stepRange (A : Option Addr) (n c : Nat) (zs : List Int) (drops v : Int) (w : World) (hr : Rd w A (cI zs)) (hn : zs.length = n) (h : right zs 100 60000 0 = true) (d0 : 0 ≤ drops) (d1 : drops ≤ 1048576) (hv : v < 1 ∨ 1500 < v) : Calls Tryz.prog 41 #[.agg #[.slice A n c, (.int .i64 100), (.int .i64 60000), (.int .i64 drops)], .agg #[(.int .i64 1), (.int .i64 v)]] w fun e w' => e = .returned (.tuple #[.agg #[.slice none 0 0, (.int .i64 0), (.int .i64 0), (.int .i64 0)], (.int .i64 0), (.int .i64 2)]) ∧ St w w' [] :=
  of_bel (step_range A n c zs 100 60000 drops v w hr hn (right_drops h d0 (by omega)) (by omega))
theorem stepIn (A : Option Addr) (n c : Nat) (zs : List Int) (drops v : Int) (w : World) (hr : Rd w A (cI zs)) (hn : zs.length = n) (h : right zs 100 60000 0 = true) (d0 : 0 ≤ drops) (d1 : drops ≤ 1048576) (v0 : 1 ≤ v) (v1 : v ≤ 1500) (hl : (zs.length : Int) < 100 ∧ tot zs + v ≤ 60000) : Calls Tryz.prog 41 #[.agg #[.slice A n c, (.int .i64 100), (.int .i64 60000), (.int .i64 drops)], .agg #[(.int .i64 1), (.int .i64 v)]] w (StepE 1 drops (zs ++ [v]) w) :=
  (step_in A n c zs 100 60000 drops v w hr hn (right_drops h d0 (by omega)) v0 v1 (by omega) hl.2).mono fun _ _ => stepR_E
theorem stepDrop (A : Option Addr) (n c : Nat) (zs : List Int) (drops v : Int) (w : World) (hr : Rd w A (cI zs)) (hn : zs.length = n) (h : right zs 100 60000 0 = true) (d0 : 0 ≤ drops) (d1 : drops ≤ 1048576) (v0 : 1 ≤ v) (v1 : v ≤ 1500) (hl : ¬ ((zs.length : Int) < 100 ∧ tot zs + v ≤ 60000)) : Calls Tryz.prog 41 #[.agg #[.slice A n c, (.int .i64 100), (.int .i64 60000), (.int .i64 drops)], .agg #[(.int .i64 1), (.int .i64 v)]] w (StepE 0 (drops + 1) zs w) :=
  (step_drop A n c zs 100 60000 drops v w hr hn (right_drops h d0 (by omega)) v0 v1 (by omega) (by omega)).mono fun _ _ => stepR_E
theorem stepOut (A : Option Addr) (n c : Nat) (zs : List Int) (drops v : Int) (w : World) (hr : Rd w A (cI zs)) (hn : zs.length = n) (h : right zs 100 60000 0 = true) (d0 : 0 ≤ drops) (d1 : drops ≤ 1048576) (h0 : 0 < n) : Calls Tryz.prog 41 #[.agg #[.slice A n c, (.int .i64 100), (.int .i64 60000), (.int .i64 drops)], .agg #[(.int .i64 2), (.int .i64 v)]] w (StepE (zs.headD 0) drops zs.tail w) :=
  (step_out A n c zs 100 60000 drops v w hr hn (right_drops h d0 (by omega)) h0).mono fun _ _ => stepR_E
theorem hd0 {l : List Int} (h : 0 < l.length) : (cI l)[0]? = some (.int .i64 (l.headD 0)) := by cases l with | nil => simp at h | cons a l => rfl
def okb (num den burst : Int) : Bool := rng num den burst && decide (1500 ≤ burst)
theorem fillE (b : Bkt) (t : Int) (w : World) (h : b.right = true) (h0 : b.at0 ≤ t) (h1 : t ≤ 1099511627776) : Calls Tryz.prog 42 #[.agg #[(.int .i64 b.num), (.int .i64 b.den), (.int .i64 b.burst), (.int .i64 b.level), (.int .i64 b.at0)], (.int .i64 t)] w fun e w' => e = .returned (.tuple #[.agg #[(.int .i64 b.num), (.int .i64 b.den), (.int .i64 b.burst), (.int .i64 (b.lev t)), (.int .i64 t)], (.int .i64 0)]) ∧ St w w' [] :=
  of_bel (fill_ok b.num b.den b.burst b.level b.at0 t w h h0 h1)
/-- What Take answers at the bucket's own time. -/
theorem takeE (b : Bkt) (n : Int) (w : World) (h : b.right = true) (h0 : 0 ≤ n) (h1 : n ≤ 1500) (p : Bool) (hp : decide (n * b.den ≤ b.level) = p) : Calls Tryz.prog 61 #[.agg #[(.int .i64 b.num), (.int .i64 b.den), (.int .i64 b.burst), (.int .i64 b.level), (.int .i64 b.at0)], .agg #[(.int .i64 b.at0), (.int .i64 n)]] w fun e w' => e = .returned (.tuple #[.agg #[(.int .i64 b.num), (.int .i64 b.den), (.int .i64 b.burst), (.int .i64 (bif p then b.level - n * b.den else b.level)), (.int .i64 b.at0)], .bool p, (.int .i64 0)]) ∧ St w w' [] := by
  have h2 := take_any b.num b.den b.burst b.level b.at0 b.at0 n w
  have h3 := bparts h
  have e : take ⟨b.num, b.den, b.burst, b.level, b.at0⟩ b.at0 n = (⟨b.num, b.den, b.burst, bif p then b.level - n * b.den else b.level, b.at0⟩, p, 0) := by
    have hl := lev_same h
    unfold take
    rw [if_neg (by rw [show Bkt.right ⟨b.num, b.den, b.burst, b.level, b.at0⟩ = true from h]; decide), if_neg (by show ¬ (b.at0 < b.at0 ∨ _); omega)]
    cases p
    · have := of_decide_eq_false hp
      rw [if_neg (by show ¬ (n * b.den ≤ b.lev b.at0); rw [hl]; exact this)]
      show (Bkt.mk b.num b.den b.burst (b.lev b.at0) b.at0, _) = _
      rw [hl]; rfl
    · have := of_decide_eq_true hp
      rw [if_pos (by show n * b.den ≤ b.lev b.at0; rw [hl]; exact this)]
      show (Bkt.mk b.num b.den b.burst (b.lev b.at0 - n * b.den) b.at0, _) = _
      rw [hl]; rfl
  rw [e] at h2
  exact of_bel h2
theorem fullE (num den burst : Int) (w : World) (h : rng num den burst = true) : Calls Tryz.prog 29 #[(.int .i64 num), (.int .i64 den), (.int .i64 burst)] w fun e w' => e = .returned (.tuple #[.agg #[(.int .i64 num), (.int .i64 den), (.int .i64 burst), (.int .i64 (burst * den)), (.int .i64 0)], (.int .i64 0)]) ∧ St w w' [] := of_bel (full_ok num den burst w h)
theorem fullN (num den burst : Int) (w : World) (h : rng num den burst = false) : Calls Tryz.prog 29 #[(.int .i64 num), (.int .i64 den), (.int .i64 burst)] w fun e w' => e = .returned (.tuple #[.agg #[(.int .i64 0), (.int .i64 0), (.int .i64 0), (.int .i64 0), (.int .i64 0)], (.int .i64 2)]) ∧ St w w' [] := of_bel (full_bad num den burst w h)
end Go.Proofs.YtoibebmhfcjpfaaGreatDoor.Pace
