/- A tree of classes at work, plain. -/
import Derived.Test.YtfcpmcdlgkfolaaDoorZhWqB
namespace Go.Proofs.YtfcpmcdlgkfolaaDoor.Hier
open Go.RowKit Go.Proofs.YtfcpmcdlgkfolaaDoor.E Go.Proofs.YtfcpmcdlgkfolaaDoor.Wfq
open Go.Proofs.YtfcpmcdlgkfolaaDoor.Scfq (hd hd_mem)

/-- The tree: which one is above each, and the weights. -/
structure Tr where
  up : List Int
  wt : List Int
def Tr.u (t : Tr) (k : Nat) : Int := t.up.getD k (-1)
def Tr.w (t : Tr) (k : Nat) : Int := t.wt.getD k 0
def Tr.n (t : Tr) : Nat := t.up.length
/-- Those below k, of the first n. -/
def Tr.kidsTo (t : Tr) (n k : Nat) : List Nat := (List.range n).filter fun j => decide (t.u j = k)
def Tr.sumTo (t : Tr) : Nat → Nat → Int
  | 0, _ => 0
  | n + 1, k => t.sumTo n k + bif decide (t.u n = k) then t.w n else 0
def Tr.kids (t : Tr) (k : Nat) : List Nat := t.kidsTo t.n k
def Tr.sum (t : Tr) (k : Nat) : Int := t.sumTo t.n k
structure Tr.Good (t : Tr) : Prop where
  n1 : 1 ≤ t.n
  n16 : t.n ≤ 16
  u0 : t.u 0 = -1
  u : ∀ k, 0 < k → k < t.n → 0 ≤ t.u k ∧ t.u k < k
  w : ∀ k, k < t.n → 1 ≤ t.w k ∧ t.w k ≤ 12
theorem mem_kids {t : Tr} {k j : Nat} : j ∈ t.kids k ↔ j < t.n ∧ t.u j = k := by
  unfold Tr.kids Tr.kidsTo
  simp
theorem Tr.Good.lt {t : Tr} (h : t.Good) {k : Nat} (hk : k < t.n) : t.u k < k ∧ -1 ≤ t.u k := by
  by_cases e : k = 0
  · subst e; have := h.u0; omega
  · have := h.u k (by omega) hk; omega
theorem sumTo_bd {t : Tr} (h : t.Good) {k : Nat} : ∀ {n : Nat}, n ≤ t.n → 0 ≤ t.sumTo n k ∧ t.sumTo n k ≤ 12 * n
  | 0, _ => by simp [Tr.sumTo]
  | n + 1, hn => by
    have h1 := sumTo_bd h (k := k) (n := n) (by omega)
    have h2 := h.w n (by omega)
    unfold Tr.sumTo
    cases decide (t.u n = k) <;> simp only [cond_true, cond_false] <;> omega
theorem sum_bd {t : Tr} (h : t.Good) (k : Nat) : 0 ≤ t.sum k ∧ t.sum k ≤ 192 := by
  have h1 := sumTo_bd h (k := k) (n := t.n) (Nat.le_refl _)
  have := h.n16
  unfold Tr.sum
  omega
/-- What a node offers, and when. -/
structure D where
  leaf : Int
  bytes : Int
  bg : Int
  en : Int
  tm : Int
  ws : List Int
def D.nil : D := ⟨0, 0, 0, 0, 0, []⟩
def dn (s : List D) (k : Nat) : D := s.getD k D.nil
theorem dn_set {s : List D} {k j : Nat} {x : D} (h : k < s.length) : dn (s.set k x) j = if j = k then x else dn s j := getD_set h
def offB (t : Tr) (s : List D) (k : Nat) (ag : Bool) : Int := bif ag then (dn s k).en else max (dn s k).en (dn s (t.u k).toNat).tm
def offer (t : Tr) (s : List D) (k : Nat) (lf b : Int) (ag : Bool) : List D :=
  if t.u k < 0 then s.set k { dn s k with leaf := lf, bytes := b }
  else s.set k { dn s k with leaf := lf, bytes := b, bg := offB t s k ag, en := offB t s k ag + b * (27720 / t.w k) * t.sum (t.u k).toNat }
/-- A node as a flow: it has something, or not. -/
def qd (d : D) : Q := ⟨bif decide (0 < d.bytes) then [d.bytes] else [], d.bg, d.en⟩
def kq (s : List D) (ks : List Nat) : List Q := ks.map fun c => qd (dn s c)
inductive Pick (t : Tr) (s : List D) (k : Nat) (ag : Bool) : List D → Prop
  | none (h : ∀ j, j < (t.kids k).length → (gq (kq s (t.kids k)) j).bs.length = 0) : Pick t s k ag (s.set k { dn s k with bytes := 0 })
  | some (b : Int) (j : Nat) (hb : Least (kq s (t.kids k)) (t.kids k).length b) (hj : May (kq s (t.kids k)) (t.kids k).length (max (dn s k).tm b) j) :
      Pick t s k ag (offer t (s.set k { dn s k with tm := max (dn s k).tm b + (dn s ((t.kids k).getD j 0)).bytes * 27720 }) k (dn s ((t.kids k).getD j 0)).leaf (dn s ((t.kids k).getD j 0)).bytes ag)
theorem Pick.uniq {t : Tr} {s : List D} {k : Nat} {ag : Bool} {a b : List D} (h : Pick t s k ag a) (h' : Pick t s k ag b) : a = b := by
  cases h with
  | none h =>
    cases h' with
    | none => rfl
    | some x j hb hj => exfalso; have := h j hj.1; have := hj.2.1; omega
  | some x j hb hj =>
    cases h' with
    | none h => exfalso; have := h j hj.1; have := hj.2.1; omega
    | some y i gb gj =>
      obtain rfl := hb.uniq gb
      obtain rfl := hj.uniq gj
      rfl
open Classical in
noncomputable def pick (t : Tr) (s : List D) (k : Nat) (ag : Bool) : List D := if h : ∃ s', Pick t s k ag s' then h.choose else s
theorem Pick.eq {t : Tr} {s : List D} {k : Nat} {ag : Bool} {a : List D} (h : Pick t s k ag a) : pick t s k ag = a := by
  unfold pick
  rw [dif_pos ⟨a, h⟩]
  exact Pick.uniq (Exists.choose_spec (⟨a, h⟩ : ∃ s', Pick t s k ag s')) h
theorem pick_cases (t : Tr) (s : List D) (k : Nat) (ag : Bool) : pick t s k ag = s ∨ Pick t s k ag (pick t s k ag) := by
  by_cases h : ∃ s', Pick t s k ag s'
  · obtain ⟨a, ha⟩ := h
    rw [ha.eq]
    exact .inr ha
  · unfold pick
    rw [dif_neg h]
    exact .inl rfl
/-- Up from k, as long as a node has nothing. -/
noncomputable def upIn (t : Tr) : Nat → List D → Int → List D
  | 0, s, _ => s
  | f + 1, s, k => if k < 0 ∨ ¬ (dn s k.toNat).bytes = 0 then s else upIn t f (pick t s k.toNat false) (t.u k.toNat)
/-- Up from k, all the way. -/
noncomputable def upOut (t : Tr) : Nat → List D → Int → List D
  | 0, s, _ => s
  | f + 1, s, k => if k < 0 then s else upOut t f (pick t s k.toNat true) (t.u k.toNat)
noncomputable def inF (t : Tr) (s : List D) (k : Nat) (b : Int) : List D :=
  if 0 < (dn s k).bytes then s.set k { dn s k with ws := (dn s k).ws ++ [b] }
  else upIn t 17 (offer t (s.set k { dn s k with ws := (dn s k).ws ++ [b] }) k k b false) (t.u k)
def goneF (t : Tr) (s : List D) (r : Nat) : List D :=
  if (dn s r).ws.length = 1 then s.set r { dn s r with ws := (dn s r).ws.drop 1, bytes := 0 }
  else offer t (s.set r { dn s r with ws := (dn s r).ws.drop 1 }) r r (hd ((dn s r).ws.drop 1)) true
noncomputable def outF (t : Tr) (s : List D) : List D := upOut t 17 (goneF t s (dn s 0).leaf.toNat) (t.u (dn s 0).leaf.toNat)
structure S where
  ds : List D
  errs : List Int
  sent : List (Int × Int)
def Tr.leaf (t : Tr) (k : Int) : Prop := 0 ≤ k ∧ k < t.n ∧ t.kids k.toNat = []
inductive Stp (t : Tr) (s : S) (o : O3) : S → Prop
  | kind (h1 : o.1 ≠ 1) (h2 : o.1 ≠ 2) : Stp t s o { s with errs := s.errs ++ [5] }
  | none (h1 : o.1 = 1) (h2 : ¬ t.leaf o.2.1) : Stp t s o { s with errs := s.errs ++ [3] }
  | range (h1 : o.1 = 1) (h2 : t.leaf o.2.1) (h3 : o.2.2 < 1 ∨ 1500 < o.2.2) : Stp t s o { s with errs := s.errs ++ [2] }
  | inn (k : Nat) (h1 : o.1 = 1) (h2 : o.2.1 = k) (hk : t.leaf k) (h3 : 1 ≤ o.2.2 ∧ o.2.2 ≤ 1500) : Stp t s o { s with errs := s.errs ++ [0], ds := inF t s.ds k o.2.2 }
  | nought (h1 : o.1 = 2) (h2 : (dn s.ds 0).bytes = 0) : Stp t s o { s with errs := s.errs ++ [3] }
  | out (h1 : o.1 = 2) (h2 : ¬ (dn s.ds 0).bytes = 0) : Stp t s o ⟨outF t s.ds, s.errs ++ [0], s.sent ++ [((dn s.ds 0).leaf, (dn s.ds 0).bytes)]⟩
theorem Stp.uniq {t : Tr} {s : S} {o : O3} {a b : S} (h : Stp t s o a) (h' : Stp t s o b) : a = b := by
  cases h with
  | kind h1 h2 => cases h' <;> first | rfl | (exfalso; omega)
  | none h1 h2 => cases h' with
    | none => rfl
    | range g1 g2 => exact absurd g2 h2
    | inn k g1 g2 g3 => exact absurd (g2 ▸ g3) h2
    | _ => exfalso; omega
  | range h1 h2 h3 => cases h' with
    | none g1 g2 => exact absurd h2 g2
    | range => rfl
    | _ => exfalso; omega
  | inn k h1 h2 hk h3 =>
    cases h' with
    | inn j g1 g2 gk g3 =>
      obtain rfl : k = j := by omega
      rfl
    | none g1 g2 => exact absurd (h2 ▸ hk) g2
    | _ => exfalso; omega
  | nought h1 h2 => cases h' <;> first | rfl | (exfalso; omega)
  | out h1 h2 => cases h' <;> first | rfl | (exfalso; omega)
def Run (t : Tr) (os : List O3) : Nat → S → Prop
  | 0, s => s = ⟨List.replicate t.n D.nil, [], []⟩
  | i + 1, s => ∃ s0, Run t os i s0 ∧ Stp t s0 (os.getD i (0, 0, 0)) s
end Go.Proofs.YtfcpmcdlgkfolaaDoor.Hier

namespace Go.Proofs.YtfcpmcdlgkfolaaDoor.Hier
open Go.RowKit Go.Proofs.YtfcpmcdlgkfolaaDoor.E Go.Proofs.YtfcpmcdlgkfolaaDoor.Wfq
open Go.Proofs.YtfcpmcdlgkfolaaDoor.Scfq (hd hd_mem)

theorem kq_at {s : List D} {ks : List Nat} {j : Nat} (h : j < ks.length) : gq (kq s ks) j = qd (dn s (ks.getD j 0)) := by
  unfold gq kq
  rw [getD_lt (by simpa using h), List.getElem_map, getD_lt h]
theorem qd_pos {d : D} : 0 < (qd d).bs.length ↔ 0 < d.bytes := by
  unfold qd
  by_cases h : 0 < d.bytes <;> simp [h]
theorem qd_zero {d : D} : (qd d).bs.length = 0 ↔ d.bytes ≤ 0 := by
  have := qd_pos (d := d)
  omega
theorem offer_len {t : Tr} {s : List D} {k : Nat} {lf b : Int} {ag : Bool} : (offer t s k lf b ag).length = s.length := by
  unfold offer
  split <;> simp
theorem offer_dn {t : Tr} {s : List D} {k : Nat} {lf b : Int} {ag : Bool} (hk : k < s.length) : (∀ j, j ≠ k → dn (offer t s k lf b ag) j = dn s j) ∧ (dn (offer t s k lf b ag) k).leaf = lf ∧ (dn (offer t s k lf b ag) k).bytes = b ∧ (dn (offer t s k lf b ag) k).ws = (dn s k).ws ∧ (dn (offer t s k lf b ag) k).tm = (dn s k).tm := by
  unfold offer
  split
  · refine ⟨fun j hj => ?_, ?_⟩
    · rw [dn_set hk, if_neg hj]
    · rw [dn_set hk, if_pos rfl]; exact ⟨rfl, rfl, rfl, rfl⟩
  · refine ⟨fun j hj => ?_, ?_⟩
    · rw [dn_set hk, if_neg hj]
    · rw [dn_set hk, if_pos rfl]; exact ⟨rfl, rfl, rfl, rfl⟩
/-- The numbers of a node. -/
def Bn (B : Int) (d : D) : Prop := (0 ≤ d.bytes ∧ d.bytes ≤ 1500) ∧ (0 ≤ d.bg ∧ d.bg ≤ B) ∧ (0 ≤ d.en ∧ d.en ≤ B) ∧ (0 ≤ d.tm ∧ d.tm ≤ B) ∧ ∀ x ∈ d.ws, 1 ≤ x ∧ x ≤ 1500
def Bd (B : Int) (s : List D) : Prop := ∀ k, Bn B (dn s k)
theorem Bn.mono {B C : Int} {d : D} (h : Bn B d) (hc : B ≤ C) : Bn C d := by
  obtain ⟨h1, h2, h3, h4, h5⟩ := h
  exact ⟨h1, by omega, by omega, by omega, h5⟩
theorem Bd.mono {B C : Int} {s : List D} (h : Bd B s) (hc : B ≤ C) : Bd C s := fun k => (h k).mono hc
theorem Bd.set {B C : Int} {s : List D} {k : Nat} {x : D} (h : Bd B s) (hc : B ≤ C) (hx : Bn C x) : Bd C (s.set k x) := fun j => by
  by_cases hk : k < s.length
  · rw [dn_set hk]
    split
    · exact hx
    · exact (h j).mono hc
  · rw [List.set_eq_of_length_le (by omega)]
    exact (h j).mono hc
theorem w_div {w : Int} (h : 1 ≤ w ∧ w ≤ 12) : 0 ≤ 27720 / w ∧ 27720 / w ≤ 27720 := by
  obtain ⟨h1, h2⟩ := h
  rcases (show w = 1 ∨ w = 2 ∨ w = 3 ∨ w = 4 ∨ w = 5 ∨ w = 6 ∨ w = 7 ∨ w = 8 ∨ w = 9 ∨ w = 10 ∨ w = 11 ∨ w = 12 by omega) with rfl | rfl | rfl | rfl | rfl | rfl | rfl | rfl | rfl | rfl | rfl | rfl <;> decide
theorem pay_bd {b q m : Int} (hb : 0 ≤ b ∧ b ≤ 1500) (hq : 0 ≤ q ∧ q ≤ 27720) (hm : 0 ≤ m ∧ m ≤ 192) : 0 ≤ b * q ∧ b * q ≤ 41580000 ∧ 0 ≤ b * q * m ∧ b * q * m ≤ 7983360000 := by
  have h1 := mul_in hb.1 hb.2 hq.1 hq.2
  have h2 := mul_in h1.1 h1.2 hm.1 hm.2
  omega
theorem offB_bd {t : Tr} {B : Int} {s : List D} {k : Nat} {ag : Bool} (h : Bd B s) : 0 ≤ offB t s k ag ∧ offB t s k ag ≤ B := by
  obtain ⟨_, _, h1, _, _⟩ := h k
  obtain ⟨_, _, _, h2, _⟩ := h (t.u k).toNat
  unfold offB
  cases ag <;> simp only [cond_true, cond_false] <;> omega
theorem offer_bd {t : Tr} (g : t.Good) {B : Int} {s : List D} {k : Nat} {lf b : Int} {ag : Bool} (hk : k < t.n) (h : Bd B s) (hb : 0 ≤ b ∧ b ≤ 1500) : Bd (B + 8000000000) (offer t s k lf b ag) := by
  have hB := offB_bd (t := t) (k := k) (ag := ag) h
  have hp := pay_bd hb (w_div (g.w k hk)) (sum_bd g (t.u k).toNat)
  obtain ⟨h1, h2, h3, h4, h5⟩ := h k
  unfold offer
  split
  · exact h.set (by omega) ⟨hb, by show 0 ≤ (dn s k).bg ∧ (dn s k).bg ≤ _; omega, by show 0 ≤ (dn s k).en ∧ (dn s k).en ≤ _; omega, by show 0 ≤ (dn s k).tm ∧ (dn s k).tm ≤ _; omega, h5⟩
  · exact h.set (by omega) ⟨hb, by show 0 ≤ offB t s k ag ∧ offB t s k ag ≤ _; omega, by dsimp only; omega, by show 0 ≤ (dn s k).tm ∧ (dn s k).tm ≤ _; omega, h5⟩
theorem pick_bd {t : Tr} (g : t.Good) {B : Int} {s : List D} {k : Nat} {ag : Bool} (hk : k < t.n) (h : Bd B s) : Bd (B + 9000000000) (pick t s k ag) := by
  have h0 := h k
  rcases pick_cases t s k ag with e | e
  · rw [e]; exact h.mono (by omega)
  · generalize pick t s k ag = p at e
    cases e with
    | none hn =>
      obtain ⟨h1, h2, h3, h4, h5⟩ := h0
      exact h.set (by omega) ⟨by simp, by dsimp only; omega, by dsimp only; omega, by dsimp only; omega, h5⟩
    | some b j hb hj =>
      obtain ⟨⟨i, i1, i2, i3⟩, _⟩ := hb
      rw [kq_at i1] at i3
      obtain ⟨h1, h2, h3, h4, h5⟩ := h0
      obtain ⟨c1, c2, _, _, _⟩ := h ((t.kids k).getD i 0)
      have i3 : (dn s ((t.kids k).getD i 0)).bg = b := i3
      obtain ⟨d1, _, _, _, _⟩ := h ((t.kids k).getD j 0)
      have h6 : Bd (B + 50000000) (s.set k { dn s k with tm := max (dn s k).tm b + (dn s ((t.kids k).getD j 0)).bytes * 27720 }) := h.set (by omega) ⟨h1, by dsimp only; omega, by dsimp only; omega, by dsimp only; omega, h5⟩
      exact (offer_bd g hk h6 d1).mono (by omega)
theorem pick_len {t : Tr} {s : List D} {k : Nat} {ag : Bool} : (pick t s k ag).length = s.length := by
  rcases pick_cases t s k ag with e | e
  · rw [e]
  · generalize pick t s k ag = p at e
    cases e with
    | none => simp
    | some => rw [offer_len]; simp
/-- What a choice turns: node k alone. -/
theorem pick_dn {t : Tr} {s : List D} {k : Nat} {ag : Bool} (hk : k < s.length) : (∀ j, j ≠ k → dn (pick t s k ag) j = dn s j) ∧ (dn (pick t s k ag) k).ws = (dn s k).ws ∧
    (dn (pick t s k ag) k = dn s k ∨ (dn (pick t s k ag) k).bytes = 0 ∨ ∃ c ∈ t.kids k, 0 < (dn s c).bytes ∧ (dn (pick t s k ag) k).bytes = (dn s c).bytes ∧ (dn (pick t s k ag) k).leaf = (dn s c).leaf) := by
  rcases pick_cases t s k ag with e | e
  · rw [e]; exact ⟨fun _ _ => rfl, rfl, .inl rfl⟩
  · generalize pick t s k ag = p at e
    cases e with
    | none =>
      refine ⟨fun j hj => by rw [dn_set hk, if_neg hj], ?_⟩
      rw [dn_set hk, if_pos rfl]
      exact ⟨rfl, .inr (.inl rfl)⟩
    | some b j hb hj =>
      have hl : k < (s.set k { dn s k with tm := max (dn s k).tm b + (dn s ((t.kids k).getD j 0)).bytes * 27720 }).length := by simpa using hk
      obtain ⟨h1, h2, h3, h4, h5⟩ := offer_dn (t := t) (lf := (dn s ((t.kids k).getD j 0)).leaf) (b := (dn s ((t.kids k).getD j 0)).bytes) (ag := ag) hl
      refine ⟨fun i hi => by rw [h1 i hi, dn_set hk, if_neg hi], by rw [h4, dn_set hk, if_pos rfl], .inr (.inr ⟨(t.kids k).getD j 0, ?_, ?_, h3, h2⟩)⟩
      · rw [getD_lt hj.1]; exact List.getElem_mem _
      · have := hj.2.1
        rw [kq_at hj.1] at this
        exact qd_pos.1 this
theorem upIn_bd {t : Tr} (g : t.Good) : ∀ {f : Nat} {B : Int} {s : List D} {k : Int}, k < t.n → Bd B s → Bd (B + f * 9000000000) (upIn t f s k)
  | 0, _, _, _, _, h => h.mono (by omega)
  | f + 1, B, s, k, hk, h => by
    unfold upIn
    split
    · exact h.mono (by omega)
    · rename_i e
      have h1 : k.toNat < t.n := by omega
      have h2 := g.lt h1
      exact (upIn_bd g (f := f) (by omega) (pick_bd g (ag := false) h1 h)).mono (by omega)
theorem upOut_bd {t : Tr} (g : t.Good) : ∀ {f : Nat} {B : Int} {s : List D} {k : Int}, k < t.n → Bd B s → Bd (B + f * 9000000000) (upOut t f s k)
  | 0, _, _, _, _, h => h.mono (by omega)
  | f + 1, B, s, k, hk, h => by
    unfold upOut
    split
    · exact h.mono (by omega)
    · rename_i e
      have h1 : k.toNat < t.n := by omega
      have h2 := g.lt h1
      exact (upOut_bd g (f := f) (by omega) (pick_bd g (ag := true) h1 h)).mono (by omega)
end Go.Proofs.YtfcpmcdlgkfolaaDoor.Hier

namespace Go.Proofs.YtfcpmcdlgkfolaaDoor.Hier
open Go.RowKit Go.Proofs.YtfcpmcdlgkfolaaDoor.E Go.Proofs.YtfcpmcdlgkfolaaDoor.Wfq
open Go.Proofs.YtfcpmcdlgkfolaaDoor.Scfq (hd hd_mem)

theorem sb_ex (fs : List Q) : ∀ k : Nat, ∃ b, Sb fs k b
  | 0 => ⟨-1, sb_zero fs⟩
  | k + 1 => by
    obtain ⟨b, hb⟩ := sb_ex fs k
    have hc := hb.cases
    by_cases h0 : (gq fs k).bs.length = 0
    · exact ⟨b, hb.skip h0⟩
    · by_cases h1 : b < 0 ∨ (gq fs k).bg < (gq fs b.toNat).bg
      · exact ⟨k, hb.take (by omega) h1⟩
      · exact ⟨b, hb.keep (by omega) (by omega)⟩
theorem mb_ex (fs : List Q) (t : Int) : ∀ k : Nat, ∃ b, Mb fs t k b
  | 0 => ⟨-1, mb_zero fs t⟩
  | k + 1 => by
    obtain ⟨b, hb⟩ := mb_ex fs t k
    have hc := hb.cases
    by_cases h0 : (gq fs k).bs.length = 0 ∨ t < (gq fs k).bg
    · exact ⟨b, hb.skip h0⟩
    · by_cases h1 : b < 0 ∨ (gq fs k).en < (gq fs b.toNat).en
      · exact ⟨k, hb.take (by omega) (by omega) h1⟩
      · exact ⟨b, hb.keep (by omega) (by omega)⟩
theorem pick_spec (t : Tr) (s : List D) (k : Nat) (ag : Bool) : Pick t s k ag (pick t s k ag) := by
  have key : ∃ s', Pick t s k ag s' := by
    obtain ⟨b, hb⟩ := sb_ex (kq s (t.kids k)) (t.kids k).length
    rcases hb.cases with e | e
    · exact ⟨_, .none (sb_none rfl hb (by omega))⟩
    · have hl := hb.least e.1
      obtain ⟨m, hm⟩ := mb_ex (kq s (t.kids k)) (max (dn s k).tm (gq (kq s (t.kids k)) b.toNat).bg) (t.kids k).length
      obtain ⟨q, _, hq⟩ := mb_some rfl hm hl
      exact ⟨_, .some _ q hl hq⟩
  obtain ⟨a, ha⟩ := key
  rw [ha.eq]
  exact ha
/-- Behind a choice a node has nothing, or what one below it has. -/
theorem pick_at {t : Tr} {s : List D} {k : Nat} {ag : Bool} (hk : k < s.length) : (dn (pick t s k ag) k).bytes = 0 ∨ ∃ c ∈ t.kids k, 0 < (dn s c).bytes ∧ (dn (pick t s k ag) k).bytes = (dn s c).bytes ∧ (dn (pick t s k ag) k).leaf = (dn s c).leaf := by
  have e := pick_spec t s k ag
  generalize pick t s k ag = p at e
  cases e with
  | none => rw [dn_set hk, if_pos rfl]; exact .inl rfl
  | some b j hb hj =>
    have hl : k < (s.set k { dn s k with tm := max (dn s k).tm b + (dn s ((t.kids k).getD j 0)).bytes * 27720 }).length := by simpa using hk
    obtain ⟨h1, h2, h3, h4, h5⟩ := offer_dn (t := t) (lf := (dn s ((t.kids k).getD j 0)).leaf) (b := (dn s ((t.kids k).getD j 0)).bytes) (ag := ag) hl
    refine .inr ⟨(t.kids k).getD j 0, ?_, ?_, h3, h2⟩
    · rw [getD_lt hj.1]; exact List.getElem_mem _
    · have := hj.2.1
      rw [kq_at hj.1] at this
      exact qd_pos.1 this
/-- Which nodes lie on the way up from k. -/
inductive Anc (t : Tr) : Nat → Nat → Prop
  | here (k : Nat) : Anc t k k
  | up {k j : Nat} (p : Nat) (h : t.u k = p) (ha : Anc t p j) : Anc t k j
theorem Anc.le {t : Tr} (g : t.Good) {k j : Nat} (h : Anc t k j) : k < t.n → j ≤ k := by
  induction h with
  | here => intro _; exact Nat.le_refl _
  | up p h _ ih =>
    intro hk
    have := (g.lt hk).1
    have := ih (by omega)
    omega
theorem anc_zero {t : Tr} (g : t.Good) {j : Nat} (h : Anc t 0 j) : j = 0 := by
  have := h.le g g.n1
  omega
structure Ok (t : Tr) (s : List D) : Prop where
  len : s.length = t.n
  pos : ∀ k, 0 ≤ (dn s k).bytes
  wt : ∀ k, k < t.n → t.kids k = [] → (0 < (dn s k).bytes ↔ 0 < (dn s k).ws.length)
  lf : ∀ k, k < t.n → t.kids k = [] → 0 < (dn s k).bytes → (dn s k).leaf = k
  inn : ∀ k, k < t.n → t.kids k ≠ [] → 0 < (dn s k).bytes → ∃ c ∈ t.kids k, 0 < (dn s c).bytes ∧ (dn s c).leaf = (dn s k).leaf
/-- The same, but for the way up from k. -/
structure OkB (t : Tr) (s : List D) (k : Int) : Prop where
  len : s.length = t.n
  pos : ∀ k, 0 ≤ (dn s k).bytes
  wt : ∀ k, k < t.n → t.kids k = [] → (0 < (dn s k).bytes ↔ 0 < (dn s k).ws.length)
  lf : ∀ k, k < t.n → t.kids k = [] → 0 < (dn s k).bytes → (dn s k).leaf = k
  inn : ∀ i, i < t.n → t.kids i ≠ [] → 0 < (dn s i).bytes → (∃ c ∈ t.kids i, 0 < (dn s c).bytes ∧ (dn s c).leaf = (dn s i).leaf) ∨ ∃ p : Nat, k = p ∧ Anc t p i
theorem OkB.ok {t : Tr} {s : List D} {k : Int} (h : OkB t s k) (hk : k < 0) : Ok t s :=
  ⟨h.len, h.pos, h.wt, h.lf, fun i h1 h2 h3 => (h.inn i h1 h2 h3).elim id fun ⟨p, h4, _⟩ => by omega⟩
theorem ok_down {t : Tr} (g : t.Good) {s : List D} (h : Ok t s) : ∀ (m k : Nat), t.n - k ≤ m → k < t.n → 0 < (dn s k).bytes → ∃ r : Nat, r < t.n ∧ (dn s k).leaf = r ∧ t.kids r = [] ∧ 0 < (dn s r).bytes ∧ ∀ j, Anc t r j → 0 < (dn s j).bytes ∨ Anc t k j
  | 0, k, h1, h2, _ => by omega
  | m + 1, k, h1, h2, h3 => by
    by_cases e : t.kids k = []
    · exact ⟨k, h2, h.lf k h2 e h3, e, h3, fun j hj => .inr hj⟩
    · obtain ⟨c, hc, hc2, hc3⟩ := h.inn k h2 e h3
      obtain ⟨hcn, hcu⟩ := mem_kids.1 hc
      have := (g.lt hcn).1
      obtain ⟨r, r1, r2, r3, r4, r5⟩ := ok_down g h m c (by omega) hcn hc2
      refine ⟨r, r1, by rw [← hc3]; exact r2, r3, r4, fun j hj => ?_⟩
      rcases r5 j hj with h6 | h6
      · exact .inl h6
      · cases h6 with
        | here => exact .inl hc2
        | up p hp ha =>
          obtain rfl : p = k := by omega
          exact .inr ha
/-- The leaf of what the first node offers: it has that, and all above it have something. -/
theorem ok_leaf {t : Tr} (g : t.Good) {s : List D} (h : Ok t s) (h0 : 0 < (dn s 0).bytes) : ∃ r : Nat, r < t.n ∧ (dn s 0).leaf = r ∧ t.kids r = [] ∧ 0 < (dn s r).ws.length ∧ ∀ j, Anc t r j → 0 < (dn s j).bytes := by
  obtain ⟨r, r1, r2, r3, r4, r5⟩ := ok_down g h t.n 0 (by omega) g.n1 h0
  refine ⟨r, r1, r2, r3, (h.wt r r1 r3).1 r4, fun j hj => (r5 j hj).elim id fun h6 => ?_⟩
  rw [anc_zero g h6]
  exact h0
theorem kid_ne {t : Tr} (g : t.Good) {c k : Nat} (hc : c ∈ t.kids k) : c ≠ k := by
  obtain ⟨h1, h2⟩ := mem_kids.1 hc
  have := (g.lt h1).1
  omega
theorem pick_okb {t : Tr} (g : t.Good) {s : List D} {k : Nat} {ag : Bool} (hk : k < t.n) (hne : t.kids k ≠ []) (h : OkB t s k) : OkB t (pick t s k ag) (t.u k) := by
  have hl : k < s.length := by rw [h.len]; exact hk
  obtain ⟨d1, d2, _⟩ := pick_dn (t := t) (ag := ag) hl
  have d3 := pick_at (t := t) (ag := ag) hl
  refine ⟨by rw [pick_len, h.len], fun j => ?_, fun j hj hj0 => ?_, fun j hj hj0 => ?_, fun j hj hj0 hjb => ?_⟩
  · by_cases e : j = k
    · subst e
      rcases d3 with d3 | ⟨c, _, c2, c3, _⟩ <;> omega
    · rw [d1 j e]; exact h.pos j
  · have e : j ≠ k := fun e => hne (e ▸ hj0)
    rw [d1 j e]; exact h.wt j hj hj0
  · have e : j ≠ k := fun e => hne (e ▸ hj0)
    rw [d1 j e]; exact h.lf j hj hj0
  · by_cases e : j = k
    · subst e
      rcases d3 with d3 | ⟨c, c1, c2, c3, c4⟩
      · omega
      · exact .inl ⟨c, c1, by rw [d1 c (kid_ne g c1)]; exact c2, by rw [d1 c (kid_ne g c1)]; exact c4.symm⟩
    · rw [d1 j e] at hjb ⊢
      rcases h.inn j hj hj0 hjb with ⟨c, c1, c2, c3⟩ | ⟨p, p1, p2⟩
      · by_cases ec : c = k
        · subst ec
          exact .inr ⟨j, (mem_kids.1 c1).2, .here j⟩
        · exact .inl ⟨c, c1, by rw [d1 c ec]; exact c2, by rw [d1 c ec]; exact c3⟩
      · obtain rfl : p = k := by omega
        cases p2 with
        | here => exact absurd rfl e
        | up q hq ha => exact .inr ⟨q, hq, ha⟩
theorem upOut_ok {t : Tr} (g : t.Good) : ∀ {f : Nat} {s : List D} {k : Int}, k < f → k < t.n → (∀ p : Nat, k = p → t.kids p ≠ []) → OkB t s k → Ok t (upOut t f s k)
  | 0, s, k, hf, _, _, h => h.ok hf
  | f + 1, s, k, hf, hk, hne, h => by
    unfold upOut
    split
    · rename_i e; exact h.ok e
    · rename_i e
      have h1 : k.toNat < t.n := by omega
      have h2 := g.lt h1
      have hkk : k = (k.toNat : Int) := by omega
      refine upOut_ok g (f := f) (by omega) (by omega) (fun p hp => ?_) (pick_okb g h1 (hne _ hkk) (hkk ▸ h))
      exact List.ne_nil_of_mem (mem_kids.2 ⟨h1, hp⟩)
theorem pick_ok {t : Tr} (g : t.Good) {s : List D} {k : Nat} {ag : Bool} (hk : k < t.n) (hne : t.kids k ≠ []) (h0 : (dn s k).bytes = 0) (h : Ok t s) : Ok t (pick t s k ag) := by
  have hl : k < s.length := by rw [h.len]; exact hk
  obtain ⟨d1, d2, _⟩ := pick_dn (t := t) (ag := ag) hl
  have d3 := pick_at (t := t) (ag := ag) hl
  refine ⟨by rw [pick_len, h.len], fun j => ?_, fun j hj hj0 => ?_, fun j hj hj0 => ?_, fun j hj hj0 hjb => ?_⟩
  · by_cases e : j = k
    · subst e
      rcases d3 with d3 | ⟨c, _, c2, c3, _⟩ <;> omega
    · rw [d1 j e]; exact h.pos j
  · have e : j ≠ k := fun e => hne (e ▸ hj0)
    rw [d1 j e]; exact h.wt j hj hj0
  · have e : j ≠ k := fun e => hne (e ▸ hj0)
    rw [d1 j e]; exact h.lf j hj hj0
  · by_cases e : j = k
    · subst e
      rcases d3 with d3 | ⟨c, c1, c2, c3, c4⟩
      · omega
      · exact ⟨c, c1, by rw [d1 c (kid_ne g c1)]; exact c2, by rw [d1 c (kid_ne g c1)]; exact c4.symm⟩
    · rw [d1 j e] at hjb ⊢
      obtain ⟨c, c1, c2, c3⟩ := h.inn j hj hj0 hjb
      have ec : c ≠ k := fun ec => by subst ec; omega
      exact ⟨c, c1, by rw [d1 c ec]; exact c2, by rw [d1 c ec]; exact c3⟩
theorem upIn_ok {t : Tr} (g : t.Good) : ∀ {f : Nat} {s : List D} {k : Int}, k < t.n → (∀ p : Nat, k = p → t.kids p ≠ []) → Ok t s → Ok t (upIn t f s k)
  | 0, _, _, _, _, h => h
  | f + 1, s, k, hk, hne, h => by
    unfold upIn
    split
    · exact h
    · rename_i e
      have h1 : k.toNat < t.n := by omega
      have h2 := g.lt h1
      have hkk : k = (k.toNat : Int) := by omega
      refine upIn_ok g (f := f) (by omega) (fun p hp => ?_) (pick_ok g h1 (hne _ hkk) (by omega) h)
      exact List.ne_nil_of_mem (mem_kids.2 ⟨h1, hp⟩)
end Go.Proofs.YtfcpmcdlgkfolaaDoor.Hier

namespace Go.Proofs.YtfcpmcdlgkfolaaDoor.Hier
open Go.RowKit Go.Proofs.YtfcpmcdlgkfolaaDoor.E Go.Proofs.YtfcpmcdlgkfolaaDoor.Wfq
open Go.Proofs.YtfcpmcdlgkfolaaDoor.Scfq (hd hd_mem)

theorem up_ne {t : Tr} {k : Nat} (hk : k < t.n) : ∀ p : Nat, t.u k = p → t.kids p ≠ [] := fun p hp => List.ne_nil_of_mem (mem_kids.2 ⟨hk, hp⟩)
theorem inF_ok {t : Tr} (g : t.Good) {s : List D} {k : Nat} {b : Int} (hk : k < t.n) (hl : t.kids k = []) (hb : 1 ≤ b) (h : Ok t s) : Ok t (inF t s k b) := by
  have hkl : k < s.length := by rw [h.len]; exact hk
  unfold inF
  split
  · rename_i h0
    refine ⟨by simp [h.len], fun j => ?_, fun j hj hj0 => ?_, fun j hj hj0 => ?_, fun j hj hj0 => ?_⟩
    · rw [dn_set hkl]; split
      · exact h.pos k
      · exact h.pos j
    · rw [dn_set hkl]; split
      · simp only [List.length_append, List.length_cons, List.length_nil]; omega
      · exact h.wt j hj hj0
    · rw [dn_set hkl]; split
      · rename_i e; subst e; exact h.lf j hj hj0
      · exact h.lf j hj hj0
    · have e : j ≠ k := fun e => hj0 (e ▸ hl)
      rw [dn_set hkl, if_neg e]
      intro hjb
      obtain ⟨c, c1, c2, c3⟩ := h.inn j hj hj0 hjb
      refine ⟨c, c1, ?_⟩
      rw [dn_set hkl]; split
      · rename_i e2; subst e2; exact ⟨c2, c3⟩
      · exact ⟨c2, c3⟩
  · rename_i h0
    have hb0 : (dn s k).bytes = 0 := by have := h.pos k; omega
    have hl1 : k < (s.set k { dn s k with ws := (dn s k).ws ++ [b] }).length := by simpa using hkl
    obtain ⟨o1, o2, o3, o4, o5⟩ := offer_dn (t := t) (lf := k) (b := b) (ag := false) hl1
    have oth : ∀ j, j ≠ k → dn (offer t (s.set k { dn s k with ws := (dn s k).ws ++ [b] }) k k b false) j = dn s j := fun j hj => by rw [o1 j hj, dn_set hkl, if_neg hj]
    have h2 := (g.lt hk).1
    refine upIn_ok g (by omega) (up_ne hk) ⟨by rw [offer_len]; simp [h.len], fun j => ?_, fun j hj hj0 => ?_, fun j hj hj0 => ?_, fun j hj hj0 => ?_⟩
    · by_cases e : j = k
      · subst e; rw [o3]; omega
      · rw [oth j e]; exact h.pos j
    · by_cases e : j = k
      · subst e; rw [o3, o4, dn_set hkl, if_pos rfl]; simp only [List.length_append, List.length_cons, List.length_nil]; omega
      · rw [oth j e]; exact h.wt j hj hj0
    · by_cases e : j = k
      · subst e; exact fun _ => o2
      · rw [oth j e]; exact h.lf j hj hj0
    · have e : j ≠ k := fun e => hj0 (e ▸ hl)
      rw [oth j e]
      intro hjb
      obtain ⟨c, c1, c2, c3⟩ := h.inn j hj hj0 hjb
      have ec : c ≠ k := fun ec => by subst ec; omega
      exact ⟨c, c1, by rw [oth c ec]; exact c2, by rw [oth c ec]; exact c3⟩
theorem hd_pos {B : Int} {d : D} (h : Bn B d) (hl : 1 < d.ws.length) : 1 ≤ hd (d.ws.drop 1) ∧ hd (d.ws.drop 1) ≤ 1500 :=
  h.2.2.2.2 _ (List.mem_of_mem_drop (hd_mem (fun e => by have := congrArg List.length e; rw [List.length_drop] at this; simp at this; omega)))
theorem gone_okb {t : Tr} (g : t.Good) {B : Int} {s : List D} {r : Nat} (hr : r < t.n) (hl : t.kids r = []) (hw : 0 < (dn s r).ws.length) (hb : Bd B s) (h : Ok t s) : OkB t (goneF t s r) (t.u r) := by
  have hrl : r < s.length := by rw [h.len]; exact hr
  have inn' : ∀ s', (∀ j, j ≠ r → dn s' j = dn s j) → ∀ i, i < t.n → t.kids i ≠ [] → 0 < (dn s' i).bytes → (∃ c ∈ t.kids i, 0 < (dn s' c).bytes ∧ (dn s' c).leaf = (dn s' i).leaf) ∨ ∃ p : Nat, t.u r = p ∧ Anc t p i := by
    intro s' oth i hi hi0 hib
    have e : i ≠ r := fun e => hi0 (e ▸ hl)
    rw [oth i e] at hib ⊢
    obtain ⟨c, c1, c2, c3⟩ := h.inn i hi hi0 hib
    by_cases ec : c = r
    · subst ec; exact .inr ⟨i, (mem_kids.1 c1).2, .here i⟩
    · exact .inl ⟨c, c1, by rw [oth c ec]; exact c2, by rw [oth c ec]; exact c3⟩
  unfold goneF
  split
  · rename_i h1
    have oth : ∀ j, j ≠ r → dn (s.set r { dn s r with ws := (dn s r).ws.drop 1, bytes := 0 }) j = dn s j := fun j hj => by rw [dn_set hrl, if_neg hj]
    refine ⟨by simp [h.len], fun j => ?_, fun j hj hj0 => ?_, fun j hj hj0 => ?_, inn' _ oth⟩
    · by_cases e : j = r
      · subst e; rw [dn_set hrl, if_pos rfl]; exact Int.le_refl _
      · rw [oth j e]; exact h.pos j
    · by_cases e : j = r
      · subst e; rw [dn_set hrl, if_pos rfl]; simp only [List.length_drop]; omega
      · rw [oth j e]; exact h.wt j hj hj0
    · by_cases e : j = r
      · subst e; rw [dn_set hrl, if_pos rfl]; intro h2; exact absurd h2 (by simp)
      · rw [oth j e]; exact h.lf j hj hj0
  · rename_i h1
    have hd2 := hd_pos (hb r) (by omega)
    have hl1 : r < (s.set r { dn s r with ws := (dn s r).ws.drop 1 }).length := by simpa using hrl
    obtain ⟨o1, o2, o3, o4, o5⟩ := offer_dn (t := t) (lf := r) (b := hd ((dn s r).ws.drop 1)) (ag := true) hl1
    have oth : ∀ j, j ≠ r → dn (offer t (s.set r { dn s r with ws := (dn s r).ws.drop 1 }) r r (hd ((dn s r).ws.drop 1)) true) j = dn s j := fun j hj => by rw [o1 j hj, dn_set hrl, if_neg hj]
    refine ⟨by rw [offer_len]; simp [h.len], fun j => ?_, fun j hj hj0 => ?_, fun j hj hj0 => ?_, inn' _ oth⟩
    · by_cases e : j = r
      · subst e; rw [o3]; omega
      · rw [oth j e]; exact h.pos j
    · by_cases e : j = r
      · subst e; rw [o3, o4, dn_set hrl, if_pos rfl]; simp only [List.length_drop]; omega
      · rw [oth j e]; exact h.wt j hj hj0
    · by_cases e : j = r
      · subst e; exact fun _ => o2
      · rw [oth j e]; exact h.lf j hj hj0
theorem outF_ok {t : Tr} (g : t.Good) {B : Int} {s : List D} (h0 : 0 < (dn s 0).bytes) (hb : Bd B s) (h : Ok t s) : Ok t (outF t s) := by
  obtain ⟨r, r1, r2, r3, r4, r5⟩ := ok_leaf g h h0
  unfold outF
  rw [r2, Int.toNat_natCast]
  have h2 := (g.lt r1).1
  have := g.n16
  exact upOut_ok g (by omega) (by omega) (up_ne r1) (gone_okb g r1 r3 r4 hb h)
theorem inF_bd {t : Tr} (g : t.Good) {B : Int} {s : List D} {k : Nat} {b : Int} (hk : k < t.n) (hb : 1 ≤ b ∧ b ≤ 1500) (h : Bd B s) : Bd (B + 162000000000) (inF t s k b) := by
  obtain ⟨h1, h2, h3, h4, h5⟩ := h k
  have hx : Bn B { dn s k with ws := (dn s k).ws ++ [b] } := ⟨h1, h2, h3, h4, fun x hx => by
    rcases List.mem_append.1 hx with hx | hx
    · exact h5 x hx
    · simp only [List.mem_singleton] at hx; subst hx; exact hb⟩
  unfold inF
  split
  · exact h.set (by omega) (hx.mono (by omega))
  · have h6 := offer_bd g (lf := k) (ag := false) hk (h.set (k := k) (Int.le_refl _) hx) (b := b) (by omega)
    have h7 := (g.lt hk).1
    exact (upIn_bd g (f := 17) (by omega) h6).mono (by omega)
theorem gone_bd {t : Tr} (g : t.Good) {B : Int} {s : List D} {r : Nat} (hr : r < t.n) (hw : 0 < (dn s r).ws.length) (h : Bd B s) : Bd (B + 8000000000) (goneF t s r) := by
  obtain ⟨h1, h2, h3, h4, h5⟩ := h r
  have hd5 : ∀ x ∈ (dn s r).ws.drop 1, 1 ≤ x ∧ x ≤ 1500 := fun x hx => h5 x (List.mem_of_mem_drop hx)
  unfold goneF
  split
  · exact h.set (by omega) (Bn.mono (B := B) ⟨by simp, h2, h3, h4, hd5⟩ (by omega))
  · have h6 := hd_pos (h r) (by omega)
    exact offer_bd g hr (h.set (k := r) (Int.le_refl _) ⟨h1, h2, h3, h4, hd5⟩) (by omega)
theorem outF_bd {t : Tr} (g : t.Good) {B : Int} {s : List D} (h0 : 0 < (dn s 0).bytes) (hb : Bd B s) (h : Ok t s) : Bd (B + 162000000000) (outF t s) := by
  obtain ⟨r, r1, r2, r3, r4, r5⟩ := ok_leaf g h h0
  unfold outF
  rw [r2, Int.toNat_natCast]
  have h2 := (g.lt r1).1
  exact (upOut_bd g (f := 17) (by omega) (gone_bd g r1 r4 hb)).mono (by omega)
theorem upIn_ws {t : Tr} (g : t.Good) : ∀ {f : Nat} {s : List D} {k : Int} {j : Nat}, s.length = t.n → k < t.n → (dn (upIn t f s k) j).ws = (dn s j).ws
  | 0, _, _, _, _, _ => rfl
  | f + 1, s, k, j, hl, hk => by
    unfold upIn
    split
    · rfl
    · have h1 : k.toNat < t.n := by omega
      have h2 := g.lt h1
      obtain ⟨d1, d2, _⟩ := pick_dn (t := t) (ag := false) (s := s) (k := k.toNat) (by omega)
      rw [upIn_ws g (by rw [pick_len, hl]) (by omega)]
      by_cases e : j = k.toNat
      · subst e; exact d2
      · rw [d1 j e]
theorem upOut_ws {t : Tr} (g : t.Good) : ∀ {f : Nat} {s : List D} {k : Int} {j : Nat}, s.length = t.n → k < t.n → (dn (upOut t f s k) j).ws = (dn s j).ws
  | 0, _, _, _, _, _ => rfl
  | f + 1, s, k, j, hl, hk => by
    unfold upOut
    split
    · rfl
    · have h1 : k.toNat < t.n := by omega
      have h2 := g.lt h1
      obtain ⟨d1, d2, _⟩ := pick_dn (t := t) (ag := true) (s := s) (k := k.toNat) (by omega)
      rw [upOut_ws g (by rw [pick_len, hl]) (by omega)]
      by_cases e : j = k.toNat
      · subst e; exact d2
      · rw [d1 j e]
theorem offer_ws {t : Tr} {s : List D} {k j : Nat} {lf b : Int} {ag : Bool} (hk : k < s.length) : (dn (offer t s k lf b ag) j).ws = (dn s j).ws := by
  obtain ⟨o1, _, _, o4, _⟩ := offer_dn (t := t) (lf := lf) (b := b) (ag := ag) hk
  by_cases e : j = k
  · subst e; exact o4
  · rw [o1 j e]
theorem inF_ws {t : Tr} (g : t.Good) {s : List D} {k j : Nat} {b : Int} (hl : s.length = t.n) (hk : k < t.n) : (dn (inF t s k b) j).ws.length ≤ (dn s j).ws.length + 1 := by
  have hkl : k < s.length := by omega
  have h2 := (g.lt hk).1
  have key : (dn (s.set k { dn s k with ws := (dn s k).ws ++ [b] }) j).ws.length ≤ (dn s j).ws.length + 1 := by
    rw [dn_set hkl]; split
    · rename_i e; subst e; simp
    · omega
  unfold inF
  split
  · exact key
  · rw [upIn_ws g (by rw [offer_len]; simpa using hl) (by omega), offer_ws (by simpa using hkl)]; exact key
theorem outF_ws {t : Tr} (g : t.Good) {s : List D} {j : Nat} (hl : s.length = t.n) {r : Nat} (hr : r < t.n) (e : (dn s 0).leaf = r) : (dn (outF t s) j).ws.length ≤ (dn s j).ws.length := by
  have hrl : r < s.length := by omega
  have h2 := (g.lt hr).1
  unfold outF
  rw [e, Int.toNat_natCast]
  have h3 : (goneF t s r).length = t.n := by unfold goneF; split <;> (try rw [offer_len]) <;> simpa using hl
  rw [upOut_ws g h3 (by omega)]
  unfold goneF
  split
  · rw [dn_set hrl]; split
    · rename_i e2; subst e2; simp
    · omega
  · rw [offer_ws (by simpa using hrl), dn_set hrl]; split
    · rename_i e2; subst e2; simp
    · omega
structure Wf (t : Tr) (i : Nat) (s : S) : Prop where
  ok : Ok t s.ds
  bd : Bd (i * 162000000000) s.ds
  errs : s.errs.length = i
  sent : s.sent.length ≤ i
  cnt : ∀ k, (dn s.ds k).ws.length ≤ i
theorem dn_nil {n k : Nat} : dn (List.replicate n D.nil) k = D.nil := by
  unfold dn
  simp only [List.getD_eq_getElem?_getD, List.getElem?_replicate]
  split <;> rfl
theorem wf_zero (t : Tr) : Wf t 0 ⟨List.replicate t.n D.nil, [], []⟩ := by
  refine ⟨⟨by simp, fun k => ?_, fun k _ _ => ?_, fun k _ _ => ?_, fun k _ _ => ?_⟩, fun k => ?_, rfl, Nat.le_refl _, fun k => ?_⟩ <;> simp only [dn_nil]
  · simp [D.nil]
  · simp [D.nil]
  · simp [D.nil]
  · simp [D.nil]
  · exact ⟨by simp [D.nil], by simp [D.nil], by simp [D.nil], by simp [D.nil], by simp [D.nil]⟩
  · simp [D.nil]
theorem wf_err {t : Tr} {i : Nat} {s : S} (h : Wf t i s) (e : Int) : Wf t (i + 1) { s with errs := s.errs ++ [e] } :=
  ⟨h.ok, h.bd.mono (by omega), by simp [h.errs], by have := h.sent; show s.sent.length ≤ _; omega, fun k => by have := h.cnt k; show (dn s.ds k).ws.length ≤ _; omega⟩
theorem Wf.step {t : Tr} (g : t.Good) {i : Nat} {s s' : S} {o : O3} (h : Wf t i s) (hs : Stp t s o s') : Wf t (i + 1) s' := by
  cases hs with
  | kind => exact wf_err h 5
  | none => exact wf_err h 3
  | range => exact wf_err h 2
  | nought => exact wf_err h 3
  | inn k h1 h2 hk h3 =>
    obtain ⟨k0, k1, k2⟩ := hk
    rw [Int.toNat_natCast] at k2
    exact ⟨inF_ok g (by omega) k2 h3.1 h.ok, (inF_bd g (by omega) h3 h.bd).mono (by omega), by simp [h.errs], by have := h.sent; show s.sent.length ≤ _; omega, fun j => by have := h.cnt j; have := inF_ws g (j := j) (b := o.2.2) h.ok.len (k := k) (by omega); show (dn (inF t s.ds k o.2.2) j).ws.length ≤ _; omega⟩
  | out h1 h2 =>
    have h0 : 0 < (dn s.ds 0).bytes := by have := h.ok.pos 0; omega
    obtain ⟨r, r1, r2, _⟩ := ok_leaf g h.ok h0
    exact ⟨outF_ok g h0 h.bd h.ok, (outF_bd g h0 h.bd h.ok).mono (by omega), by simp [h.errs], by have := h.sent; simp; omega, fun j => by have := h.cnt j; have := outF_ws g (j := j) h.ok.len r1 r2; show (dn (outF t s.ds) j).ws.length ≤ _; omega⟩
theorem run_wf {t : Tr} (g : t.Good) {os : List O3} : ∀ {i : Nat} {s : S}, Run t os i s → Wf t i s
  | 0, _, h => by rw [h]; exact wf_zero t
  | _ + 1, _, ⟨_, h1, h2⟩ => (run_wf g h1).step g h2
def left (s : S) : List Int := s.ds.map fun d => (d.ws.length : Int)
end Go.Proofs.YtfcpmcdlgkfolaaDoor.Hier

namespace Go.Proofs.YtfcpmcdlgkfolaaDoor.Hier
open Go.RowKit Go.Proofs.YtfcpmcdlgkfolaaDoor.E Go.Proofs.YtfcpmcdlgkfolaaDoor.Wfq
open Go.Proofs.YtfcpmcdlgkfolaaDoor.Scfq (hd hd_mem)

structure Nd where
  up : Int
  w : Int
  kA : Option Addr
  kc : Nat
  ks : List Int
  sum : Int
  wA : Option Addr
  wc : Nat
  d : D
def Nd.nil : Nd := ⟨0, 0, none, 0, [], 0, none, 0, D.nil⟩
def Nd.upd (f : Nd) (d : D) : Nd := ⟨f.up, f.w, f.kA, f.kc, f.ks, f.sum, f.wA, f.wc, d⟩
def cN (f : Nd) : List Value := [(.int .i64 f.up), (.int .i64 f.w), .slice f.kA f.ks.length f.kc, (.int .i64 f.sum), (.int .i64 f.d.leaf), (.int .i64 f.d.bytes), (.int .i64 f.d.bg), (.int .i64 f.d.en), (.int .i64 f.d.tm), .slice f.wA f.d.ws.length f.wc]
theorem hcN : ∀ f, (cN f).length = 10 := fun _ => rfl
def Nd.kV (f : Nd) : Vs := ⟨f.kA, f.ks.length, f.kc, cI f.ks⟩
def Nd.wV (f : Nd) : Vs := ⟨f.wA, f.d.ws.length, f.wc, cI f.d.ws⟩
def kI (ks : List Nat) : List Int := ks.map fun (c : Nat) => (c : Int)
structure StN (t : Tr) (k : Nat) (f : Nd) : Prop where
  up : f.up = t.u k
  w : f.w = t.w k
  ks : f.ks = kI (t.kids k)
  sum : f.sum = t.sum k
def Stat (t : Tr) (l : List Nd) : Prop := ∀ k, k < t.n → StN t k (l.getD k Nd.nil)
theorem ndq {l : List Nd} {ds : List D} (h : l.map Nd.d = ds) (k : Nat) : dn ds k = (l.getD k Nd.nil).d := by
  unfold dn
  rw [← h]
  exact getD_map Nd.d rfl
theorem Stat.set {t : Tr} {l : List Nd} (h : Stat t l) {k : Nat} {x : Nd} (hk : k < l.length) (h1 : x.up = (l.getD k Nd.nil).up) (h2 : x.w = (l.getD k Nd.nil).w) (h3 : x.ks = (l.getD k Nd.nil).ks) (h4 : x.sum = (l.getD k Nd.nil).sum) : Stat t (l.set k x) := fun j hj => by
  rw [getD_set hk]
  by_cases e : j = k
  · subst e
    rw [if_pos rfl]
    have := h j hj
    exact ⟨by rw [h1, this.up], by rw [h2, this.w], by rw [h3, this.ks], by rw [h4, this.sum]⟩
  · rw [if_neg e]
    exact h j hj
/-- A store to node k that leaves the tree as it is: what is known behind it. -/
theorem nd_step {t : Tr} {l l1 : List Nd} {ds : List D} {k : Nat} {x : Nd} (hl : l.set k x = l1) (hll : l.length = t.n) (hk : k < t.n) (hq : l.map Nd.d = ds) (hst : Stat t l) (h1 : x.up = (l.getD k Nd.nil).up) (h2 : x.w = (l.getD k Nd.nil).w) (h3 : x.ks = (l.getD k Nd.nil).ks) (h4 : x.sum = (l.getD k Nd.nil).sum) :
    l1.length = t.n ∧ l1.getD k Nd.nil = x ∧ (∀ j, j ≠ k → l1.getD j Nd.nil = l.getD j Nd.nil) ∧ l1.map Nd.d = ds.set k x.d ∧ Stat t l1 := by
  subst hl
  refine ⟨by rw [List.length_set]; exact hll, by rw [getD_set (by omega), if_pos rfl], fun j hj => by rw [getD_set (by omega), if_neg hj], by rw [List.map_set, hq], hst.set (by omega) h1 h2 h3 h4⟩
theorem kV_same {l l1 : List Nd} {k : Nat} {x : Nd} (hl : l.set k x = l1) (h : x.kV = (l.getD k Nd.nil).kV) : l1.map Nd.kV = l.map Nd.kV := by
  subst hl
  exact map_set_same (d := Nd.nil) Nd.kV h
theorem wV_same {l l1 : List Nd} {k : Nat} {x : Nd} (hl : l.set k x = l1) (h : x.wV = (l.getD k Nd.nil).wV) : l1.map Nd.wV = l.map Nd.wV := by
  subst hl
  exact map_set_same (d := Nd.nil) Nd.wV h
end Go.Proofs.YtfcpmcdlgkfolaaDoor.Hier
