/- The reference's way from one moment to the next one: what is held meanwhile. -/
import Derived.Test.YtpknjfeiiaopgaaGpQ
import Derived.Test.YtpknjfeiiaopgaaFlO
namespace Go.Proofs.Ytpknjfeiiaopgaa.Gps
open Go.RowKit Go.Proofs.Ytpknjfeiiaopgaa.E Go.Proofs.Ytpknjfeiiaopgaa.Big Go.Proofs.Ytpknjfeiiaopgaa.Frac

def PO : Option Nat → Value
  | none => .pointer none
  | some b => P b
def gO (l : List (Option Nat)) (k : Nat) : Option Nat := l.getD k none
theorem PO_get {l : List (Option Nat)} {k : Nat} (h : k < l.length) : (l.map PO)[k]? = some (PO (gO l k)) := by simp [gO, List.getD_eq_getElem?_getD, h]
theorem PO_at {l : List (Option Nat)} {k p : Nat} (h : gO l k = some p) : (l.map PO)[k]? = some (P p) := by
  have hk : k < l.length := by
    refine Nat.lt_of_not_le fun h9 => ?_
    simp [gO, List.getD_eq_getElem?_getD, h9] at h
  rw [PO_get hk, h]; rfl
theorem PO_no {l : List (Option Nat)} {k : Nat} (hk : k < l.length) (h : gO l k = none) : (l.map PO)[k]? = some (.pointer none) := by
  rw [PO_get hk, h]; rfl
theorem gO_set {l : List (Option Nat)} {i j : Nat} {v : Option Nat} (hi : i < l.length) : gO (l.set i v) j = if j = i then v else gO l j := by
  unfold gO
  rw [List.getD_eq_getElem?_getD, List.getElem?_set]
  by_cases h : j = i
  · subst h; simp [hi]
  · rw [if_neg (fun e => h e.symm), if_neg h]; simp [List.getD_eq_getElem?_getD]
theorem gO_none (n k : Nat) : gO (List.replicate n none) k = none := by
  unfold gO
  rw [List.getD_eq_getElem?_getD, List.getElem?_replicate]
  split <;> rfl
section
variable {P' : Program} {N : Nat} {w0 : World} {F : Frm} {L : List Res} {d : Option Tmp} {x y : Operand} {ty t t' : TypeId} {pos : String} {af : Array Edge} {gd : Option (Nat × Bool)} {o : Option Nat} {b : Nat} {v v' : Value}
theorem fe_v (h : v = v') (hx : FE N F x v) : FE N F x v' := h ▸ hx
theorem y_eqO {e : TypeId} (hu : P'.underlying t = some (.pointer e)) (hx : FE N F x (PO o)) (hy : FE N F y (.pointer none)) : Yld P' N w0 F L ⟨d, .binOp .eql t x y t', ty, pos, af, gd⟩ (.bool o.isNone) :=
  y_binop hx hy fun w => by
    have hp : P'.pointee t = e := by simp [Program.pointee, hu]
    rw [← hp] at hu
    cases o <;> simp [PO, eqGuard, binOp, run_equal_pointer_nil w t _ hu]
theorem y_neO {e : TypeId} (hu : P'.underlying t = some (.pointer e)) (hx : FE N F x (PO o)) (hy : FE N F y (.pointer none)) : Yld P' N w0 F L ⟨d, .binOp .neq t x y t', ty, pos, af, gd⟩ (.bool (!o.isNone)) :=
  y_binop hx hy fun w => by
    have hp : P'.pointee t = e := by simp [Program.pointee, hu]
    rw [← hp] at hu
    cases o <;> simp [PO, eqGuard, binOp, run_equal_pointer_nil w t _ hu]
theorem y_neT {e : TypeId} (hu : P'.underlying t = some (.pointer e)) (hx : FE N F x (P b)) (hy : FE N F y (.pointer none)) : Yld P' N w0 F L ⟨d, .binOp .neq t x y t', ty, pos, af, gd⟩ (.bool true) := y_neO (o := some b) hu hx hy
theorem y_neF {e : TypeId} (hu : P'.underlying t = some (.pointer e)) (hx : FE N F x (.pointer none)) (hy : FE N F y (.pointer none)) : Yld P' N w0 F L ⟨d, .binOp .neq t x y t', ty, pos, af, gd⟩ (.bool false) := y_neO (o := none) hu hx hy
end
/-- The first ones have begun. -/
structure Li (es : List Ent) (b : Nat → Int) (n k : Nat) (lb : List (Option Nat)) : Prop where
  len : lb.length = n
  at_ : ∀ i, i < k → ∃ p, gO lb i = some p ∧ Q es p (mkRat (b i) (1 : Int).toNat)
  inj : ∀ i j, i < k → j < k → gO lb i = gO lb j → i = j
theorem Li.zero (es : List Ent) (b : Nat → Int) (n : Nat) : Li es b n 0 (List.replicate n none) := ⟨by simp, fun i h => by omega, fun i j h => by omega⟩
theorem Li.step {es es' : List Ent} {b : Nat → Int} {n k p : Nat} {lb : List (Option Nat)} (h : Li es b n k lb) (hk : k < n) (h1 : Q es' p (mkRat (b k) (1 : Int).toNat) ∧ More es es' ∧ New es p) : Li es' b n (k + 1) (lb.set k (some p)) := by
  have hl := h.len
  have hne : ∀ i, i < k → gO lb i ≠ some p := fun i hi e => by
    obtain ⟨q, g1, g2⟩ := h.at_ i hi
    have := h1.2.2 q _ g2
    rw [g1] at e; cases e
    exact this rfl
  refine ⟨by simp [hl], fun i hi => ?_, fun i j hi hj e => ?_⟩
  · rw [gO_set (by omega)]
    by_cases e : i = k
    · rw [if_pos e, e]; exact ⟨p, rfl, h1.1⟩
    · rw [if_neg e]
      obtain ⟨q, g1, g2⟩ := h.at_ i (by omega)
      exact ⟨q, g1, h1.2.1 _ _ g2⟩
  · rw [gO_set (by omega), gO_set (by omega)] at e
    by_cases e1 : i = k <;> by_cases e2 : j = k
    · omega
    · rw [if_pos e1, if_neg e2] at e; exact absurd e.symm (hne j (by omega))
    · rw [if_neg e1, if_pos e2] at e; exact absurd e (hne i (by omega))
    · rw [if_neg e1, if_neg e2] at e; exact h.inj i j (by omega) (by omega) e
/-- What each has still (lb), when each one was done (eb), what time it is (nw). -/
structure Mo (es : List Ent) (n : Nat) (lb eb : List (Option Nat)) (e w : Nat → Int) (lv : Nat → Rat) (nw : Nat) (zn : Rat) : Prop where
  ll : lb.length = n
  el : eb.length = n
  inj : ∀ i j, i < n → j < n → gO lb i = gO lb j → i = j
  lat : ∀ k, k < n → ∃ p x, gO lb k = some p ∧ Q es p x ∧ p ≠ nw ∧ (gO eb k = none → x = lv k)
  eat : ∀ k, k < n → ∀ p, gO eb k = some p → Q es p (mkRat (e k) (w k).toNat) ∧ ∀ j, j < n → gO lb j ≠ some p
  now : Q es nw zn
section
variable {es es' : List Ent} {n k nw p : Nat} {lb eb : List (Option Nat)} {e w : Nat → Int} {lv lv' : Nat → Rat} {zn : Rat}
theorem Mo.more (h : Mo es n lb eb e w lv nw zn) (hm : More es es') : Mo es' n lb eb e w lv nw zn :=
  ⟨h.ll, h.el, h.inj, fun k hk => by
    obtain ⟨p, x, h1, h2, h3⟩ := h.lat k hk
    exact ⟨p, x, h1, hm _ _ h2, h3⟩, fun k hk p hp => ⟨hm _ _ (h.eat k hk p hp).1, (h.eat k hk p hp).2⟩, hm _ _ h.now⟩
theorem Mo.nl (h : Mo es n lb eb e w lv nw zn) (hn : New es p) : ∀ j, j < n → gO lb j ≠ some p := fun j hj e => by
  obtain ⟨q, x, h1, h2, _⟩ := h.lat j hj
  rw [h1] at e; cases e
  exact hn _ _ h2 rfl
theorem Mo.fin (h : Mo es n lb eb e w lv nw zn) (hk : k < n) (hp : Q es p (mkRat (e k) (w k).toNat)) (hn : ∀ j, j < n → gO lb j ≠ some p) : Mo es n lb (eb.set k (some p)) e w lv nw zn := by
  have hl := h.el
  refine ⟨h.ll, by simp [hl], h.inj, fun j hj => ?_, fun j hj q hq => ?_, h.now⟩
  · obtain ⟨q, x, h1, h2, h3, h4⟩ := h.lat j hj
    refine ⟨q, x, h1, h2, h3, fun h9 => h4 ?_⟩
    rw [gO_set (by omega)] at h9
    split at h9
    · cases h9
    · exact h9
  · rw [gO_set (by omega)] at hq
    split at hq
    · rename_i e1
      cases hq
      rw [e1]
      exact ⟨hp, hn⟩
    · exact h.eat j hj q hq
theorem Mo.turn {nw' : Nat} {zn' : Rat} (h : Mo es n lb eb e w lv nw zn) (hq : Q es nw' zn') (hn : ∀ j, j < n → gO lb j ≠ some nw') : Mo es n lb eb e w lv nw' zn' :=
  ⟨h.ll, h.el, h.inj, fun k hk => by
    obtain ⟨p, x, h1, h2, _, h4⟩ := h.lat k hk
    exact ⟨p, x, h1, h2, fun e => hn k hk (by rw [h1, e]), h4⟩, h.eat, hq⟩
theorem Mo.congr (h : Mo es n lb eb e w lv nw zn) (hv : ∀ k, k < n → gO eb k = none → lv k = lv' k) : Mo es n lb eb e w lv' nw zn :=
  ⟨h.ll, h.el, h.inj, fun k hk => by
    obtain ⟨p, x, h1, h2, h3, h4⟩ := h.lat k hk
    exact ⟨p, x, h1, h2, h3, fun h9 => (h4 h9).trans (hv k hk h9)⟩, h.eat, h.now⟩
theorem Mo.put {lk : Nat} {v : Rat} (h : Mo es n lb eb e w lv nw zn) (hk : k < n) (hlk : gO lb k = some lk) (hv : Q es' lk v) (hb : But es es' lk) : Mo es' n lb eb e w (fun i => if i = k then v else lv i) nw zn := by
  refine ⟨h.ll, h.el, h.inj, fun j hj => ?_, fun j hj q hq => ?_, hb _ _ ?_ h.now⟩
  · obtain ⟨p, x, h1, h2, h3, h4⟩ := h.lat j hj
    by_cases e1 : j = k
    · subst e1
      rw [hlk] at h1; cases h1
      exact ⟨lk, v, hlk, hv, h3, fun _ => by rw [if_pos rfl]⟩
    · have hne : p ≠ lk := fun e2 => e1 (h.inj j k hj hk (by rw [h1, e2, hlk]))
      exact ⟨p, x, h1, hb _ _ hne h2, h3, fun h9 => by rw [if_neg e1]; exact h4 h9⟩
  · obtain ⟨h1, h2⟩ := h.eat j hj q hq
    exact ⟨hb _ _ (fun e2 => h2 k hk (by rw [hlk, e2])) h1, h2⟩
  · obtain ⟨p, x, h1, h2, h3, _⟩ := h.lat k hk
    rw [hlk] at h1; cases h1
    exact fun e2 => h3 e2.symm
end
/-- Who is done, and who is not. -/
structure Rd' (n : Nat) (eb : List (Option Nat)) (b w : Nat → Int) (bv wv : Int) : Prop where
  wp : 0 < wv ∧ wv ≤ 1000
  bp : 0 ≤ bv ∧ bv ≤ 1048576
  a : ∀ k, k < n → gO eb k = none → w k * bv ≤ b k * wv
  c : ∀ k, k < n → gO eb k ≠ none → fin b w bv wv k
section
variable {es es' : List Ent} {n k j q p : Nat} {lb eb : List (Option Nat)} {b w : Nat → Int} {bv wv : Int} {nx : Option Nat}
theorem Rd'.fin (h : Rd' n eb b w bv wv) (hl : eb.length = n) (hk : k < n) (hf : fin b w bv wv k) : Rd' n (eb.set k (some p)) b w bv wv := by
  refine ⟨h.wp, h.bp, fun j hj h9 => ?_, fun j hj h9 => ?_⟩
  · rw [gO_set (by omega)] at h9
    split at h9
    · cases h9
    · exact h.a j hj h9
  · rw [gO_set (by omega)] at h9
    split at h9
    · rename_i e; rw [e]; exact hf
    · exact h.c j hj h9
/-- The next moment, as far as it is known. -/
def Nx (es : List Ent) (n : Nat) (lb : List (Option Nat)) (b w : Nat → Int) (bv wv : Int) (j : Nat) (nx : Option Nat) (q : Nat) : Prop :=
  (nx = none ∧ ∀ i, i < j → fin b w bv wv i) ∨ ∃ p, nx = some p ∧ Nxt b w bv wv j q ∧ Q es p (mkRat (b q * wv - w q * bv) (wv * w q).toNat) ∧ ∀ k, k < n → gO lb k ≠ some p
theorem Nx.more (h : Nx es n lb b w bv wv j nx q) (hm : More es es') : Nx es' n lb b w bv wv j nx q := by
  rcases h with h | ⟨p, h1, h2, h3, h4⟩
  · exact .inl h
  · exact .inr ⟨p, h1, h2, hm _ _ h3, h4⟩
theorem Nx.some (h : Nx es n lb b w bv wv j nx q) (hn : nx.isNone = false) : ∃ p, nx = some p ∧ Nxt b w bv wv j q ∧ Q es p (mkRat (b q * wv - w q * bv) (wv * w q).toNat) ∧ ∀ k, k < n → gO lb k ≠ Option.some p := by
  rcases h with ⟨h, _⟩ | h
  · rw [h] at hn; cases hn
  · exact h
theorem Nx.none (h : Nx es n lb b w bv wv j nx q) (hn : nx.isNone = true) : nx = none ∧ ∀ i, i < j → Gps.fin b w bv wv i := by
  rcases h with h | ⟨p, h, _⟩
  · exact h
  · rw [h] at hn; cases hn
theorem Nx.pass (h : Nx es n lb b w bv wv j nx q) (hf : Gps.fin b w bv wv j) : Nx es n lb b w bv wv (j + 1) nx q := by
  rcases h with ⟨h1, h2⟩ | ⟨p, h1, h2, h3, h4⟩
  · refine .inl ⟨h1, fun i hi => ?_⟩
    by_cases e : i = j
    · rw [e]; exact hf
    · exact h2 i (by omega)
  · refine .inr ⟨p, h1, ⟨by have := h2.lt; omega, h2.no, fun i hi hn => ?_⟩, h3, h4⟩
    by_cases e : i = j
    · rw [e] at hn; exact absurd hf hn
    · exact h2.le i (by omega) hn
theorem Nx.keep (h : Nx es n lb b w bv wv j nx q) (hn : nx.isNone = false) (hl : b q * w j ≤ b j * w q) : Nx es n lb b w bv wv (j + 1) nx q := by
  obtain ⟨p, h1, h2, h3, h4⟩ := h.some hn
  refine .inr ⟨p, h1, ⟨by have := h2.lt; omega, h2.no, fun i hi hn => ?_⟩, h3, h4⟩
  by_cases e : i = j
  · rw [e]; exact hl
  · exact h2.le i (by omega) hn
theorem Nx.take (h : Nx es n lb b w bv wv j nx q) (hw : ∀ i, i ≤ j → 0 < w i) (hf : ¬ Gps.fin b w bv wv j) (hl : nx.isNone = true ∨ (nx.isNone = false ∧ b j * w q ≤ b q * w j)) (hp : Q es p (mkRat (b j * wv - w j * bv) (wv * w j).toNat)) (hnl : ∀ k, k < n → gO lb k ≠ Option.some p) : Nx es n lb b w bv wv (j + 1) (Option.some p) j := by
  refine .inr ⟨p, rfl, ⟨by omega, hf, fun i hi hn => ?_⟩, hp, hnl⟩
  by_cases e : i = j
  · rw [e]; exact Int.le_refl _
  · rcases hl with h1 | ⟨h1, h2⟩
    · exact absurd ((h.none h1).2 i (by omega)) hn
    · obtain ⟨p', g1, g2, _, _⟩ := h.some h1
      have g3 := g2.le i (by omega) hn
      have hq := hw q (by have := g2.lt; omega)
      have m1 := Int.mul_le_mul_of_nonneg_right h2 (Int.le_of_lt (hw i (by omega)))
      have m2 := Int.mul_le_mul_of_nonneg_right g3 (Int.le_of_lt (hw j (by omega)))
      have e1 : b j * w q * w i = b j * w i * w q := by grind
      have e2 : b q * w j * w i = b q * w i * w j := by grind
      have e3 : b i * w q * w j = b i * w j * w q := by grind
      exact Int.le_of_mul_le_mul_right (show b j * w i * w q ≤ b i * w j * w q by omega) hq
theorem cmp_next (hv : 0 < wv) : (cmpv (b j * wv - w j * bv) (wv * w j) (b q * wv - w q * bv) (wv * w q) < 0 ↔ b j * w q < b q * w j) := by
  have e : (b j * wv - w j * bv) * (wv * w q) - (b q * wv - w q * bv) * (wv * w j) = wv * wv * (b j * w q - b q * w j) := by grind
  have hp : 0 < wv * wv := Int.mul_pos hv hv
  unfold cmpv
  constructor
  · intro h
    have h1 : (b j * wv - w j * bv) * (wv * w q) < (b q * wv - w q * bv) * (wv * w j) := by
      split at h
      · assumption
      · split at h <;> omega
    refine Int.lt_of_not_ge fun h2 => ?_
    have := Int.mul_nonneg (Int.le_of_lt hp) (show 0 ≤ b j * w q - b q * w j by omega)
    omega
  · intro h
    have h1 : (b j * wv - w j * bv) * (wv * w q) < (b q * wv - w q * bv) * (wv * w j) := by
      have := Int.mul_pos hp (show 0 < b q * w j - b j * w q by omega)
      have e2 : wv * wv * (b q * w j - b j * w q) = -(wv * wv * (b j * w q - b q * w j)) := by grind
      omega
    rw [if_pos h1]
    decide
theorem rd_next (h : Rd' n eb b w bv wv) (hun : ∀ i, i < n → gO eb i = none → ¬ Gps.fin b w bv wv i) (hb : ∀ i, i < n → 0 ≤ b i ∧ b i ≤ 1048576) (hw : ∀ i, i < n → 0 < w i ∧ w i ≤ 1000) (hq : Nxt b w bv wv n q) : Rd' n eb b w (b q) (w q) :=
  ⟨hw q hq.lt, hb q hq.lt, fun k hk h9 => by
    have := hq.le k hk (hun k hk h9)
    rw [Int.mul_comm (w k)]; exact this, fun k hk h9 => fin_next (fun i hi => (hw i hi).1) h.wp.1 hq hk (h.c k hk h9)⟩
theorem wsum_bd (hw : ∀ i, i < n → 0 < w i ∧ w i ≤ 1000) (h16 : n ≤ 16) : ∀ {m : Nat}, m ≤ n → 0 ≤ wsum b w bv wv m ∧ wsum b w bv wv m ≤ 16000 := fun {m} hm => by
  have h1 := sm_bd (f := fun i => if Gps.fin b w bv wv i then 0 else w i) (B := 1000) (n := m) (fun i hi => by
    have := hw i (by omega)
    split <;> omega)
  unfold wsum
  omega
theorem wsum_fin (hf : Gps.fin b w bv wv j) : wsum b w bv wv j = wsum b w bv wv (j + 1) := by
  unfold wsum
  simp only [sm]
  rw [if_pos hf]; omega
theorem wsum_not (hf : ¬ Gps.fin b w bv wv j) : wsum b w bv wv j + w j = wsum b w bv wv (j + 1) := by
  unfold wsum
  simp only [sm]
  rw [if_neg hf]
theorem had_bd (hb : ∀ i, i < n → 0 ≤ b i ∧ b i ≤ 1048576) (hw : ∀ i, i < n → 0 < w i ∧ w i ≤ 1000) (h16 : n ≤ 16) (hwv : 0 < wv ∧ wv ≤ 1000) (hbv : 0 ≤ bv ∧ bv ≤ 1048576) : 0 ≤ had b w bv wv n ∧ had b w bv wv n ≤ 16777216000 := by
  have h1 := sm_bd (f := fun i => min (b i * wv) (w i * bv)) (B := 1048576000) (n := n) (fun i hi => by
    have h2 := mul_in (hb i hi).1 (hb i hi).2 (show 0 ≤ wv by omega) hwv.2
    have h3 := mul_in (show 0 ≤ w i by have := hw i hi; omega) (hw i hi).2 hbv.1 hbv.2
    omega)
  unfold had
  omega
end
end Go.Proofs.Ytpknjfeiiaopgaa.Gps
