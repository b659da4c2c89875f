/- Lists of numbers in memory, for gps. -/
import Derived.Test.YtpknjfeiiaopgaaGpN
namespace Go.Proofs.Ytpknjfeiiaopgaa.Gps
open Go.RowKit Go.Proofs.Ytpknjfeiiaopgaa.E Go.Proofs.Ytpknjfeiiaopgaa.Big Go.Proofs.Ytpknjfeiiaopgaa.Frac

theorem res0 {P : Program} {N : Nat} {w0 : World} {F : Frm} {L : List Res} {fn : Func} (hf : fn.results = #[]) : ∀ a w, Fr N a F → St w0 w L → (results fn a.tmps).run P w = .ok (.tuple #[]) w := fun a w _ _ => by
  simp [results, hf]
theorem getG {zs : List Int} {i : Nat} (h : i < zs.length) : (zs.map (Value.int .i64))[i]? = some (.int .i64 (gI zs i)) := by
  rw [List.getElem?_map, List.getElem?_eq_getElem h, gI_lt h]; rfl
theorem okk_succ {bs ws : List Int} {i : Nat} : (∀ j, j < i + 1 → okk bs ws j) ↔ (∀ j, j < i → okk bs ws j) ∧ okk bs ws i := by
  constructor
  · intro h
    exact ⟨fun j hj => h j (by omega), h i (by omega)⟩
  · rintro ⟨h1, h2⟩ j hj
    by_cases e : j = i
    · rw [e]; exact h2
    · exact h1 j (by omega)
def eL (bs ws : List Int) (n i : Nat) : List Int := (List.range i).map (eN bs ws n)
theorem eL_succ {bs ws : List Int} {n i : Nat} : eL bs ws n (i + 1) = eL bs ws n i ++ [eN bs ws n i] := by simp [eL, List.range_succ]
theorem eL_len {bs ws : List Int} {n i : Nat} : (eL bs ws n i).length = i := by simp [eL]
theorem gI_eL {bs ws : List Int} {n i k : Nat} (h : k < i) : gI (eL bs ws n i) k = eN bs ws n k := by
  rw [gI_lt (by rw [eL_len]; exact h)]
  simp [eL]
theorem cI_app (l : List Int) (x : Int) : cI l ++ [(.int .i64 x)] = cI (l ++ [x]) := by simp [cI]
/-- Numbers of flows. -/
def cN (l : List Nat) : List Value := l.map fun (k : Nat) => (.int .i64 ((k : Int)))
theorem cN_len {l : List Nat} : (cN l).length = l.length := by simp [cN]
theorem cN_set {l : List Nat} {i v : Nat} : (cN l).set i (.int .i64 ((v : Int))) = cN (l.set i v) := by simp [cN, List.map_set]
theorem getN {l : List Nat} {i : Nat} (h : i < l.length) : (cN l)[i]? = some (.int .i64 ((gN l i : Int))) := by
  simp [cN, gN, List.getD_eq_getElem?_getD, h]
def fillN (n k : Nat) : List Value := (List.range n).map fun (j : Nat) => if j < k then (.int .i64 ((j : Int))) else (.int .i64 0)
theorem fillN_zero {n : Nat} : List.replicate n (.int .i64 0) = fillN n 0 := by
  apply List.ext_getElem
  · simp [fillN]
  · intro k h1 h2
    simp [fillN]
theorem fillN_all {n : Nat} : fillN n n = cN (List.range n) := List.map_congr_left fun k hk => by
  have := List.mem_range.1 hk
  rw [if_pos this]
theorem fillN_set {n i : Nat} (hi : i < n) : (fillN n i).set i (.int .i64 ((i : Int))) = fillN n (i + 1) := by
  apply List.ext_getElem
  · simp [fillN]
  · intro k h1 h2
    simp only [fillN, List.getElem_set, List.getElem_map, List.getElem_range]
    by_cases e : i = k
    · subst e
      rw [if_pos rfl, if_pos (by omega)]
    · rw [if_neg e]
      by_cases h : k < i
      · rw [if_pos h, if_pos (by omega)]
      · rw [if_neg h, if_neg (by omega)]
theorem gI_set {l : List Int} {i j : Nat} {v : Int} (hi : i < l.length) : gI (l.set i v) j = if j = i then v else gI l j := by
  unfold gI
  rw [List.getD_eq_getElem?_getD, List.getElem?_set]
  by_cases h : j = i
  · subst h; simp [hi]
  · rw [if_neg (fun e => h e.symm), if_neg h]; simp [List.getD_eq_getElem?_getD]
theorem cI_set (us : List Int) (k : Nat) (v : Int) : (cI us).set k (.int .i64 v) = cI (us.set k v) := by simp [cI, List.map_set]
theorem PO_set (lb : List (Option Nat)) (k b : Nat) : (lb.map PO).set k (P b) = (lb.set k (some b)).map PO := by
  rw [List.map_set]; rfl
section
variable {bs ws : List Int} {n j k q : Nat} {bv wv : Int}
theorem end_eq (hwk : 0 < gI ws j) (hv : 0 < wv) (he : gI bs j * wv = gI ws j * bv) : eN bs ws n j * wv = had (gI bs) (gI ws) bv wv n * gI ws j := by
  have h := had_at (b := gI bs) (w := gI ws) (n := n) hwk hv he
  unfold eN
  rw [Int.mul_comm _ wv, ← h, Int.mul_comm]
theorem lft_bd (h : Rg n bs ws) (hk : k < n) (h0 : 0 < wv) (h1 : wv ≤ 1000) (hb : 0 ≤ bv) (hl : gI ws k * bv ≤ gI bs k * wv) : 0 ≤ gI bs k * wv - gI ws k * bv ∧ gI bs k * wv - gI ws k * bv ≤ 1048576000 := by
  have g1 := (h.ok k hk).1
  have g2 := (h.ok k hk).2
  have g3 := mul_in g1.1 g1.2 (Int.le_of_lt h0) h1
  have g4 := Int.mul_nonneg (show 0 ≤ gI ws k by omega) hb
  omega
theorem nxt_bd (h : Rg n bs ws) (hq : Nxt (gI bs) (gI ws) bv wv j q) (hj : j ≤ n) (h0 : 0 < wv) (h1 : wv ≤ 1000) (hb : 0 ≤ bv) : 0 ≤ gI bs q * wv - gI ws q * bv ∧ gI bs q * wv - gI ws q * bv ≤ 1048576000 := by
  have := hq.no
  have := hq.lt
  unfold fin at *
  exact lft_bd h (by omega) h0 h1 hb (by omega)
theorem now_eq (hw : ∀ i, i < n → 0 < gI ws i ∧ gI ws i ≤ 1000) (hv : 0 < wv) (hq : Nxt (gI bs) (gI ws) bv wv n q) : had (gI bs) (gI ws) (gI bs q) (gI ws q) n * (wv * (wv * gI ws q * 1)) = (had (gI bs) (gI ws) bv wv n * (wv * gI ws q * 1) + (gI bs q * wv - gI ws q * bv) * wsum (gI bs) (gI ws) bv wv n * wv) * gI ws q := by
  have h := had_next (fun i hi => (hw i hi).1) hv hq
  generalize had (gI bs) (gI ws) (gI bs q) (gI ws q) n = X at *
  generalize had (gI bs) (gI ws) bv wv n = Y at *
  generalize wsum (gI bs) (gI ws) bv wv n = Z at *
  generalize gI ws q = a at *
  generalize gI bs q = b at *
  grind
theorem left_eq (bk wk bq wq bv wv : Int) : (bk * wq - wk * bq) * (wv * (wv * wq * 1)) = ((bk * wv - wk * bv) * (wv * wq * 1) - (bq * wv - wq * bv) * wk * wv) * wq := by grind
theorem mo_zero {es es' : List Ent} {lb : List (Option Nat)} {nw : Nat} {e : Nat → Int} (h : Rg n bs ws) (hl : Li es (gI bs) n n lb) (h0 : Q es' nw 0 ∧ More es es' ∧ New es nw) : Mo es' n lb (List.replicate n none) e (gI ws) (fun i => mkRat (gI bs i * 1 - gI ws i * 0) (1 : Int).toNat) nw (mkRat (had (gI bs) (gI ws) 0 1 n) (1 : Int).toNat) := by
  refine ⟨hl.len, by simp, hl.inj, fun k hk => ?_, fun k hk p hp => ?_, ?_⟩
  · obtain ⟨p, h1, h2⟩ := hl.at_ k hk
    exact ⟨p, _, h1, h0.2.1 _ _ h2, h0.2.2 _ _ h2, fun _ => by simp⟩
  · rw [gO_none] at hp; cases hp
  · have hz : had (gI bs) (gI ws) 0 1 n = 0 := by
      unfold had
      rw [sm_congr (g := fun _ => 0) (fun i hi => by have := (h.ok i hi).1; omega)]
      clear hl h
      induction n with
      | zero => rfl
      | succ n ih => simp [sm, ih]
    rw [hz, show mkRat 0 (1 : Int).toNat = 0 from Rat.zero_mkRat _]
    exact h0.1
theorem rd_zero (h : Rg n bs ws) : Rd' n (List.replicate n none) (gI bs) (gI ws) 0 1 :=
  ⟨by decide, by decide, fun k hk _ => by have := (h.ok k hk).1; omega, fun k _ h9 => absurd (gO_none n k) h9⟩
end
theorem cmpv_self {a d : Int} : cmpv a d a d = 0 := by
  unfold cmpv
  rw [if_neg (by omega), if_neg (by omega)]
theorem lt_cmp {bs ws : List Int} {n a k : Nat} (ha : a < n) (hk : k < n) (h : Lt (gI (eL bs ws n n)) (gI ws) a k) : cmpv (eN bs ws n a) (gI ws a) (eN bs ws n k) (gI ws k) = -1 ∨ (cmpv (eN bs ws n a) (gI ws a) (eN bs ws n k) (gI ws k) = 0 ∧ a < k) := by
  unfold Lt at h
  rw [gI_eL ha, gI_eL hk] at h
  unfold cmpv
  rcases h with h | ⟨h, h2⟩
  · exact .inl (if_pos h)
  · exact .inr ⟨by rw [if_neg (by omega), if_neg (by omega)], h2⟩
def gB (l : List Bool) (k : Nat) : Bool := l.getD k true
theorem getB {l : List Bool} {k : Nat} {b : Bool} (hk : k < l.length) (h : gB l k = b) : (l.map Value.bool)[k]? = some (.bool b) := by
  rw [← h]
  simp [gB, List.getD_eq_getElem?_getD, hk]
theorem gB_set {l : List Bool} {i j : Nat} {v : Bool} (hi : i < l.length) : gB (l.set i v) j = if j = i then v else gB l j := by
  unfold gB
  rw [List.getD_eq_getElem?_getD, List.getElem?_set]
  by_cases h : j = i
  · subst h; simp [hi]
  · rw [if_neg (fun e => h e.symm), if_neg h]; simp [List.getD_eq_getElem?_getD]
theorem gB_rep {n k : Nat} (h : k < n) : gB (List.replicate n false) k = false := by simp [gB, List.getD_eq_getElem?_getD, h]
end Go.Proofs.Ytpknjfeiiaopgaa.Gps
