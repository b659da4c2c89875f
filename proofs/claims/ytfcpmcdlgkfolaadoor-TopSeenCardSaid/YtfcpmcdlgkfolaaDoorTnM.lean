/- The sketch, plain: where it counts, and that it sees the greatest. -/
import Derived.Test.YtfcpmcdlgkfolaaDoorBigM
import Derived.Test.YtfcpmcdlgkfolaaDoorSlideM
namespace Go.Proofs.YtfcpmcdlgkfolaaDoor.Big
/-- The exclusive or of two that are not below 0. -/
def xr (a b : Int) : Int := ((a.toNat ^^^ b.toNat : Nat) : Int)
theorem xr_zero {a : Int} (h : 0 ≤ a) : xr a 0 = a := by unfold xr; simp; omega
theorem xr_nonneg (a b : Int) : 0 ≤ xr a b := by unfold xr; omega
theorem xr_lt {a b : Int} (k : Nat) (ha : 0 ≤ a ∧ a < 2 ^ k) (hb : 0 ≤ b ∧ b < 2 ^ k) : xr a b < 2 ^ k := by
  have c : ((2 ^ k : Nat) : Int) = 2 ^ k := by rw [Int.natCast_pow]; rfl
  unfold xr
  have := Nat.xor_lt_two_pow (x := a.toNat) (y := b.toNat) (n := k) (by omega) (by omega)
  omega
theorem xr_split {a b x y : Int} (ha : 0 ≤ a ∧ a < 4294967296) (hb : 0 ≤ b ∧ b < 4294967296) (hx : 0 ≤ x) (hy : 0 ≤ y) : xr (a + 4294967296 * x) (b + 4294967296 * y) = xr a b + 4294967296 * xr x y := by
  obtain ⟨a, rfl⟩ := Int.eq_ofNat_of_zero_le ha.1
  obtain ⟨b, rfl⟩ := Int.eq_ofNat_of_zero_le hb.1
  obtain ⟨x, rfl⟩ := Int.eq_ofNat_of_zero_le hx
  obtain ⟨y, rfl⟩ := Int.eq_ofNat_of_zero_le hy
  unfold xr
  have e1 : ((a : Int) + 4294967296 * (x : Int)).toNat = a + 4294967296 * x := by omega
  have e2 : ((b : Int) + 4294967296 * (y : Int)).toNat = b + 4294967296 * y := by omega
  rw [e1, e2]
  simp only [Int.toNat_natCast]
  have h1 := Nat.xor_mod_two_pow (a := a + 4294967296 * x) (b := b + 4294967296 * y) (n := 32)
  have h2 := Nat.xor_div_two_pow (a := a + 4294967296 * x) (b := b + 4294967296 * y) (n := 32)
  rw [show 2 ^ 32 = 4294967296 from rfl] at h1 h2
  rw [show (a + 4294967296 * x) % 4294967296 = a by omega, show (b + 4294967296 * y) % 4294967296 = b by omega] at h1
  rw [show (a + 4294967296 * x) / 4294967296 = x by omega, show (b + 4294967296 * y) / 4294967296 = y by omega] at h2
  omega
/-- Digit by digit, the first list being the longer one. -/
def xrl : List Int → List Int → List Int
  | a :: x, b :: y => xr a b :: xrl x y
  | x, [] => x
  | [], _ => []
theorem xrl_nil (x : List Int) : xrl x [] = x := by cases x <;> rfl
theorem xrl_len : ∀ x y : List Int, (xrl x y).length = x.length
  | a :: x, b :: y => by simp [xrl, xrl_len x y]
  | x, [] => by rw [xrl_nil]
  | [], _ :: _ => rfl
theorem xrl_dig : ∀ {x y : List Int}, Dig x → Dig y → Dig (xrl x y)
  | a :: x, b :: y, hx, hy => by
    intro d hd
    simp only [xrl, List.mem_cons] at hd
    rcases hd with rfl | hd
    · have h1 := hx a (List.mem_cons_self ..)
      have h2 := hy b (List.mem_cons_self ..)
      exact ⟨xr_nonneg _ _, xr_lt 32 h1 h2⟩
    · exact xrl_dig (fun d h => hx d (List.mem_cons_of_mem _ h)) (fun d h => hy d (List.mem_cons_of_mem _ h)) d hd
  | x, [], hx, _ => by rw [xrl_nil]; exact hx
  | [], _ :: _, hx, _ => hx
theorem xrl_val : ∀ {x y : List Int}, Dig x → Dig y → y.length ≤ x.length → dval (xrl x y) = xr (dval x) (dval y)
  | a :: x, b :: y, hx, hy, hl => by
    have h1 := hx a (List.mem_cons_self ..)
    have h2 := hy b (List.mem_cons_self ..)
    have g1 : Dig x := fun d h => hx d (List.mem_cons_of_mem _ h)
    have g2 : Dig y := fun d h => hy d (List.mem_cons_of_mem _ h)
    simp only [xrl, dval]
    rw [xrl_val g1 g2 (by simpa using hl), xr_split h1 h2 (dval_nonneg g1) (dval_nonneg g2)]
  | x, [], hx, _, _ => by
    rw [xrl_nil, show dval [] = 0 from rfl, xr_zero (dval_nonneg hx)]
  | [], b :: y, _, _, hl => by simp at hl
theorem xrl_get : ∀ {x y : List Int} {k : Nat} (h1 : k < x.length) (h2 : y.length ≤ k), (xrl x y)[k]'(by rw [xrl_len]; exact h1) = x[k]
  | a :: x, b :: y, 0, _, h2 => by simp at h2
  | a :: x, b :: y, k + 1, h1, h2 => by
    simp only [xrl, List.getElem_cons_succ]
    exact xrl_get (by simpa using h1) (by simpa using h2)
  | x, [], k, _, _ => by simp only [xrl_nil]
theorem xrl_set : ∀ {x y : List Int} {k : Nat} (h1 : k < x.length) (h2 : k < y.length), (xrl x (y.take k)).set k (xr x[k] y[k]) = xrl x (y.take (k + 1))
  | a :: x, b :: y, 0, _, _ => by
    simp only [List.take_zero, xrl_nil, List.set_cons_zero, List.getElem_cons_zero, List.take_succ_cons, xrl, xrl_nil]
  | a :: x, b :: y, k + 1, h1, h2 => by
    simp only [List.take_succ_cons, xrl, List.set_cons_succ, List.getElem_cons_succ]
    rw [xrl_set (by simpa using h1) (by simpa using h2)]
theorem xr_comm (a b : Int) : xr a b = xr b a := by unfold xr; rw [Nat.xor_comm]
/-- Where somebody is counted in a row. -/
def mix1 (row id : Int) : Int := id * (2 * row + 11400714819323198485) % 18446744073709551616
def mix2 (row id : Int) : Int := xr (mix1 row id) (mix1 row id / 536870912)
def mix3 (row id : Int) : Int := mix2 row id * 13787848793156543929 % 18446744073709551616
def spot (row width id : Int) : Int := mix3 row id / 8589934592 % width
theorem mix1_bd (row id : Int) : 0 ≤ mix1 row id ∧ mix1 row id < 18446744073709551616 := by unfold mix1; omega
theorem mix2_bd (row id : Int) : 0 ≤ mix2 row id ∧ mix2 row id < 18446744073709551616 := by
  have h := mix1_bd row id
  exact ⟨xr_nonneg _ _, xr_lt 64 h ⟨by omega, by have : (2 : Int) ^ 64 = 18446744073709551616 := rfl; omega⟩⟩
theorem mix3_bd (row id : Int) : 0 ≤ mix3 row id ∧ mix3 row id < 18446744073709551616 := by unfold mix3; omega
theorem spot_bd {row width id : Int} (h : 1 ≤ width) : 0 ≤ spot row width id ∧ spot row width id < width :=
  ⟨Int.emod_nonneg _ (by omega), Int.emod_lt_of_pos _ (by omega)⟩
/-- The cells in which somebody is counted. -/
def spots (width id : Int) (rows : Nat) : List Int := (List.range rows).map fun (r : Nat) => (r : Int) * width + spot r width id
theorem spots_len (width id : Int) (r : Nat) : (spots width id r).length = r := by simp [spots]
theorem spots_succ (width id : Int) (r : Nat) : spots width id (r + 1) = spots width id r ++ [(r : Int) * width + spot r width id] := by simp [spots, List.range_succ]
theorem spots_get {width id : Int} {r k : Nat} (h : k < (spots width id r).length) : (spots width id r)[k] = (k : Int) * width + spot k width id := by simp [spots]
theorem spots_take {width id : Int} {r k : Nat} (h : k ≤ r) : (spots width id r).take k = spots width id k := by
  simp only [spots, ← List.map_take, List.take_range, Nat.min_eq_left h]
theorem spots_bd {width id : Int} {r k : Nat} (hw : 1 ≤ width) (h : k < r) : 0 ≤ (k : Int) * width + spot k width id ∧ (k : Int) * width + spot k width id < r * width ∧ (k : Int) * width ≤ (k : Int) * width + spot k width id := by
  have h1 := spot_bd (row := k) (width := width) (id := id) hw
  have h2 : ((k : Int) + 1) * width ≤ r * width := Int.mul_le_mul_of_nonneg_right (by omega) (by omega)
  have h3 : 0 ≤ (k : Int) * width := Int.mul_nonneg (by omega) (by omega)
  rw [Int.add_mul] at h2
  omega
theorem spots_lt {width id : Int} {j k : Nat} (hw : 1 ≤ width) (h : j < k) : (j : Int) * width + spot j width id < (k : Int) * width + spot k width id := by
  have h1 := spots_bd (id := id) hw h
  have h2 := spot_bd (row := k) (width := width) (id := id) hw
  omega
/-- The least of the first k of them. -/
def least (zs : List Int) (width id : Int) (k : Nat) : Int := (spots width id k).foldl (fun m c => min m (zs.getD c.toNat 0)) 2199023255552
theorem least_succ (zs : List Int) (width id : Int) (k : Nat) : least zs width id (k + 1) = min (least zs width id k) (zs.getD ((k : Int) * width + spot k width id).toNat 0) := by
  simp [least, spots_succ, List.foldl_append]
/-- What a cell is, behind a count. -/
def nw (careful : Bool) (was n z : Int) : Int := bif careful then max z (was + n) else z + n
def upd (zs : List Int) (f : Int → Int) (width id : Int) : Nat → List Int
  | 0 => zs
  | k + 1 => (upd zs f width id k).set ((k : Int) * width + spot k width id).toNat (f (zs.getD ((k : Int) * width + spot k width id).toNat 0))
theorem upd_len (zs : List Int) (f : Int → Int) (width id : Int) : ∀ k, (upd zs f width id k).length = zs.length
  | 0 => rfl
  | k + 1 => by simp [upd, upd_len zs f width id k]
theorem upd_get (zs : List Int) (f : Int → Int) {width id : Int} (hw : 1 ≤ width) : ∀ (k : Nat) {j : Nat} (hj : j < zs.length), (∀ i : Nat, i < k → j ≠ ((i : Int) * width + spot i width id).toNat) → (upd zs f width id k)[j]'(by rw [upd_len]; exact hj) = zs[j]
  | 0, _, _, _ => rfl
  | k + 1, j, hj, h => by
    simp only [upd]
    rw [List.getElem_set_ne (fun e => h k (by omega) e.symm)]
    exact upd_get zs f hw k hj (fun i hi => h i (by omega))
theorem upd_own (zs : List Int) (f : Int → Int) {width id : Int} (hw : 1 ≤ width) (k : Nat) (hk : ((k : Int) * width + spot k width id).toNat < zs.length) : (upd zs f width id k)[((k : Int) * width + spot k width id).toNat]'(by rw [upd_len]; exact hk) = zs[((k : Int) * width + spot k width id).toNat] :=
  upd_get zs f hw k hk (fun i hi e => by
    have h1 := spots_lt (id := id) hw hi
    have h2 := spots_bd (id := id) hw hi
    omega)
/-- Does a cell grow too great? -/
def bigs (zs : List Int) (f : Int → Int) (width id : Int) (k : Nat) : Bool := (spots width id k).any fun c => decide (1099511627776 < f (zs.getD c.toNat 0))
theorem bigs_succ (zs : List Int) (f : Int → Int) (width id : Int) (k : Nat) : bigs zs f width id (k + 1) = (bigs zs f width id k || decide (1099511627776 < f (zs.getD ((k : Int) * width + spot k width id).toNat 0))) := by
  simp [bigs, spots_succ, List.any_append]
theorem bigs_mono {zs : List Int} {f : Int → Int} {width id : Int} {k r : Nat} (h : k ≤ r) (hb : bigs zs f width id k = true) : bigs zs f width id r = true := by
  obtain ⟨d, rfl⟩ : ∃ d, r = k + d := ⟨r - k, by omega⟩
  induction d with
  | zero => exact hb
  | succ d ih => rw [← Nat.add_assoc, bigs_succ, ih (by omega), Bool.true_or]
end Go.Proofs.YtfcpmcdlgkfolaaDoor.Big
namespace Go.Proofs.YtfcpmcdlgkfolaaDoor.Sketch
open Go.RowKit
def badCell (n : Int) : Bool := decide (n < 0) || decide (1099511627776 < n)
def dims (rows width : Int) : Bool := decide (1 ≤ rows) && decide (rows ≤ 8) && decide (1 ≤ width) && decide (width ≤ 64)
def vright (rows width : Int) (zs : List Int) : Bool := dims rows width && ((zs.length : Int) == rows * width) && !zs.any badCell
theorem dims_iff {rows width : Int} : dims rows width = true ↔ (1 ≤ rows ∧ rows ≤ 8) ∧ 1 ≤ width ∧ width ≤ 64 := by simp [dims]; omega
theorem dims_not {rows width : Int} (h : dims rows width = false) : rows < 1 ∨ 8 < rows ∨ width < 1 ∨ 64 < width := by simp [dims] at h; omega
theorem dims_prod {rows width : Int} (h : dims rows width = true) : 1 ≤ rows * width ∧ rows * width ≤ 512 := by
  obtain ⟨⟨a0, a1⟩, b0, b1⟩ := dims_iff.1 h
  have h1 : rows * width ≤ 8 * 64 := Int.mul_le_mul a1 b1 (by omega) (by omega)
  have h2 : 1 * 1 ≤ rows * width := Int.mul_le_mul a0 b0 (by omega) (by omega)
  omega
theorem any_succ (p : Int → Bool) (l : List Int) (k : Nat) (h : k < l.length) : (l.take (k + 1)).any p = ((l.take k).any p || p l[k]) := by
  rw [List.take_succ_eq_append_getElem h, List.any_append]
  simp
theorem badCell_f {n : Int} (h : badCell n = false) : 0 ≤ n ∧ n ≤ 1099511627776 := by simp [badCell] at h; omega
theorem badCell_t {n : Int} (h : badCell n = true) : n < 0 ∨ 0 ≤ n ∧ 1099511627776 < n := by simp [badCell] at h; omega
theorem good_cells {r x : Int} {zs : List Int} (h : vright r x zs = true) : ∀ k (hk : k < zs.length), 0 ≤ zs[k] ∧ zs[k] ≤ 1099511627776 := fun k hk => by
  simp only [vright, Bool.and_eq_true, Bool.not_eq_true'] at h
  have := List.any_eq_false.1 h.2 _ (List.getElem_mem hk)
  exact badCell_f (by simpa using this)
end Go.Proofs.YtfcpmcdlgkfolaaDoor.Sketch
namespace Go.Proofs.YtfcpmcdlgkfolaaDoor.Seen
open Go.RowKit Go.Proofs.YtfcpmcdlgkfolaaDoor.Big Go.Proofs.YtfcpmcdlgkfolaaDoor.Sketch Go.Proofs.YtfcpmcdlgkfolaaDoor.Slide

theorem le_least {zs : List Int} {w v x : Int} : ∀ {k : Nat}, x ≤ 2199023255552 → (∀ i : Nat, i < k → x ≤ zs.getD ((i : Int) * w + spot i w v).toNat 0) → x ≤ least zs w v k
  | 0, h, _ => h
  | k + 1, h, hk => by
    rw [least_succ]
    have h1 := le_least (k := k) h (fun i hi => hk i (by omega))
    have h2 := hk k (by omega)
    omega
theorem least_le {zs : List Int} {w v : Int} : ∀ {k : Nat} {i : Nat}, i < k → least zs w v k ≤ zs.getD ((i : Int) * w + spot i w v).toNat 0
  | 0, _, h => by omega
  | k + 1, i, h => by
    rw [least_succ]
    by_cases e : i = k
    · subst e; omega
    · have := least_le (zs := zs) (w := w) (v := v) (k := k) (i := i) (by omega); omega
theorem least_top {zs : List Int} {w v : Int} : ∀ k : Nat, least zs w v k ≤ 2199023255552
  | 0 => Int.le_refl _
  | k + 1 => by rw [least_succ]; have := least_top (zs := zs) (w := w) (v := v) k; omega
theorem getD_set {zs : List Int} {p j : Nat} {x : Int} : (zs.set p x).getD j 0 = if p = j ∧ j < zs.length then x else zs.getD j 0 := by
  simp only [List.getD_eq_getElem?_getD, List.getElem?_set]
  by_cases h : p = j
  · subst h
    by_cases h2 : p < zs.length
    · simp [h2]
    · simp [h2]
  · simp [h]
theorem upd_ge {zs : List Int} {f : Int → Int} {w v : Int} (hf : ∀ z, z ≤ f z) (j : Nat) : ∀ k : Nat, zs.getD j 0 ≤ (upd zs f w v k).getD j 0
  | 0 => Int.le_refl _
  | k + 1 => by
    rw [upd, getD_set]
    split
    · next h => rw [← h.1]; exact hf _
    · exact upd_ge hf j k
theorem upd_own2 {zs : List Int} {f : Int → Int} {w v : Int} : ∀ {k i : Nat}, i < k → ((i : Int) * w + spot i w v).toNat < zs.length → (upd zs f w v k).getD ((i : Int) * w + spot i w v).toNat 0 = f (zs.getD ((i : Int) * w + spot i w v).toNat 0)
  | 0, _, h, _ => by omega
  | k + 1, i, h, hl => by
    rw [upd, getD_set, upd_len]
    by_cases e : ((k : Int) * w + spot k w v).toNat = ((i : Int) * w + spot i w v).toNat
    · rw [if_pos ⟨e, hl⟩, e]
    · rw [if_neg (fun h => e h.1)]
      exact upd_own2 (by by_cases e2 : i = k; (· subst e2; exact absurd rfl e); omega) hl
theorem upd_le {zs : List Int} {f : Int → Int} {w v : Int} {a b : Int} (hf : ∀ z, 0 ≤ z → z ≤ a → f z ≤ b) (hab : a ≤ b) (hz : ∀ j, 0 ≤ zs.getD j 0 ∧ zs.getD j 0 ≤ a) (j : Nat) : ∀ k : Nat, (upd zs f w v k).getD j 0 ≤ b
  | 0 => Int.le_trans (hz j).2 hab
  | k + 1 => by
    rw [upd, getD_set]
    split
    · exact hf _ (hz _).1 (hz _).2
    · exact upd_le hf hab hz j k

/-- Whose number somebody has. -/
def u (ids : List Int) (k : Nat) : Int := ids.getD k 0 % 18446744073709551616
def occ (ids : List Int) (v : Int) (k : Nat) : Int := tot ((ids.take k).map fun x => if x % 18446744073709551616 = v then 1 else 0)
theorem occ_succ {ids : List Int} {v : Int} {k : Nat} (h : k < ids.length) : occ ids v (k + 1) = occ ids v k + (if u ids k = v then 1 else 0) := by
  unfold occ u
  rw [List.take_succ_eq_append_getElem h, List.map_append, tot_append]
  simp [tot, List.getD_eq_getElem?_getD, h]
theorem occ_bd {ids : List Int} {v : Int} : ∀ {k : Nat}, k ≤ ids.length → 0 ≤ occ ids v k ∧ occ ids v k ≤ k
  | 0, _ => by simp [occ, tot]
  | k + 1, h => by
    have := occ_bd (ids := ids) (v := v) (k := k) (by omega)
    rw [occ_succ (by omega)]
    split <;> omega
/-- The cells, when so many have been counted. -/
def sk (ids : List Int) : Nat → List Int
  | 0 => List.replicate 48 0
  | k + 1 => upd (sk ids k) (nw true (least (sk ids k) 16 (u ids k) (3 : Nat)) 1) 16 (u ids k) 3
theorem sk_len (ids : List Int) : ∀ k, (sk ids k).length = 48
  | 0 => by simp [sk]
  | k + 1 => by rw [sk, upd_len, sk_len ids k]
theorem nw_ge (m z : Int) : z ≤ nw true m 1 z := by simp only [nw, cond_true]; omega
theorem sp {v : Int} {i : Nat} (h : i < 3) : ((i : Int) * 16 + spot i 16 v).toNat < 48 := by
  have := spots_bd (id := v) (r := 3) (k := i) (width := 16) (by omega) h
  omega
theorem sk_inv (ids : List Int) : ∀ k, k ≤ ids.length → k ≤ 1000000 → (∀ j, 0 ≤ (sk ids k).getD j 0 ∧ (sk ids k).getD j 0 ≤ k) ∧ ∀ v, occ ids v k ≤ least (sk ids k) 16 v 3
  | 0, _, _ => by
    have h0 : ∀ j, (sk ids 0).getD j 0 = 0 := fun j => by
      simp only [sk, List.getD_eq_getElem?_getD, List.getElem?_replicate]
      split <;> rfl
    refine ⟨fun j => by rw [h0]; omega, fun v => ?_⟩
    have : occ ids v 0 = 0 := by simp [occ, tot]
    rw [this]
    exact le_least (by omega) (fun i _ => by rw [h0]; omega)
  | k + 1, hk, hb => by
    obtain ⟨h1, h2⟩ := sk_inv ids k (by omega) (by omega)
    have hm : least (sk ids k) 16 (u ids k) 3 ≤ k := by
      have := least_le (zs := sk ids k) (w := 16) (v := u ids k) (k := 3) (i := 0) (by omega)
      have := (h1 (((0 : Nat) : Int) * 16 + spot (0 : Nat) 16 (u ids k)).toNat).2
      omega
    refine ⟨fun j => ⟨?_, ?_⟩, fun v => ?_⟩
    · have := upd_ge (f := nw true (least (sk ids k) 16 (u ids k) (3 : Nat)) 1) (w := 16) (v := u ids k) (nw_ge _) (zs := sk ids k) j 3
      have := (h1 j).1
      simp only [sk]
      omega
    · have := upd_le (zs := sk ids k) (f := nw true (least (sk ids k) 16 (u ids k) (3 : Nat)) 1) (w := 16) (v := u ids k) (a := k) (b := (k + 1 : Nat)) (fun z h0 hz => by simp only [nw, cond_true]; omega) (by omega) h1 j 3
      simp only [sk]
      exact this
    · rw [occ_succ (by omega)]
      have h3 := h2 v
      have h4 := occ_bd (ids := ids) (v := v) (k := k) (by omega)
      simp only [sk]
      split
      · next e =>
        subst e
        refine le_least (by omega) (fun i hi => ?_)
        rw [upd_own2 hi (by rw [sk_len]; exact sp hi)]
        simp only [nw, cond_true]
        omega
      · refine le_least (by omega) (fun i hi => ?_)
        have h5 := upd_ge (f := nw true (least (sk ids k) 16 (u ids k) (3 : Nat)) 1) (w := 16) (v := u ids k) (nw_ge _) (zs := sk ids k) ((i : Int) * 16 + spot i 16 v).toNat 3
        have h6 := least_le (zs := sk ids k) (w := 16) (v := v) hi
        omega
theorem sk_right {ids : List Int} {k : Nat} (hk : k ≤ ids.length) (hb : k ≤ 100) : vright ((3 : Nat) : Int) 16 (sk ids k) = true := by
  have h := (sk_inv ids k hk (by omega)).1
  have hl := sk_len ids k
  unfold vright
  rw [Bool.and_eq_true, Bool.and_eq_true, Bool.not_eq_true', hl]
  refine ⟨⟨by decide, by decide⟩, ?_⟩
  rw [List.any_eq_false]
  intro z hz
  obtain ⟨j, hj, rfl⟩ := List.getElem_of_mem hz
  have := h j
  rw [List.getD_eq_getElem?_getD, List.getElem?_eq_getElem hj] at this
  simp only [Option.getD_some] at this
  simp [badCell]
  omega
theorem sk_big {ids : List Int} {k : Nat} (hk : k ≤ ids.length) (hb : k ≤ 100) : bigs (sk ids k) (nw true (least (sk ids k) 16 (u ids k) (3 : Nat)) 1) 16 (u ids k) 3 = false := by
  have h := (sk_inv ids k hk (by omega)).1
  unfold bigs
  rw [List.any_eq_false]
  intro c _
  have h1 := h c.toNat
  have h2 := least_le (zs := sk ids k) (w := 16) (v := u ids k) (k := 3) (i := 0) (by omega)
  have h3 := (h (((0 : Nat) : Int) * 16 + spot (0 : Nat) 16 (u ids k)).toNat).2
  intro hc
  have hd := of_decide_eq_true hc
  simp only [nw, cond_true] at hd
  omega

/-- One for each time that it is he. -/
def own (ids : List Int) (id : Int) (k : Nat) : List Int := (ids.take k).map fun x => if x = id then 1 else 0
theorem own_len {ids : List Int} {id : Int} {k : Nat} (h : k ≤ ids.length) : (own ids id k).length = k := by simp [own]; omega
theorem own_succ {ids : List Int} {id : Int} {k : Nat} (h : k < ids.length) : own ids id (k + 1) = own ids id k ++ [if ids[k] = id then 1 else 0] := by
  unfold own
  rw [List.take_succ_eq_append_getElem h, List.map_append]
  rfl
theorem own_01 {ids : List Int} {id : Int} {k : Nat} : ∀ z ∈ own ids id k, 0 ≤ z ∧ z ≤ 1 := by
  intro z hz
  obtain ⟨x, _, rfl⟩ := List.mem_map.1 hz
  split <;> omega
theorem own_bad {ids : List Int} {id wd : Int} {k : Nat} (h : k ≤ ids.length) (hb : k ≤ 100) : bad wd (own ids id k) = (decide (wd < 1) || decide (400 < wd)) := by
  have h1 : (own ids id k).all uok = true := List.all_eq_true.2 fun z hz => by have := own_01 z hz; rw [uok_iff]; omega
  simp only [bad, own_len h, h1, Bool.not_true, Bool.or_false, decide_eq_false (show ¬ 400 < k by omega)]
theorem tot_nonneg : ∀ {l : List Int}, (∀ z ∈ l, 0 ≤ z) → 0 ≤ tot l
  | [], _ => Int.le_refl _
  | a :: l, h => by
    have h1 := h a (List.mem_cons_self ..)
    have h2 := tot_nonneg (l := l) (fun z hz => h z (List.mem_cons_of_mem _ hz))
    simp only [tot]
    omega
theorem tot_take_le {l : List Int} (h : ∀ z ∈ l, 0 ≤ z) (k : Nat) : 0 ≤ tot (l.take k) ∧ tot (l.take k) ≤ tot l := by
  have h1 := tot_append (l.take k) (l.drop k)
  rw [List.take_append_drop] at h1
  have h2 := tot_nonneg (l := l.take k) (fun z hz => h z (List.mem_of_mem_take hz))
  have h3 := tot_nonneg (l := l.drop k) (fun z hz => h z (List.mem_of_mem_drop hz))
  omega
theorem tot_le : ∀ {l : List Int} {f g : Int → Int}, (∀ x, f x ≤ g x) → tot (l.map f) ≤ tot (l.map g)
  | [], _, _, _ => Int.le_refl _
  | a :: l, f, g, h => by
    have h1 := h a
    have h2 := tot_le (l := l) h
    simp only [List.map_cons, tot]
    omega
/-- A window's sum is no more than what the sketch tells. -/
theorem seen {ids : List Int} {id : Int} {d n : Nat} (hn : n = ids.length) (hb : n ≤ 100) (h0 : 0 < n) : mx (sums (own ids id n) d n) ≤ least (sk ids n) 16 (id % 18446744073709551616) (3 : Nat) := by
  subst hn
  have h1 : ∀ z ∈ own ids id ids.length, 0 ≤ z := fun z hz => (own_01 z hz).1
  have hs : sums (own ids id ids.length) d ids.length ≠ [] := fun e => by
    have := sums_len (own ids id ids.length) d ids.length
    rw [e] at this
    simp at this
    omega
  obtain ⟨j, hj, he⟩ := List.getElem_of_mem (mx_spec hs).1
  rw [sums_get] at he
  have h2 := (sk_inv ids ids.length (Nat.le_refl _) (by omega)).2 (id % 18446744073709551616)
  have h3 : tot (own ids id ids.length) ≤ occ ids (id % 18446744073709551616) ids.length := by
    unfold own occ
    refine tot_le fun x => ?_
    by_cases e : x = id
    · subst e; simp
    · rw [if_neg e]; split <;> omega
  have h4 := tot_take_le h1 (j + 1)
  have h5 := tot_take_le h1 (j + 1 - d)
  rw [← he]
  unfold ws
  omega
end Go.Proofs.YtfcpmcdlgkfolaaDoor.Seen

