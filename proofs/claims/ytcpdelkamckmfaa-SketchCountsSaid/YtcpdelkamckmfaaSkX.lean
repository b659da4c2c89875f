/- The sketch's hash, and what its rows count: plain. -/
import Derived.Test.YtcpdelkamckmfaaBigM
namespace Go.Proofs.Ytcpdelkamckmfaa.Big

/-- The exclusive or of two that are not below 0. -/
def xr (a b : Int) : Int := ((a.toNat ^^^ b.toNat : Nat) : Int)
theorem xr_zero {a : Int} (h : 0 ≤ a) : xr a 0 = a := by unfold xr; simp; omega
theorem xr_nonneg (a b : Int) : 0 ≤ xr a b := by unfold xr; omega
theorem xr_lt {a b : Int} (k : Nat) (ha : 0 ≤ a ∧ a < 2 ^ k) (hb : 0 ≤ b ∧ b < 2 ^ k) : xr a b < 2 ^ k := by
  have c : ((2 ^ k : Nat) : Int) = 2 ^ k := by rw [Int.natCast_pow]; rfl
  unfold xr
  have := Nat.xor_lt_two_pow (x := a.toNat) (y := b.toNat) (n := k) (by omega) (by omega)
  omega
theorem xr_split {a b x y : Int} (ha : 0 ≤ a ∧ a < 4294967296) (hb : 0 ≤ b ∧ b < 4294967296) (hx : 0 ≤ x) (hy : 0 ≤ y) : xr (a + 4294967296 * x) (b + 4294967296 * y) = xr a b + 4294967296 * xr x y := by
  obtain ⟨a, rfl⟩ := Int.eq_ofNat_of_zero_le ha.1
  obtain ⟨b, rfl⟩ := Int.eq_ofNat_of_zero_le hb.1
  obtain ⟨x, rfl⟩ := Int.eq_ofNat_of_zero_le hx
  obtain ⟨y, rfl⟩ := Int.eq_ofNat_of_zero_le hy
  unfold xr
  have e1 : ((a : Int) + 4294967296 * (x : Int)).toNat = a + 4294967296 * x := by omega
  have e2 : ((b : Int) + 4294967296 * (y : Int)).toNat = b + 4294967296 * y := by omega
  rw [e1, e2]
  simp only [Int.toNat_natCast]
  have h1 := Nat.xor_mod_two_pow (a := a + 4294967296 * x) (b := b + 4294967296 * y) (n := 32)
  have h2 := Nat.xor_div_two_pow (a := a + 4294967296 * x) (b := b + 4294967296 * y) (n := 32)
  rw [show 2 ^ 32 = 4294967296 from rfl] at h1 h2
  rw [show (a + 4294967296 * x) % 4294967296 = a by omega, show (b + 4294967296 * y) % 4294967296 = b by omega] at h1
  rw [show (a + 4294967296 * x) / 4294967296 = x by omega, show (b + 4294967296 * y) / 4294967296 = y by omega] at h2
  omega
/-- Digit by digit, the first list being the longer one. -/
def xrl : List Int → List Int → List Int
  | a :: x, b :: y => xr a b :: xrl x y
  | x, [] => x
  | [], _ => []
theorem xrl_nil (x : List Int) : xrl x [] = x := by cases x <;> rfl
theorem xrl_len : ∀ x y : List Int, (xrl x y).length = x.length
  | a :: x, b :: y => by simp [xrl, xrl_len x y]
  | x, [] => by rw [xrl_nil]
  | [], _ :: _ => rfl
theorem xrl_dig : ∀ {x y : List Int}, Dig x → Dig y → Dig (xrl x y)
  | a :: x, b :: y, hx, hy => by
    intro d hd
    simp only [xrl, List.mem_cons] at hd
    rcases hd with rfl | hd
    · have h1 := hx a (List.mem_cons_self ..)
      have h2 := hy b (List.mem_cons_self ..)
      exact ⟨xr_nonneg _ _, xr_lt 32 h1 h2⟩
    · exact xrl_dig (fun d h => hx d (List.mem_cons_of_mem _ h)) (fun d h => hy d (List.mem_cons_of_mem _ h)) d hd
  | x, [], hx, _ => by rw [xrl_nil]; exact hx
  | [], _ :: _, hx, _ => hx
theorem xrl_val : ∀ {x y : List Int}, Dig x → Dig y → y.length ≤ x.length → dval (xrl x y) = xr (dval x) (dval y)
  | a :: x, b :: y, hx, hy, hl => by
    have h1 := hx a (List.mem_cons_self ..)
    have h2 := hy b (List.mem_cons_self ..)
    have g1 : Dig x := fun d h => hx d (List.mem_cons_of_mem _ h)
    have g2 : Dig y := fun d h => hy d (List.mem_cons_of_mem _ h)
    simp only [xrl, dval]
    rw [xrl_val g1 g2 (by simpa using hl), xr_split h1 h2 (dval_nonneg g1) (dval_nonneg g2)]
  | x, [], hx, _, _ => by
    rw [xrl_nil, show dval [] = 0 from rfl, xr_zero (dval_nonneg hx)]
  | [], b :: y, _, _, hl => by simp at hl
theorem xrl_get : ∀ {x y : List Int} {k : Nat} (h1 : k < x.length) (h2 : y.length ≤ k), (xrl x y)[k]'(by rw [xrl_len]; exact h1) = x[k]
  | a :: x, b :: y, 0, _, h2 => by simp at h2
  | a :: x, b :: y, k + 1, h1, h2 => by
    simp only [xrl, List.getElem_cons_succ]
    exact xrl_get (by simpa using h1) (by simpa using h2)
  | x, [], k, _, _ => by simp only [xrl_nil]
theorem xrl_set : ∀ {x y : List Int} {k : Nat} (h1 : k < x.length) (h2 : k < y.length), (xrl x (y.take k)).set k (xr x[k] y[k]) = xrl x (y.take (k + 1))
  | a :: x, b :: y, 0, _, _ => by
    simp only [List.take_zero, xrl_nil, List.set_cons_zero, List.getElem_cons_zero, List.take_succ_cons, xrl, xrl_nil]
  | a :: x, b :: y, k + 1, h1, h2 => by
    simp only [List.take_succ_cons, xrl, List.set_cons_succ, List.getElem_cons_succ]
    rw [xrl_set (by simpa using h1) (by simpa using h2)]
theorem xr_comm (a b : Int) : xr a b = xr b a := by unfold xr; rw [Nat.xor_comm]

/-- Where somebody is counted in a row. -/
def mix1 (row id : Int) : Int := id * (2 * row + 11400714819323198485) % 18446744073709551616
def mix2 (row id : Int) : Int := xr (mix1 row id) (mix1 row id / 536870912)
def mix3 (row id : Int) : Int := mix2 row id * 13787848793156543929 % 18446744073709551616
def spot (row width id : Int) : Int := mix3 row id / 8589934592 % width
theorem mix1_bd (row id : Int) : 0 ≤ mix1 row id ∧ mix1 row id < 18446744073709551616 := by unfold mix1; omega
theorem mix2_bd (row id : Int) : 0 ≤ mix2 row id ∧ mix2 row id < 18446744073709551616 := by
  have h := mix1_bd row id
  exact ⟨xr_nonneg _ _, xr_lt 64 h ⟨by omega, by have : (2 : Int) ^ 64 = 18446744073709551616 := rfl; omega⟩⟩
theorem mix3_bd (row id : Int) : 0 ≤ mix3 row id ∧ mix3 row id < 18446744073709551616 := by unfold mix3; omega
theorem spot_bd {row width id : Int} (h : 1 ≤ width) : 0 ≤ spot row width id ∧ spot row width id < width :=
  ⟨Int.emod_nonneg _ (by omega), Int.emod_lt_of_pos _ (by omega)⟩

/-- The cells in which somebody is counted. -/
def spots (width id : Int) (rows : Nat) : List Int := (List.range rows).map fun (r : Nat) => (r : Int) * width + spot r width id
theorem spots_len (width id : Int) (r : Nat) : (spots width id r).length = r := by simp [spots]
theorem spots_succ (width id : Int) (r : Nat) : spots width id (r + 1) = spots width id r ++ [(r : Int) * width + spot r width id] := by simp [spots, List.range_succ]
theorem spots_get {width id : Int} {r k : Nat} (h : k < (spots width id r).length) : (spots width id r)[k] = (k : Int) * width + spot k width id := by simp [spots]
theorem spots_take {width id : Int} {r k : Nat} (h : k ≤ r) : (spots width id r).take k = spots width id k := by
  simp only [spots, ← List.map_take, List.take_range, Nat.min_eq_left h]
theorem spots_bd {width id : Int} {r k : Nat} (hw : 1 ≤ width) (h : k < r) : 0 ≤ (k : Int) * width + spot k width id ∧ (k : Int) * width + spot k width id < r * width ∧ (k : Int) * width ≤ (k : Int) * width + spot k width id := by
  have h1 := spot_bd (row := k) (width := width) (id := id) hw
  have h2 : ((k : Int) + 1) * width ≤ r * width := Int.mul_le_mul_of_nonneg_right (by omega) (by omega)
  have h3 : 0 ≤ (k : Int) * width := Int.mul_nonneg (by omega) (by omega)
  rw [Int.add_mul] at h2
  omega
theorem spots_lt {width id : Int} {j k : Nat} (hw : 1 ≤ width) (h : j < k) : (j : Int) * width + spot j width id < (k : Int) * width + spot k width id := by
  have h1 := spots_bd (id := id) hw h
  have h2 := spot_bd (row := k) (width := width) (id := id) hw
  omega
/-- The least of the first k of them. -/
def least (zs : List Int) (width id : Int) (k : Nat) : Int := (spots width id k).foldl (fun m c => min m (zs.getD c.toNat 0)) 2199023255552
theorem least_succ (zs : List Int) (width id : Int) (k : Nat) : least zs width id (k + 1) = min (least zs width id k) (zs.getD ((k : Int) * width + spot k width id).toNat 0) := by
  simp [least, spots_succ, List.foldl_append]
/-- What a cell is, behind a count. -/
def nw (careful : Bool) (was n z : Int) : Int := bif careful then max z (was + n) else z + n
def upd (zs : List Int) (f : Int → Int) (width id : Int) : Nat → List Int
  | 0 => zs
  | k + 1 => (upd zs f width id k).set ((k : Int) * width + spot k width id).toNat (f (zs.getD ((k : Int) * width + spot k width id).toNat 0))
theorem upd_len (zs : List Int) (f : Int → Int) (width id : Int) : ∀ k, (upd zs f width id k).length = zs.length
  | 0 => rfl
  | k + 1 => by simp [upd, upd_len zs f width id k]
theorem upd_get (zs : List Int) (f : Int → Int) {width id : Int} (hw : 1 ≤ width) : ∀ (k : Nat) {j : Nat} (hj : j < zs.length), (∀ i : Nat, i < k → j ≠ ((i : Int) * width + spot i width id).toNat) → (upd zs f width id k)[j]'(by rw [upd_len]; exact hj) = zs[j]
  | 0, _, _, _ => rfl
  | k + 1, j, hj, h => by
    simp only [upd]
    rw [List.getElem_set_ne (fun e => h k (by omega) e.symm)]
    exact upd_get zs f hw k hj (fun i hi => h i (by omega))
theorem upd_own (zs : List Int) (f : Int → Int) {width id : Int} (hw : 1 ≤ width) (k : Nat) (hk : ((k : Int) * width + spot k width id).toNat < zs.length) : (upd zs f width id k)[((k : Int) * width + spot k width id).toNat]'(by rw [upd_len]; exact hk) = zs[((k : Int) * width + spot k width id).toNat] :=
  upd_get zs f hw k hk (fun i hi e => by
    have h1 := spots_lt (id := id) hw hi
    have h2 := spots_bd (id := id) hw hi
    omega)
/-- Does a cell grow too great? -/
def bigs (zs : List Int) (f : Int → Int) (width id : Int) (k : Nat) : Bool := (spots width id k).any fun c => decide (1099511627776 < f (zs.getD c.toNat 0))
theorem bigs_succ (zs : List Int) (f : Int → Int) (width id : Int) (k : Nat) : bigs zs f width id (k + 1) = (bigs zs f width id k || decide (1099511627776 < f (zs.getD ((k : Int) * width + spot k width id).toNat 0))) := by
  simp [bigs, spots_succ, List.any_append]
theorem bigs_mono {zs : List Int} {f : Int → Int} {width id : Int} {k r : Nat} (h : k ≤ r) (hb : bigs zs f width id k = true) : bigs zs f width id r = true := by
  obtain ⟨d, rfl⟩ : ∃ d, r = k + d := ⟨r - k, by omega⟩
  induction d with
  | zero => exact hb
  | succ d ih => rw [← Nat.add_assoc, bigs_succ, ih (by omega), Bool.true_or]
end Go.Proofs.Ytcpdelkamckmfaa.Big
