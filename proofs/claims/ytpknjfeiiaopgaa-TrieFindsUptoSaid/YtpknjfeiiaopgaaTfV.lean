/- Prefixes and addresses in memory; what the walks of TrieFinds share. -/
import Derived.Test.YtpknjfeiiaopgaaTfU
import Derived.Test.YtpknjfeiiaopgaaEqArr
namespace Go.Proofs.Ytpknjfeiiaopgaa.Trie
open Go.RowKit Go.Proofs.Ytpknjfeiiaopgaa.E

def cA (x : Ad) : List Value := [.int .u8 x.a, .int .u8 x.b, .int .u8 x.c, .int .u8 x.d]
def cPx (p : Pfx) : List Value := [.int .u8 p.x.a, .int .u8 p.x.b, .int .u8 p.x.c, .int .u8 p.x.d, (.int .i64 p.n), (.int .i64 p.to)]
def aN : Ad := ⟨0, 0, 0, 0⟩
def pN : Pfx := ⟨aN, 0, 0⟩
theorem hcA : ∀ x, (cA x).length = 4 := fun _ => rfl
theorem hcPx : ∀ p, (cPx p).length = 6 := fun _ => rfl
theorem addr_at {l : List Pfx} {j : Nat} (h : j < l.length) : ∀ i u, (cA (l.getD j pN).x)[i]? = some u → (l.flatMap cPx)[j * 6 + i]? = some u := fun i u hu => by
  refine flatGA (d := pN) hcPx h i u ?_
  match i with
  | 0 => exact hu
  | 1 => exact hu
  | 2 => exact hu
  | 3 => exact hu
  | i + 4 => simp [cA] at hu
theorem getD_take {l : List Pfx} {k j : Nat} (h : j < k) : (l.take k).getD j pN = l.getD j pN := by
  simp [List.getD_eq_getElem?_getD, List.getElem?_take, h]
theorem rd_pre {w : World} {A : Option Addr} {l : List Pfx} (h : Rd w A (l.flatMap cPx)) (k : Nat) : Rd w A ((l.take k).flatMap cPx) := by
  rcases h with h | ⟨b, off, hA, hc⟩
  · left
    have h1 := List.flatMap_append (f := cPx) (xs := l.take k) (ys := l.drop k)
    rw [List.take_append_drop, h] at h1
    exact (List.append_eq_nil_iff.1 h1.symm).1
  · refine .inr ⟨b, off, hA, fun j u hu => hc j u ?_⟩
    have h1 := List.flatMap_append (f := cPx) (xs := l.take k) (ys := l.drop k)
    rw [List.take_append_drop] at h1
    rw [h1, List.getElem?_append_left (List.getElem?_eq_some_iff.1 hu).1]
    exact hu
/-- The first n bits, the others nought. -/
def fb (v n : Int) : Int := pre v n.toNat * 2 ^ (32 - n.toNat)
theorem fb_full (v : Int) : fb v 32 = v := by simp [fb, pre]
theorem fb_iff {v q n : Int} : fb v n = fb q n ↔ pre v n.toNat = pre q n.toNat := by
  have h := pre_beq v q n.toNat
  unfold fb
  constructor
  · intro e
    rw [e, beq_self_eq_true] at h
    exact of_decide_eq_true h.symm
  · intro e; rw [e]
theorem within_t {v q n : Int} (h0 : 0 ≤ n) (h1 : n ≤ 32) : decide (fb v n = fb q n) = within v q n := by
  unfold within
  rw [decide_eq_true h0, decide_eq_true h1, Bool.true_and, Bool.true_and]
  exact decide_eq_decide.2 fb_iff
theorem within_f {v q n : Int} (h : n < 0 ∨ 32 < n) : false = within v q n := by
  unfold within
  rcases h with h | h
  · rw [decide_eq_false (show ¬ 0 ≤ n by omega)]; rfl
  · rw [decide_eq_false (show ¬ n ≤ 32 by omega), Bool.and_false]; rfl
theorem bitE (x : Ad) (hx : x.ok) (k : Nat) (hk : k < 32) (w : World) : Calls Try.prog 50 #[.agg #[.int .u8 x.a, .int .u8 x.b, .int .u8 x.c, .int .u8 x.d], .int .i64 (k : Int)] w fun e w' => e = .returned (.int .u8 (abit x.v k)) ∧ St w w' [] :=
  of_bel (bit_any x.a x.b x.c x.d hx.1 hx.2.1 hx.2.2.1 hx.2.2.2 k hk w)
theorem withinE (x : Ad) (p : Pfx) (hx : x.ok) (hp : p.x.ok) (w : World) : Calls Try.prog 13 #[.agg #[.int .u8 x.a, .int .u8 x.b, .int .u8 x.c, .int .u8 x.d], .agg #[.int .u8 p.x.a, .int .u8 p.x.b, .int .u8 p.x.c, .int .u8 p.x.d, (.int .i64 p.n), (.int .i64 p.to)]] w fun e w' => e = .returned (.bool (within x.v p.v p.n)) ∧ St w w' [] :=
  of_bel (within_any x.a x.b x.c x.d p.x.a p.x.b p.x.c p.x.d hx.1 hx.2.1 hx.2.2.1 hx.2.2.2 hp.1 hp.2.1 hp.2.2.1 hp.2.2.2 p.n p.to w)
theorem fbitsE (x : Ad) (n : Int) (w : World) (hx : x.ok) (h0 : 0 ≤ n) (h1 : n ≤ 32) : Calls Try.prog 51 #[.agg #[.int .u8 x.a, .int .u8 x.b, .int .u8 x.c, .int .u8 x.d], (.int .i64 n)] w fun e w' => e = .returned (.int .i64 (fb x.v n)) ∧ St w w' [] := by
  obtain ⟨m, rfl⟩ := Int.eq_ofNat_of_zero_le h0
  exact of_bel (fbits_any x.a x.b x.c x.d hx.1 hx.2.1 hx.2.2.1 hx.2.2.2 m (by omega) w)
theorem eq_adr {P0 Q0 : Operand} (x y : Ad) (w : World) : (do eqGuard .eql 24 P0 Q0 (.agg #[.int .u8 x.a, .int .u8 x.b, .int .u8 x.c, .int .u8 x.d]) (.agg #[.int .u8 y.a, .int .u8 y.b, .int .u8 y.c, .int .u8 y.d]); binOp .eql 24 (.agg #[.int .u8 x.a, .int .u8 x.b, .int .u8 x.c, .int .u8 x.d]) (.agg #[.int .u8 y.a, .int .u8 y.b, .int .u8 y.c, .int .u8 y.d]) : Sem Value).run Try.prog w = .ok (.bool (decide (x = y))) w := by
  have e1 : ∀ x y, Op.equal 24 x y = Op.equalIn (9998 + 2) 24 x y := fun _ _ => rfl
  have e2 : decide (x = y) = (x.a == y.a && x.b == y.b && x.c == y.c && x.d == y.d) := by
    cases x; cases y
    rw [Bool.eq_iff_iff]
    simp [and_assoc]
  rw [e2]
  simp [eqGuard, binOp, e1, eq_addr4]

section
variable {l : List Pfx} {k : Nat}
theorem at_d (hk : k < l.length) : l[k]? = some (l.getD k pN) := by rw [getD_lt hk]; exact List.getElem?_eq_getElem hk
theorem chk_r (hk : k < l.length) (h : (l.getD k pN).n < 0 ∨ 32 < (l.getD k pN).n) : chk l k = 2 := by
  unfold chk; rw [at_d hk]; dsimp only; rw [if_pos h]
theorem chk_f (hk : k < l.length) (h0 : 0 ≤ (l.getD k pN).n) (h1 : (l.getD k pN).n ≤ 32) (h : fb (l.getD k pN).v (l.getD k pN).n ≠ (l.getD k pN).v) : chk l k = 1 := by
  unfold fb at h
  unfold chk; rw [at_d hk]; dsimp only; rw [if_neg (by omega), if_pos h]
theorem dup_iff (hk : k < l.length) {i : Nat} (hi : i < l.length) : dup l k i = true ↔ (l.getD i pN).n = (l.getD k pN).n ∧ (l.getD i pN).v = (l.getD k pN).v := by
  unfold dup; rw [at_d hk, at_d hi]; simp
theorem chk_h (hk : k < l.length) (h0 : 0 ≤ (l.getD k pN).n) (h1 : (l.getD k pN).n ≤ 32) (h : fb (l.getD k pN).v (l.getD k pN).n = (l.getD k pN).v) {i : Nat} (hi : i < k) (hd : (l.getD i pN).n = (l.getD k pN).n ∧ (l.getD i pN).v = (l.getD k pN).v) : chk l k = 6 := by
  unfold chk; rw [at_d hk]; dsimp only
  rw [if_neg (by omega), if_neg (by unfold fb at h; simpa using h), if_pos (List.any_eq_true.2 ⟨i, List.mem_range.2 hi, (dup_iff hk (by omega)).2 hd⟩)]
theorem chk_0 (hk : k < l.length) (h0 : 0 ≤ (l.getD k pN).n) (h1 : (l.getD k pN).n ≤ 32) (h : fb (l.getD k pN).v (l.getD k pN).n = (l.getD k pN).v) (hn : ∀ i, i < k → ¬ ((l.getD i pN).n = (l.getD k pN).n ∧ (l.getD i pN).v = (l.getD k pN).v)) : chk l k = 0 := by
  unfold chk; rw [at_d hk]; dsimp only
  rw [if_neg (by omega), if_neg (by unfold fb at h; simpa using h), if_neg (fun hh => by
    obtain ⟨i, hi, h2⟩ := List.any_eq_true.1 hh
    exact hn i (List.mem_range.1 hi) ((dup_iff hk (by have := List.mem_range.1 hi; omega)).1 h2))]
theorem zero_next (h : ∀ i, i < k → chk l i = 0) (hk : chk l k = 0) : ∀ i, i < k + 1 → chk l i = 0 := fun i hi => by
  by_cases h1 : i < k
  · exact h i h1
  · obtain rfl : i = k := by omega
    exact hk
theorem wrong_is (h : ∀ i, i < k → chk l i = 0) (hk : k < l.length) (hl : l.length ≤ 400) {r : Int} (hc : chk l k = r) (hr : r ≠ 0) : wrong l = r := by rw [← hc]; exact wrong_at h hk hl (by rw [hc]; exact hr)
theorem wrong_long (h : 400 < l.length) : wrong l = 2 := by unfold wrong; rw [if_pos h]
theorem no_next {j : Nat} {Q : Nat → Prop} (h : ∀ i, i < j → Q i) (hj : Q j) : ∀ i, i < j + 1 → Q i := fun i hi => by
  by_cases h1 : i < j
  · exact h i h1
  · obtain rfl : i = j := by omega
    exact hj
end
theorem v_ptr {a b : Nat} (h : a = b) : some (Value.pointer (some ⟨a, 0, none⟩)) = some (.pointer (some ⟨b, 0, none⟩)) := by rw [h]
theorem kid_cons {M : List Nd} {n : Nd} {k : Nat} {x : Int} (h : ¬ (n.k = k ∧ n.x = x)) : kid (n :: M) k x = kid M k x := by
  unfold kid; rw [node_cons h]
theorem kid_at {M : List Nd} {e e2 : Nd} {z : Int} (hd : Dis M) (h2 : e2 ∈ M) (hk : e2.k = e.k + 1) (hx : e2.x = 2 * e.x + z) (hz : z = 0 ∨ z = 1) : (ndC M e)[z.toNat]? = some (.pointer (some ⟨e2.b, 0, none⟩)) := by
  rw [ndC_kid hz, ← hk, ← hx, kid_mem hd h2]
  rfl
def bls (l : List Bool) : List Value := l.map Value.bool
abbrev Rs := List (Int × Bool)
def rN : Int × Bool := (0, false)
theorem getI_ {rs : Rs} {j : Nat} (h : j < rs.length) : (cI (rs.map Prod.fst))[j]? = some (.int .i64 ((rs.getD j rN).1)) := by
  simp [cI, h]
theorem getB_ {rs : Rs} {j : Nat} (h : j < rs.length) : (bls (rs.map Prod.snd))[j]? = some (.bool (rs.getD j rN).2) := by
  simp [bls, h]
theorem best_next {l : List Pfx} {ad : List Ad} {rs : Rs} {i : Nat} {bt : Int} {ok : Bool} (h : ∀ j, j < i → Best l (ad.getD j aN).v 33 (rs.getD j rN).1 (rs.getD j rN).2) (hl : rs.length = i) (hb : Best l (ad.getD i aN).v 33 bt ok) : ∀ j, j < i + 1 → Best l (ad.getD j aN).v 33 ((rs ++ [(bt, ok)]).getD j rN).1 ((rs ++ [(bt, ok)]).getD j rN).2 := fun j hj => by
  by_cases h1 : j < i
  · have e : (rs ++ [(bt, ok)]).getD j rN = rs.getD j rN := by simp [List.getD_eq_getElem?_getD, List.getElem?_append_left (by omega : j < rs.length)]
    rw [e]; exact h j h1
  · obtain rfl : j = i := by omega
    have e : (rs ++ [(bt, ok)]).getD j rN = (bt, ok) := by simp [List.getD_eq_getElem?_getD, ← hl]
    rw [e]; exact hb
theorem infoBl : (Try.prog.info? 4).map (fun i => (i.zero, i.size, i.bytes)) = some (some (.bool false), 1, 1) := by kernel_rfl
end Go.Proofs.Ytpknjfeiiaopgaa.Trie
