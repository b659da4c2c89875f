/- Fractions held somewhere: what is done to them, with what they are as whole numbers. -/
import Derived.Test.YtpknjfeiiaopgaaFrY
import Derived.Test.YtpknjfeiiaopgaaGpM
namespace Go.Proofs.Ytpknjfeiiaopgaa.Gps
open Go.RowKit Go.Proofs.Ytpknjfeiiaopgaa.E Go.Proofs.Ytpknjfeiiaopgaa.Big Go.Proofs.Ytpknjfeiiaopgaa.Frac

abbrev P (b : Nat) : Value := .pointer (some ⟨b, 0, none⟩)
/-- At p lies x. -/
def Q (es : List Ent) (p : Nat) (x : Rat) : Prop := ∃ qa qb, (⟨p, 0, qa⟩ : Ent) ∈ es ∧ (⟨p, 2, qb⟩ : Ent) ∈ es ∧ RatIs qa qb x
def More (a b : List Ent) : Prop := ∀ p x, Q a p x → Q b p x
def New (a : List Ent) (p : Nat) : Prop := ∀ q x, Q a q x → q ≠ p
def But (a b : List Ent) (p : Nat) : Prop := ∀ q x, q ≠ p → Q a q x → Q b q x
theorem More.rfl {a : List Ent} : More a a := fun _ _ h => h
theorem More.trans {a b c : List Ent} (h : More a b) (h' : More b c) : More a c := fun p x hx => h' p x (h p x hx)
theorem More.but {a b c : List Ent} {p : Nat} (h : More a b) (hn : New a p) (h' : But b c p) : More a c := fun q x hx => h' q x (hn q x hx) (h q x hx)
theorem New.less {a b : List Ent} {p : Nat} (h : New b p) (hm : More a b) : New a p := fun q x hx => h q x (hm q x hx)
theorem Q.mem {a b : List Ent} (h : ∀ e ∈ a, e ∈ b) : More a b := fun _ _ ⟨qa, qb, h1, h2, h3⟩ => ⟨qa, qb, h _ h1, h _ h2, h3⟩
structure BE where
  b : Nat
  H : List Nat
  D : List Nat
  es : List Ent
section
variable {P' : Program} {w0 w : World} {T : List Res} {H D : List Nat} {es : List Ent} {f : FuncId} {args : Array Value} {u : Value}
theorem bag_ap {i j : Nat} {x y : Ent} (hS : St w0 w (bag H D es :: T)) (hi : pget es i = some x) (hj : pget es j = some y) (hne : i ≠ j) : apart x y := (hS.holds 0 _ rfl).ap i j x y hi hj hne
/-- What is new lies apart. -/
theorem new_of {b : Nat} {q r : Nm} (hS : St w0 w (bag H D (⟨b, 0, q⟩ :: ⟨b, 2, r⟩ :: es) :: T)) : New es b := fun p x ⟨qa, qb, h1, _, _⟩ e => by
  subst e
  obtain ⟨k, hk⟩ := mem_pget h1
  have := bag_ap hS (i := 0) (j := k + 2) rfl (show pget _ (k + 2) = some _ from hk) (by omega)
  rcases this with h | h | h
  · exact h rfl
  · simp at h
  · simp at h
/-- A fraction is written where it lies. -/
theorem inQ {b : Nat} {z x : Rat} (hS : St w0 w (bag H D es :: T)) (hb : Q es b z) (h : ∀ qa qb T l', (∀ e ∈ es, e ∈ (⟨b, 0, qa⟩ : Ent) :: ⟨b, 2, qb⟩ :: l') → St w0 w (bag H D (⟨b, 0, qa⟩ :: ⟨b, 2, qb⟩ :: l') :: T) → Calls P' f args w fun e w' => ∃ r : B2, RatIs r.q r.r x ∧ e = .returned u ∧ St w0 w' (bag r.H r.D (⟨b, 0, r.q⟩ :: ⟨b, 2, r.r⟩ :: l') :: T)) :
    Calls P' f args w fun e w' => ∃ r : BE, (Q r.es b x ∧ But es r.es b) ∧ e = .returned u ∧ St w0 w' (bag r.H r.D r.es :: T) := by
  obtain ⟨qa, qb, h1, h2, _⟩ := hb
  obtain ⟨k, hk⟩ := mem_pget h1
  obtain ⟨m, hm⟩ := mem_pget h2
  have hkm : k ≠ m := fun e => by
    subst e
    rw [hk] at hm
    cases hm
  refine (lift2 (p := fun q r => RatIs q r x) 0 k m hS rfl hk hm (Bool.eq_false_iff.2 fun h9 => hkm (Nat.eq_of_beq_eq_true h9)) (fun T l' => h qa qb T l')).mono fun e w' ⟨r, hr, he, hS'⟩ => ⟨⟨b, r.H, r.D, _⟩, ⟨⟨r.q, r.r, ?_, ?_, hr⟩, fun q y hne ⟨ya, yb, g1, g2, g3⟩ => ?_⟩, he, hS'⟩
  · refine pget_mem k ?_
    rw [pget_pset, if_neg hkm, pget_pset, if_pos rfl, hk]; rfl
  · refine pget_mem m ?_
    rw [pget_pset, if_pos rfl, pget_pset, if_neg (Ne.symm hkm), hm]; rfl
  · have keep : ∀ o y, (⟨q, o, y⟩ : Ent) ∈ es → (⟨q, o, y⟩ : Ent) ∈ pset (pset es k ⟨b, 0, r.q⟩) m ⟨b, 2, r.r⟩ := fun o y g => by
      obtain ⟨j, hj⟩ := mem_pget g
      have hjk : j ≠ k := fun e => by
        subst e
        rw [hk] at hj
        cases hj
        exact hne rfl
      have hjm : j ≠ m := fun e => by
        subst e
        rw [hm] at hj
        cases hj
        exact hne rfl
      exact pget_mem j (by rw [pget_pset, if_neg hjm, pget_pset, if_neg hjk]; exact hj)
    exact ⟨ya, yb, keep _ _ g1, keep _ _ g2, g3⟩
end
/-- new(Rat). -/
theorem oj_allocQ {P' : Program} {N : Nat} {w0 : World} {F : Frm} {L : List Res} {d : Option Tmp} {ty t : TypeId} {pos : String} {af : Array Edge} {gd : Option (Nat × Bool)} {K : Frm → List Res → Prop} {H D : List Nat} {es : List Ent} (i : Nat) (hz : ∀ w, (zeroValue t).run P' w = .ok (.agg #[.bool false, .slice none 0 0, .bool false, .slice none 0 0]) w) (hi : lget L i = some (bag H D es)) (h : ∀ b H' es', Q es' b 0 ∧ More es es' ∧ New es b → K (fput F d (P b)) (lset L i (bag H' D es'))) : OpJ P' N w0 F L ⟨d, .alloc t, ty, pos, af, gd⟩ K := fun a w hF hS => by
  have hr : (execOp a.eval ⟨d, .alloc t, ty, pos, af, gd⟩).run P' w = .ok (.value (P w.heap.size)) (w.alloc (.cells #[.bool false, .slice none 0 0, .bool false, .slice none 0 0] t)) := by
    simp [execOp, Instr.alloc, hz, newVar, newRow, newObj, run_new, Value.cells]
  unfold Oper.wp
  rw [hr]
  have hnew : New es w.heap.size := fun p x ⟨qa, qb, h1, _, _⟩ e => by
    obtain ⟨cs, T, hg, _⟩ := ((hS.holds i _ hi).ok _ h1).row
    have := (Array.getElem?_eq_some_iff.1 hg).1
    dsimp only at this
    omega
  refine ⟨_, _, h w.heap.size (w.heap.size :: H) (⟨w.heap.size, 0, nm0⟩ :: ⟨w.heap.size, 2, nm0⟩ :: es) ⟨⟨nm0, nm0, by simp, by simp, ratis_zero⟩, Q.mem (fun e he => by simp [he]), hnew⟩, hF.put _ _, ?_⟩
  exact St.bagadd (es := [⟨w.heap.size, 0, nm0⟩, ⟨w.heap.size, 2, nm0⟩]) hS hi (fun x hx => by
    simp only [List.mem_cons, List.not_mem_nil, or_false] at hx
    rcases hx with rfl | rfl <;> exact ⟨rfl, rfl, rfl, rfl⟩) (fun i j x y hi hj hne => by
    have h1 := pget_len hi
    have h2 := pget_len hj
    simp only [List.length_cons, List.length_nil] at h1 h2
    obtain rfl | rfl : i = 0 ∨ i = 1 := by omega
    · obtain rfl : j = 1 := by omega
      simp only [pget, Option.some.injEq] at hi hj
      subst hi hj
      exact .inl (by simp)
    · obtain rfl : j = 0 := by omega
      simp only [pget, Option.some.injEq] at hi hj
      subst hi hj
      exact .inr (by simp))

theorem ne0 {d : Int} (hd : 0 < d) : (d : Rat) ≠ 0 := by
  intro h
  have : d = 0 := Rat.intCast_inj.1 h
  omega
theorem mkdiv {n d : Int} (hd : 0 < d) : mkRat n d.toNat = (n : Rat) / (d : Rat) := by
  rw [Rat.mkRat_eq_div]
  congr 1
  rw [show ((d.toNat : Nat) : Rat) = ((d.toNat : Int) : Rat) from rfl, Int.toNat_of_nonneg (by omega)]
theorem mk_sub {n d n' d' : Int} (hd : 0 < d) (hd' : 0 < d') : mkRat n d.toNat - mkRat n' d'.toNat = mkRat (n * d' - n' * d) (d * d').toNat := by
  rw [mkdiv hd, mkdiv hd', mkdiv (Int.mul_pos hd hd'), Rat.intCast_sub, Rat.intCast_mul, Rat.intCast_mul, Rat.intCast_mul]
  have h1 := ne0 hd
  have h2 := ne0 hd'
  grind
theorem mk_div {n d n' d' : Int} (hd : 0 < d) (hd' : 0 < d') (hn : 0 < n') : mkRat n d.toNat / mkRat n' d'.toNat = mkRat (n * d') (d * n').toNat := by
  rw [mkdiv hd, mkdiv hd', mkdiv (Int.mul_pos hd hn), Rat.intCast_mul, Rat.intCast_mul]
  have h1 := ne0 hd
  have h2 := ne0 hd'
  have h3 := ne0 hn
  grind
structure Bd (a d A E : Int) : Prop where
  lo : -A ≤ a
  hi : a ≤ A
  pos : 0 < d
  le : d ≤ E
theorem Bd.nd {a d A E : Int} (h : Bd a d A E) : -A ≤ (mkRat a d.toNat).num ∧ (mkRat a d.toNat).num ≤ A ∧ 0 < ((mkRat a d.toNat).den : Int) ∧ ((mkRat a d.toNat).den : Int) ≤ E := by
  obtain ⟨h1, h2⟩ := mk_bd (n := a) h.pos
  have h3 := (mkRat a d.toNat).den_pos
  have h4 := h.lo
  have h5 := h.hi
  have h6 := h.le
  omega
theorem mk_sgn {a d : Int} (hd : 0 < d) : (mkRat a d.toNat).num.sign = a.sign := by
  have h := mk_cmp (n := a) (d := d) (n' := 0) (d' := 1) hd (by decide)
  rw [show mkRat 0 (1 : Int).toNat = 0 from Rat.zero_mkRat _, show mkRat a d.toNat - 0 = mkRat a d.toNat by rw [Rat.sub_eq_add_neg, Rat.neg_zero, Rat.add_zero]] at h
  rw [h]
  unfold cmpv
  split
  · rw [Int.sign_eq_neg_one_of_neg (by omega)]
  · split
    · rw [Int.sign_eq_one_of_pos (by omega)]
    · rw [show a = 0 by omega]; rfl
theorem mk_eq {a d a' d' : Int} (hd : 0 < d) (hd' : 0 < d') (h : a * d' = a' * d) : mkRat a d.toNat = mkRat a' d'.toNat := by
  rw [Rat.mkRat_eq_iff (by omega) (by omega), Int.toNat_of_nonneg (by omega), Int.toNat_of_nonneg (by omega)]
  exact h
section
variable {w0 w : World} {T : List Res} {H D : List Nat} {es : List Ent}
theorem addQ {b p p' : Nat} {z : Rat} {a d a' d' A E A' E' : Int} (hS : St w0 w (bag H D es :: T)) (hb : Q es b z) (hx : Q es p (mkRat a d.toNat)) (hy : Q es p' (mkRat a' d'.toNat)) (B : Bd a d A E) (B' : Bd a' d' A' E') (g1 : A * E' < 9223372036854775808) (g2 : A' * E < 9223372036854775808) (g3 : E * E' < 18446744073709551616) :
    Calls Try.prog 78 #[P b, P p, P p'] w fun e w' => ∃ r : BE, (Q r.es b (mkRat (a * d' + a' * d) (d * d').toNat) ∧ But es r.es b) ∧ e = .returned (P b) ∧ St w0 w' (bag r.H r.D r.es :: T) := by
  obtain ⟨xa, xb, mxa, mxb, hx⟩ := hx
  obtain ⟨ya, yb, mya, myb, hy⟩ := hy
  obtain ⟨n1, n2, n3, n4⟩ := B.nd
  obtain ⟨k1, k2, k3, k4⟩ := B'.nd
  have m1 := prod_bd (a := (mkRat a d.toNat).num) (b := ((mkRat a' d'.toNat).den : Int)) (A := A) (B := E') n1 n2 (by omega) k4
  have m2 := prod_bd (a := (mkRat a' d'.toNat).num) (b := ((mkRat a d.toNat).den : Int)) (A := A') (B := E) k1 k2 (by omega) n4
  have m3 := prod_bd (a := ((mkRat a d.toNat).den : Int)) (b := ((mkRat a' d'.toNat).den : Int)) (A := E) (B := E') (by omega) n4 (by omega) k4
  rw [← mk_add B.pos B'.pos]
  exact inQ hS hb (fun qa qb T l' hm hS => addR hS (hm _ mxa) (hm _ mxb) (hm _ mya) (hm _ myb) hx hy (by omega) (by omega) (by omega) (by omega) (by omega))
theorem subQ {b p p' : Nat} {z : Rat} {a d a' d' A E A' E' : Int} (hS : St w0 w (bag H D es :: T)) (hb : Q es b z) (hx : Q es p (mkRat a d.toNat)) (hy : Q es p' (mkRat a' d'.toNat)) (B : Bd a d A E) (B' : Bd a' d' A' E') (g1 : A * E' < 9223372036854775808) (g2 : A' * E < 9223372036854775808) (g3 : E * E' < 18446744073709551616) :
    Calls Try.prog 80 #[P b, P p, P p'] w fun e w' => ∃ r : BE, (Q r.es b (mkRat (a * d' - a' * d) (d * d').toNat) ∧ But es r.es b) ∧ e = .returned (P b) ∧ St w0 w' (bag r.H r.D r.es :: T) := by
  obtain ⟨xa, xb, mxa, mxb, hx⟩ := hx
  obtain ⟨ya, yb, mya, myb, hy⟩ := hy
  obtain ⟨n1, n2, n3, n4⟩ := B.nd
  obtain ⟨k1, k2, k3, k4⟩ := B'.nd
  have m1 := prod_bd (a := (mkRat a d.toNat).num) (b := ((mkRat a' d'.toNat).den : Int)) (A := A) (B := E') n1 n2 (by omega) k4
  have m2 := prod_bd (a := (mkRat a' d'.toNat).num) (b := ((mkRat a d.toNat).den : Int)) (A := A') (B := E) k1 k2 (by omega) n4
  have m3 := prod_bd (a := ((mkRat a d.toNat).den : Int)) (b := ((mkRat a' d'.toNat).den : Int)) (A := E) (B := E') (by omega) n4 (by omega) k4
  rw [← mk_sub B.pos B'.pos]
  exact inQ hS hb (fun qa qb T l' hm hS => subR hS (hm _ mxa) (hm _ mxb) (hm _ mya) (hm _ myb) hx hy (by omega) (by omega) (by omega) (by omega) (by omega))
theorem mulQ {b p p' : Nat} {z : Rat} {a d a' d' A E A' E' : Int} (hS : St w0 w (bag H D es :: T)) (hb : Q es b z) (hx : Q es p (mkRat a d.toNat)) (hy : Q es p' (mkRat a' d'.toNat)) (B : Bd a d A E) (B' : Bd a' d' A' E') (g1 : A * A' < 18446744073709551616) (g2 : A < 18446744073709551616) (g3 : A' < 18446744073709551616) (g4 : E * E' < 18446744073709551616) :
    Calls Try.prog 79 #[P b, P p, P p'] w fun e w' => ∃ r : BE, (Q r.es b (mkRat (a * a') (d * d').toNat) ∧ But es r.es b) ∧ e = .returned (P b) ∧ St w0 w' (bag r.H r.D r.es :: T) := by
  obtain ⟨xa, xb, mxa, mxb, hx⟩ := hx
  obtain ⟨ya, yb, mya, myb, hy⟩ := hy
  obtain ⟨n1, n2, n3, n4⟩ := B.nd
  obtain ⟨k1, k2, k3, k4⟩ := B'.nd
  have m1 := prod_bd (a := (mkRat a d.toNat).num) (b := (mkRat a' d'.toNat).num) (A := A) (B := A') n1 n2 k1 k2
  have m3 := prod_bd (a := ((mkRat a d.toNat).den : Int)) (b := ((mkRat a' d'.toNat).den : Int)) (A := E) (B := E') (by omega) n4 (by omega) k4
  rw [← mk_mul B.pos B'.pos]
  exact inQ hS hb (fun qa qb T l' hm hS => mulR hS (hm _ mxa) (hm _ mxb) (hm _ mya) (hm _ myb) hx hy (by omega) (by omega) (sm_of (by omega) (by omega)) (sm_of (by omega) (by omega)) (by omega))
theorem quoQ {b p p' : Nat} {z : Rat} {a d a' d' A E A' E' : Int} (hS : St w0 w (bag H D es :: T)) (hb : Q es b z) (hx : Q es p (mkRat a d.toNat)) (hy : Q es p' (mkRat a' d'.toNat)) (B : Bd a d A E) (B' : Bd a' d' A' E') (ha : 0 < a') (g1 : A * E' < 18446744073709551616) (g2 : A < 18446744073709551616) (g3 : E * A' < 18446744073709551616) (g4 : E' < 18446744073709551616) :
    Calls Try.prog 77 #[P b, P p, P p'] w fun e w' => ∃ r : BE, (Q r.es b (mkRat (a * d') (d * a').toNat) ∧ But es r.es b) ∧ e = .returned (P b) ∧ St w0 w' (bag r.H r.D r.es :: T) := by
  obtain ⟨xa, xb, mxa, mxb, hx⟩ := hx
  obtain ⟨ya, yb, mya, myb, hy⟩ := hy
  obtain ⟨n1, n2, n3, n4⟩ := B.nd
  obtain ⟨k1, k2, k3, k4⟩ := B'.nd
  have m1 := prod_bd (a := (mkRat a d.toNat).num) (b := ((mkRat a' d'.toNat).den : Int)) (A := A) (B := E') n1 n2 (by omega) k4
  have m2 := prod_bd (a := ((mkRat a d.toNat).den : Int)) (b := (mkRat a' d'.toNat).num) (A := E) (B := A') (by omega) n4 k1 k2
  have hp : 0 < (mkRat a' d'.toNat).num := Int.sign_eq_one_iff_pos.1 (by rw [mk_sgn B'.pos]; exact Int.sign_eq_one_of_pos ha)
  rw [← mk_div B.pos B'.pos ha]
  exact inQ hS hb (fun qa qb T l' hm hS => quoR hS (hm _ mxa) (hm _ mxb) (hm _ mya) (hm _ myb) hx hy (by omega) (by omega) (sm_of (by omega) (by omega)) hp (by omega) (by omega))
theorem setQ {b p : Nat} {z : Rat} {a d A E : Int} (hS : St w0 w (bag H D es :: T)) (hb : Q es b z) (hx : Q es p (mkRat a d.toNat)) (B : Bd a d A E) (g1 : A < 18446744073709551616) (g2 : E < 18446744073709551616) :
    Calls Try.prog 76 #[P b, P p] w fun e w' => ∃ r : BE, (Q r.es b (mkRat a d.toNat) ∧ But es r.es b) ∧ e = .returned (P b) ∧ St w0 w' (bag r.H r.D r.es :: T) := by
  obtain ⟨xa, xb, mxa, mxb, hx⟩ := hx
  obtain ⟨n1, n2, n3, n4⟩ := B.nd
  exact inQ hS hb (fun qa qb T l' hm hS => setR hS (hm _ mxa) (hm _ mxb) hx (by omega) (by omega) (by omega))
theorem signQ {p : Nat} {a d : Int} (hS : St w0 w (bag H D es :: T)) (hx : Q es p (mkRat a d.toNat)) (hd : 0 < d) :
    Calls Try.prog 75 #[P p] w fun e w' => ∃ r : BG, True ∧ e = .returned (.int .i64 a.sign) ∧ St w0 w' (bag r.H r.D es :: T) := by
  obtain ⟨xa, xb, mxa, mxb, hx⟩ := hx
  rw [← mk_sgn hd]
  exact signR hS mxa mxb hx
theorem cmpQ {p p' : Nat} {a d a' d' A E A' E' : Int} (hS : St w0 w (bag H D es :: T)) (hx : Q es p (mkRat a d.toNat)) (hy : Q es p' (mkRat a' d'.toNat)) (B : Bd a d A E) (B' : Bd a' d' A' E') (g1 : A * E' < 9223372036854775808) (g2 : A' * E < 9223372036854775808) (g3 : E * E' < 18446744073709551616) :
    Calls Try.prog 39 #[P p, P p'] w fun e w' => ∃ r : BG, True ∧ e = .returned (.int .i64 (cmpv a d a' d')) ∧ St w0 w' (bag r.H r.D es :: T) := by
  obtain ⟨xa, xb, mxa, mxb, hx⟩ := hx
  obtain ⟨ya, yb, mya, myb, hy⟩ := hy
  obtain ⟨n1, n2, n3, n4⟩ := B.nd
  obtain ⟨k1, k2, k3, k4⟩ := B'.nd
  have m1 := prod_bd (a := (mkRat a d.toNat).num) (b := ((mkRat a' d'.toNat).den : Int)) (A := A) (B := E') n1 n2 (by omega) k4
  have m2 := prod_bd (a := (mkRat a' d'.toNat).num) (b := ((mkRat a d.toNat).den : Int)) (A := A') (B := E) k1 k2 (by omega) n4
  have m3 := prod_bd (a := ((mkRat a d.toNat).den : Int)) (b := ((mkRat a' d'.toNat).den : Int)) (A := E) (B := E') (by omega) n4 (by omega) k4
  rw [← mk_cmp B.pos B'.pos]
  exact cmpR hS mxa mxb mya myb hx hy (by omega) (by omega) (by omega) (by omega) (by omega)
theorem newQ (hS : St w0 w (bag H D es :: T)) (va vb : Int) (g0 : -9223372036854775808 ≤ va) (g1 : va ≤ 9223372036854775807) (g2 : 0 < vb) (g3 : vb ≤ 9223372036854775807) :
    Calls Try.prog 38 #[.int .i64 va, .int .i64 vb] w fun e w' => ∃ r : BE, (Q r.es r.b (mkRat va vb.toNat) ∧ More es r.es ∧ New es r.b) ∧ e = .returned (P r.b) ∧ St w0 w' (bag r.H r.D r.es :: T) :=
  (newR hS va vb g0 g1 g2 g3).mono fun e w' ⟨r, hr, he, hS'⟩ => ⟨⟨r.b, r.H, r.D, _⟩, ⟨⟨r.q, r.r, by simp, by simp, hr⟩, Q.mem (fun e he => by simp [he]), new_of hS'⟩, he, hS'⟩
end
end Go.Proofs.Ytpknjfeiiaopgaa.Gps
