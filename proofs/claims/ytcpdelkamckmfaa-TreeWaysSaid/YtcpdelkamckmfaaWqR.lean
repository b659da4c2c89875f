/- The reference of wfq: functions made in a function; times as fractions of 27720. -/
import Derived.Test.YtcpdelkamckmfaaWqF
import Derived.Test.YtcpdelkamckmfaaFrC
namespace Go.Proofs.Ytcpdelkamckmfaa.E
open Go.RowKit
section
variable {P : Program} {N : Nat} {w0 : World} {F : Frm} {L : List Res} {d : Option Tmp} {ty : TypeId} {pos : String} {af : Array Edge} {gd : Option (Nat × Bool)} {K : Frm → List Res → Prop}
/-- A function that holds values of the one around it. -/
theorem y_makeFunc {f : FuncId} {xs : Array Operand} {vs : List Value} (hx : FEL N F xs.toList vs) : Yld P N w0 F L ⟨d, .makeFunc (.func f) #[] xs, ty, pos, af, gd⟩ (.func (.func f) #[] vs.toArray) := fun a w hF _ => by
  have hargs : xs.map a.eval = vs.toArray := by
    have := hx a hF
    apply Array.toList_inj.1
    simpa using this
  simp [execOp, Instr.makeFunc, hargs]
/-- Its call. -/
theorem oj_callF {α : Type} {xs : Array Operand} {ts : Array TypeId} {f : FuncId} {vs cs : List Value} {p : α → Prop} {r : α → Value} {M : α → List Res} {fc : Operand} (hcall : ∀ args w, (callFunc f args).run P w = .ok (.enter f args) w) (hf : FE N F fc (.func (.func f) #[] cs.toArray)) (hx : FEL N F xs.toList vs)
    (hc : ∀ w, St w0 w L → Calls P f (vs ++ cs).toArray w (fun e w' => ∃ q : α, p q ∧ e = .returned (r q) ∧ St w0 w' (M q))) (h : ∀ q, p q → K (fput F d (r q)) (M q)) : OpJ P N w0 F L ⟨d, .call ⟨.value fc, xs, ts⟩, ty, pos, af, gd⟩ K := fun a w hF hS => by
  have hargs : xs.map a.eval = vs.toArray := by
    have := hx a hF
    apply Array.toList_inj.1
    simpa using this
  have hr : (execOp a.eval ⟨d, .call ⟨.value fc, xs, ts⟩, ty, pos, af, gd⟩).run P w = .ok (.enter f (vs ++ cs).toArray) w := by
    simp [execOp, resolve, hf a hF, Deferred.ofValue, invoke, hargs, hcall]
  unfold Oper.wp
  rw [hr]
  refine (hc w hS).mono fun e w' ⟨q, hp, he, hS'⟩ => ?_
  subst he
  exact ⟨_, _, h q hp, hF.put _ _, hS'⟩
end
end Go.Proofs.Ytcpdelkamckmfaa.E
namespace Go.Proofs.Ytcpdelkamckmfaa.Wfq
open Go.RowKit Go.Proofs.Ytcpdelkamckmfaa.E Go.Proofs.Ytcpdelkamckmfaa.Scfq Go.Proofs.Ytcpdelkamckmfaa.Big Go.Proofs.Ytcpdelkamckmfaa.Frac

theorem mk_plus {z b s w : Int} (hw : 1 ≤ w ∧ w ≤ 12) : mkRat z 27720 + mkRat (b * s) w.toNat = mkRat (z + b * (27720 / w * s)) 27720 := by
  have h := mk_add (n := z) (n' := b * s) (d := 27720) (d' := w) (by decide) (by omega)
  rw [show (27720 : Int).toNat = 27720 from rfl] at h
  rw [h, Rat.mkRat_eq_iff (by omega) (by decide), Int.mul_left_comm]
  generalize b * s = p
  obtain ⟨h1, h2⟩ := hw
  rcases (show w = 1 ∨ w = 2 ∨ w = 3 ∨ w = 4 ∨ w = 5 ∨ w = 6 ∨ w = 7 ∨ w = 8 ∨ w = 9 ∨ w = 10 ∨ w = 11 ∨ w = 12 by omega) with rfl | rfl | rfl | rfl | rfl | rfl | rfl | rfl | rfl | rfl | rfl | rfl <;> simp <;> omega
theorem mk_one {z b : Int} : mkRat z 27720 + mkRat b (1 : Int).toNat = mkRat (z + b * 27720) 27720 := by
  have h := mk_add (n := z) (n' := b) (d := 27720) (d' := 1) (by decide) (by decide)
  rw [show (27720 : Int).toNat = 27720 from rfl] at h
  rw [h, Rat.mkRat_eq_iff (by decide) (by decide)]
  simp
/-- A time that lies at p. -/
def HoldR (es : List Ent) (p : Nat) (z : Int) : Prop := ∃ qa qb, (⟨p, 0, qa⟩ : Ent) ∈ es ∧ (⟨p, 2, qb⟩ : Ent) ∈ es ∧ RatIs qa qb (mkRat z 27720)
def Ext (a b : List Ent) : Prop := ∀ x ∈ a, x ∈ b
theorem Ext.rfl {a : List Ent} : Ext a a := fun _ h => h
theorem Ext.trans {a b c : List Ent} (h : Ext a b) (h' : Ext b c) : Ext a c := fun x hx => h' x (h x hx)
theorem Ext.cons {a b : List Ent} (x : Ent) (h : Ext a b) : Ext a (x :: b) := fun y hy => List.mem_cons_of_mem _ (h y hy)
theorem HoldR.mono {a b : List Ent} {p : Nat} {z : Int} (h : HoldR a p z) (hx : Ext a b) : HoldR b p z := by
  obtain ⟨qa, qb, h1, h2, h3⟩ := h
  exact ⟨qa, qb, hx _ h1, hx _ h2, h3⟩
theorem holdR_new {es : List Ent} {p : Nat} : HoldR (⟨p, 0, nm0⟩ :: ⟨p, 2, nm0⟩ :: es) p 0 := ⟨nm0, nm0, by simp, by simp, by rw [show mkRat 0 27720 = 0 from Rat.zero_mkRat _]; exact ratis_zero⟩
theorem time_bd {z : Int} (h : 0 ≤ z ∧ z ≤ 4000000000000) : (0 ≤ (mkRat z 27720).num ∧ (mkRat z 27720).num ≤ 4000000000000) ∧ 0 < ((mkRat z 27720).den : Int) ∧ ((mkRat z 27720).den : Int) ≤ 27720 := by
  have h1 := mk_bd (n := z) (d := 27720) (by decide)
  rw [show (27720 : Int).toNat = 27720 from rfl] at h1
  have h2 : 0 ≤ (mkRat z 27720).num := by
    have := mk_num (n := z) (d := 27720) (by decide)
    rw [show (27720 : Int).toNat = 27720 from rfl] at this
    rw [this.1]
    exact Int.tdiv_nonneg h.1 (by omega)
  have h3 := (mkRat z 27720).den_pos
  omega
theorem mul_in {a b A B : Int} (h0 : 0 ≤ a) (h1 : a ≤ A) (h2 : 0 ≤ b) (h3 : b ≤ B) : 0 ≤ a * b ∧ a * b ≤ A * B := ⟨Int.mul_nonneg h0 h2, Int.mul_le_mul h1 h3 h2 (by omega)⟩
/-- Cmp of two times. -/
theorem cmpZ {w0 w : World} {T : List Res} {H D : List Nat} {es : List Ent} (hS : St w0 w (bag H D es :: T)) {p p' : Nat} {a b : Int} (ha : HoldR es p a) (hb : HoldR es p' b) (a0 : 0 ≤ a ∧ a ≤ 4000000000000) (b0 : 0 ≤ b ∧ b ≤ 4000000000000) :
    Calls Try.prog 24 #[.pointer (some ⟨p, 0, none⟩), .pointer (some ⟨p', 0, none⟩)] w fun e w' => ∃ r : BG × Int, (r.2 = cmpv a 27720 b 27720 ∧ (r.2 < 0 ↔ a < b) ∧ (0 < r.2 ↔ b < a)) ∧ e = .returned (.int .i64 r.2) ∧ St w0 w' (bag r.1.H r.1.D es :: T) := by
  obtain ⟨xa, xb, mxa, mxb, hx⟩ := ha
  obtain ⟨ya, yb, mya, myb, hy⟩ := hb
  obtain ⟨⟨h1, h2⟩, h3, h4⟩ := time_bd a0
  obtain ⟨⟨g1, g2⟩, g3, g4⟩ := time_bd b0
  have m1 := mul_in h1 h2 (Int.le_of_lt g3) g4
  have m2 := mul_in g1 g2 (Int.le_of_lt h3) h4
  have m3 := mul_in (Int.le_of_lt h3) h4 (Int.le_of_lt g3) g4
  have hc := mk_cmp (n := a) (d := 27720) (n' := b) (d' := 27720) (by decide) (by decide)
  rw [show (27720 : Int).toNat = 27720 from rfl] at hc
  refine (cmpR hS mxa mxb mya myb hx hy (by omega) (by omega) (by omega) (by omega) (by omega)).mono fun e w' ⟨r, _, he, hS'⟩ => ⟨(r, cmpv a 27720 b 27720), ⟨rfl, ?_⟩, ?_, hS'⟩
  · show (cmpv a 27720 b 27720 < 0 ↔ a < b) ∧ (0 < cmpv a 27720 b 27720 ↔ b < a)
    unfold cmpv
    split
    · omega
    · split <;> omega
  · rw [he, hc]
/-- The flows of the reference. -/
structure Rf where
  A1 : Option Addr
  c1 : Nat
  bs : List Int
  pb : Nat
  pe : Nat
def Rf.nil : Rf := ⟨none, 0, [], 0, 0⟩
def cR (f : Rf) : List Value := [.slice f.A1 f.bs.length f.c1, .pointer (some ⟨f.pb, 0, none⟩), .pointer (some ⟨f.pe, 0, none⟩)]
theorem hcR : ∀ f, (cR f).length = 3 := fun _ => rfl
def Rf.bV (f : Rf) : Vs := ⟨f.A1, f.bs.length, f.c1, cI f.bs⟩
structure RelF (es : List Ent) (f : Rf) (q : Q) : Prop where
  bs : f.bs = q.bs
  bg : HoldR es f.pb q.bg
  en : HoldR es f.pe q.en
theorem RelF.mono {a b : List Ent} {f : Rf} {q : Q} (h : RelF a f q) (hx : Ext a b) : RelF b f q := ⟨h.bs, h.bg.mono hx, h.en.mono hx⟩
def Rel (es : List Ent) (n : Nat) (l : List Rf) (fs : List Q) : Prop := ∀ k, k < n → RelF es (l.getD k Rf.nil) (gq fs k)
theorem Rel.mono {a b : List Ent} {n : Nat} {l : List Rf} {fs : List Q} (h : Rel a n l fs) (hx : Ext a b) : Rel b n l fs := fun k hk => (h k hk).mono hx
theorem Rel.set {es : List Ent} {n : Nat} {l : List Rf} {fs : List Q} (h : Rel es n l fs) {k : Nat} {f : Rf} {q : Q} (hl : l.length = n) (hf : fs.length = n) (hk : k < n) (hq : RelF es f q) : Rel es n (l.set k f) (fs.set k q) := fun j hj => by
  rw [gq_set (by omega), getD_set (by omega)]
  by_cases e : j = k
  · rw [if_pos e, if_pos e]; exact hq
  · rw [if_neg e, if_neg e]; exact h j hj
theorem cut_r {l : List Rf} {k : Nat} : (l.map Rf.bV).set k ((Rf.bV (l.getD k Rf.nil)).tl 1) = (l.set k ⟨cutA (l.getD k Rf.nil).A1 1 (l.getD k Rf.nil).c1 1, (l.getD k Rf.nil).c1 - 1, (l.getD k Rf.nil).bs.drop 1, (l.getD k Rf.nil).pb, (l.getD k Rf.nil).pe⟩).map Rf.bV := by
  rw [List.map_set]
  simp [Vs.tl, Rf.bV, cI, List.map_drop]
/-- The first of the least begins of the first k. -/
def Sb (fs : List Q) (k : Nat) (b : Int) : Prop := (b = -1 ∧ ∀ j, j < k → (gq fs j).bs.length = 0) ∨ (0 ≤ b ∧ b.toNat < k ∧ 0 < (gq fs b.toNat).bs.length ∧ ∀ j, j < k → 0 < (gq fs j).bs.length → (gq fs b.toNat).bg ≤ (gq fs j).bg)
theorem sb_zero (fs : List Q) : Sb fs 0 (-1) := .inl ⟨rfl, fun j h => by omega⟩
theorem Sb.cases {fs : List Q} {k : Nat} {b : Int} (h : Sb fs k b) : b = -1 ∨ (0 ≤ b ∧ b.toNat < k) := h.elim (fun h => .inl h.1) (fun h => .inr ⟨h.1, h.2.1⟩)
theorem Sb.skip {fs : List Q} {k : Nat} {b : Int} (h : Sb fs k b) (h0 : (gq fs k).bs.length = 0) : Sb fs (k + 1) b := by
  rcases h with ⟨h1, h2⟩ | ⟨h1, h2, h3, h4⟩
  · refine .inl ⟨h1, fun j hj => ?_⟩
    by_cases e : j = k
    · subst e; exact h0
    · exact h2 j (by omega)
  · refine .inr ⟨h1, by omega, h3, fun j hj hp => ?_⟩
    by_cases e : j = k
    · subst e; omega
    · exact h4 j (by omega) hp
theorem Sb.take {fs : List Q} {k : Nat} {b : Int} (h : Sb fs k b) (h0 : 0 < (gq fs k).bs.length) (hb : b < 0 ∨ (gq fs k).bg < (gq fs b.toNat).bg) : Sb fs (k + 1) (k : Int) := by
  refine .inr ⟨by omega, by omega, by simpa using h0, fun j hj hp => ?_⟩
  simp only [Int.toNat_natCast]
  by_cases e : j = k
  · subst e; exact Int.le_refl _
  · rcases h with ⟨h1, h2⟩ | ⟨h1, h2, h3, h4⟩
    · have := h2 j (by omega); omega
    · have := h4 j (by omega) hp; omega
theorem Sb.keep {fs : List Q} {k : Nat} {b : Int} (h : Sb fs k b) (h0 : 0 ≤ b) (hb : (gq fs b.toNat).bg ≤ (gq fs k).bg) : Sb fs (k + 1) b := by
  rcases h with ⟨h1, _⟩ | ⟨h1, h2, h3, h4⟩
  · omega
  · refine .inr ⟨h1, by omega, h3, fun j hj hp => ?_⟩
    by_cases e : j = k
    · subst e; exact hb
    · exact h4 j (by omega) hp
theorem Sb.least {fs : List Q} {n : Nat} {b : Int} (h : Sb fs n b) (h0 : 0 ≤ b) : Least fs n (gq fs b.toNat).bg := by
  rcases h with ⟨h1, _⟩ | ⟨h1, h2, h3, h4⟩
  · omega
  · exact ⟨⟨b.toNat, h2, h3, rfl⟩, h4⟩
/-- The bag's entries, under a new name. -/
theorem tr_bagEq {P : Program} {N : Nat} {w0 : World} {Q : Exit → Act → World → Prop} {F : Frm} {L : List Res} {c : Code} {H D : List Nat} {es : List Ent} (i : Nat) (hi : lget L i = some (bag H D es)) (h : ∀ es', es' = es → TR P N w0 Q c F (lset L i (bag H D es'))) : TR P N w0 Q c F L := tr_as i hi rfl (h es rfl)
/-- The flows while they are made. -/
def cR0 : Option Rf → List Value
  | none => [.slice none 0 0, .pointer none, .pointer none]
  | some f => cR f
theorem hcR0 : ∀ f, (cR0 f).length = 3 := fun f => by cases f <;> rfl
def half (n k : Nat) (l : List Rf) : List (Option Rf) := l.map some ++ List.replicate (n - k) none
theorem half_len {n k : Nat} {l : List Rf} (hl : l.length = k) (hk : k ≤ n) : (half n k l).length = n := by unfold half; simp; omega
theorem half_set {n k : Nat} {l : List Rf} {x : Rf} (hl : l.length = k) (hk : k < n) : (half n k l).set k (some x) = half n (k + 1) (l ++ [x]) := by
  unfold half
  rw [show n - k = (n - (k + 1)) + 1 by omega, List.replicate_succ, List.set_append, if_neg (by simp [hl])]
  simp [hl]
theorem half_all {n k : Nat} {l : List Rf} (hk : n ≤ k) : (half n k l).flatMap cR0 = l.flatMap cR := by
  unfold half
  rw [show n - k = 0 by omega]
  simp [List.flatMap_map, cR0]
def Ini (es : List Ent) (k : Nat) (l : List Rf) : Prop := l.length = k ∧ ∀ f ∈ l, f.A1 = none ∧ f.c1 = 0 ∧ f.bs = [] ∧ HoldR es f.pb 0 ∧ HoldR es f.pe 0
theorem ini_zero : Ini [] 0 [] := ⟨rfl, fun f h => by simp at h⟩
theorem Ini.step {es es1 : List Ent} {k : Nat} {l : List Rf} {p q : Nat} (h : Ini es k l) (hx : Ext es es1) (hp : HoldR es1 p 0) (hq : HoldR es1 q 0) : Ini es1 (k + 1) (l ++ [⟨none, 0, [], p, q⟩]) := by
  refine ⟨by simp [h.1], fun f hf => ?_⟩
  rcases List.mem_append.1 hf with hf | hf
  · obtain ⟨h1, h2, h3, h4, h5⟩ := h.2 f hf
    exact ⟨h1, h2, h3, h4.mono hx, h5.mono hx⟩
  · simp only [List.mem_singleton] at hf
    subst hf
    exact ⟨rfl, rfl, rfl, hp, hq⟩
theorem Ini.bV {es : List Ent} {k : Nat} {l : List Rf} (h : Ini es k l) : l.map Rf.bV = List.replicate k Vs.nil := by
  rw [List.eq_replicate_iff]
  refine ⟨by simp [h.1], fun v hv => ?_⟩
  obtain ⟨f, hf, rfl⟩ := List.mem_map.1 hv
  obtain ⟨h1, h2, h3, _⟩ := h.2 f hf
  cases f
  subst h1 h2 h3
  rfl
theorem Ini.rel {es : List Ent} {k n : Nat} {l : List Rf} (h : Ini es k l) (hk : k = n) : Rel es n l (List.replicate n Q.nil) := fun j hj => by
  subst hk
  rw [gq_nil]
  have hl : j < l.length := by rw [h.1]; exact hj
  rw [getD_lt hl]
  obtain ⟨_, _, h3, h4, h5⟩ := h.2 _ (List.getElem_mem hl)
  exact ⟨h3, h4, h5⟩
theorem sb_none {fs : List Q} {n k : Nat} {b : Int} (hk : k = n) (h : Sb fs k b) (hb : b < 0) : ∀ j, j < n → (gq fs j).bs.length = 0 := by
  subst hk
  rcases h with ⟨_, h⟩ | ⟨h, _⟩
  · exact h
  · omega
end Go.Proofs.Ytcpdelkamckmfaa.Wfq
