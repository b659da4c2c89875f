/- The reference of hier, plain: its nodes with times as fractions; the loops upward. -/
import Derived.Test.YtcpdelkamckmfaaHrT
import Derived.Test.YtcpdelkamckmfaaHrE
namespace Go.Proofs.Ytcpdelkamckmfaa.Hier
open Go.RowKit Go.Proofs.Ytcpdelkamckmfaa.E Go.Proofs.Ytcpdelkamckmfaa.Wfq Go.Proofs.Ytcpdelkamckmfaa.Big Go.Proofs.Ytcpdelkamckmfaa.Frac
open Go.Proofs.Ytcpdelkamckmfaa.Scfq (hd hd_mem)

theorem time_bd2 {z : Int} (h : 0 ≤ z ∧ z ≤ 100000000000000) : (0 ≤ (mkRat z 27720).num ∧ (mkRat z 27720).num ≤ 100000000000000) ∧ 0 < ((mkRat z 27720).den : Int) ∧ ((mkRat z 27720).den : Int) ≤ 27720 := by
  have h1 := mk_bd (n := z) (d := 27720) (by decide)
  rw [show (27720 : Int).toNat = 27720 from rfl] at h1
  have h2 : 0 ≤ (mkRat z 27720).num := by
    have := mk_num (n := z) (d := 27720) (by decide)
    rw [show (27720 : Int).toNat = 27720 from rfl] at this
    rw [this.1]
    exact Int.tdiv_nonneg h.1 (by omega)
  have h3 := (mkRat z 27720).den_pos
  omega
/-- Cmp of two times. -/
theorem cmpW {w0 w : World} {T : List Res} {H D : List Nat} {es : List Ent} (hS : St w0 w (bag H D es :: T)) {p p' : Nat} {a b : Int} (ha : HoldR es p a) (hb : HoldR es p' b) (a0 : 0 ≤ a ∧ a ≤ 100000000000000) (b0 : 0 ≤ b ∧ b ≤ 100000000000000) :
    Calls Try.prog 24 #[.pointer (some ⟨p, 0, none⟩), .pointer (some ⟨p', 0, none⟩)] w fun e w' => ∃ r : BG × Int, (r.2 = cmpv a 27720 b 27720 ∧ (r.2 < 0 ↔ a < b) ∧ (0 < r.2 ↔ b < a)) ∧ e = .returned (.int .i64 r.2) ∧ St w0 w' (bag r.1.H r.1.D es :: T) := by
  obtain ⟨xa, xb, mxa, mxb, hx⟩ := ha
  obtain ⟨ya, yb, mya, myb, hy⟩ := hb
  obtain ⟨⟨h1, h2⟩, h3, h4⟩ := time_bd2 a0
  obtain ⟨⟨g1, g2⟩, g3, g4⟩ := time_bd2 b0
  have m1 := mul_in h1 h2 (Int.le_of_lt g3) g4
  have m2 := mul_in g1 g2 (Int.le_of_lt h3) h4
  have m3 := mul_in (Int.le_of_lt h3) h4 (Int.le_of_lt g3) g4
  have hc := mk_cmp (n := a) (d := 27720) (n' := b) (d' := 27720) (by decide) (by decide)
  rw [show (27720 : Int).toNat = 27720 from rfl] at hc
  refine (cmpR hS mxa mxb mya myb hx hy (by omega) (by omega) (by omega) (by omega) (by omega)).mono fun e w' ⟨r, _, he, hS'⟩ => ⟨(r, cmpv a 27720 b 27720), ⟨rfl, ?_⟩, ?_, hS'⟩
  · show (cmpv a 27720 b 27720 < 0 ↔ a < b) ∧ (0 < cmpv a 27720 b 27720 ↔ b < a)
    unfold cmpv
    split
    · omega
    · split <;> omega
  · rw [he, hc]
/-- A node of the reference. -/
structure Rn where
  leaf : Int
  bytes : Int
  pb : Nat
  pe : Nat
  pt : Nat
  wA : Option Addr
  wc : Nat
  ws : List Int
def Rn.nil : Rn := ⟨0, 0, 0, 0, 0, none, 0, []⟩
def cX (f : Rn) : List Value := [(.int .i64 f.leaf), (.int .i64 f.bytes), .pointer (some ⟨f.pb, 0, none⟩), .pointer (some ⟨f.pe, 0, none⟩), .pointer (some ⟨f.pt, 0, none⟩), .slice f.wA f.ws.length f.wc]
theorem hcX : ∀ f, (cX f).length = 6 := fun _ => rfl
def Rn.wV (f : Rn) : Vs := ⟨f.wA, f.ws.length, f.wc, cI f.ws⟩
structure RelD (es : List Ent) (f : Rn) (d : D) : Prop where
  leaf : f.leaf = d.leaf
  bytes : f.bytes = d.bytes
  ws : f.ws = d.ws
  bg : HoldR es f.pb d.bg
  en : HoldR es f.pe d.en
  tm : HoldR es f.pt d.tm
theorem RelD.mono {a b : List Ent} {f : Rn} {d : D} (h : RelD a f d) (hx : Ext a b) : RelD b f d := ⟨h.leaf, h.bytes, h.ws, h.bg.mono hx, h.en.mono hx, h.tm.mono hx⟩
structure RelT (es : List Ent) (t : Tr) (l : List Rn) (s : List D) : Prop where
  len : l.length = t.n
  sen : s.length = t.n
  at_ : ∀ k, k < t.n → RelD es (l.getD k Rn.nil) (dn s k)
theorem RelT.mono {a b : List Ent} {t : Tr} {l : List Rn} {s : List D} (h : RelT a t l s) (hx : Ext a b) : RelT b t l s := ⟨h.len, h.sen, fun k hk => (h.at_ k hk).mono hx⟩
theorem RelT.set {es : List Ent} {t : Tr} {l l1 : List Rn} {s : List D} (h : RelT es t l s) {k : Nat} {f : Rn} {d : D} (hl : l.set k f = l1) (hk : k < t.n) (hq : RelD es f d) : RelT es t l1 (s.set k d) := by
  subst hl
  refine ⟨by rw [List.length_set]; exact h.len, by rw [List.length_set]; exact h.sen, fun j hj => ?_⟩
  rw [dn_set (by rw [h.sen]; exact hk), getD_set (by rw [h.len]; exact hk)]
  by_cases e : j = k
  · rw [if_pos e, if_pos e]; exact hq
  · rw [if_neg e, if_neg e]; exact h.at_ j hj
theorem rn_k {l l1 : List Rn} {n k : Nat} {f : Rn} (hl : l.set k f = l1) (hll : l.length = n) (hk : k < n) : l1.length = n ∧ l1.getD k Rn.nil = f ∧ ∀ j, j ≠ k → l1.getD j Rn.nil = l.getD j Rn.nil := by
  subst hl
  exact ⟨by rw [List.length_set]; exact hll, by rw [getD_set (by omega), if_pos rfl], fun j hj => by rw [getD_set (by omega), if_neg hj]⟩
theorem xV_same {l l1 : List Rn} {k : Nat} {x : Rn} (hl : l.set k x = l1) (h : x.wV = (l.getD k Rn.nil).wV) : l1.map Rn.wV = l.map Rn.wV := by
  subst hl
  exact map_set_same (d := Rn.nil) Rn.wV h
theorem cut_x {l : List Rn} {k : Nat} : (l.map Rn.wV).set k ((Rn.wV (l.getD k Rn.nil)).tl 1) = (l.set k ⟨(l.getD k Rn.nil).leaf, (l.getD k Rn.nil).bytes, (l.getD k Rn.nil).pb, (l.getD k Rn.nil).pe, (l.getD k Rn.nil).pt, cutA (l.getD k Rn.nil).wA 1 (l.getD k Rn.nil).wc 1, (l.getD k Rn.nil).wc - 1, (l.getD k Rn.nil).ws.drop 1⟩).map Rn.wV := by
  rw [List.map_set]
  simp [Vs.tl, Rn.wV, cI, List.map_drop]
/-- The nodes while they are made. -/
def cX0 : Option Rn → List Value
  | none => [(.int .i64 0), (.int .i64 0), .pointer none, .pointer none, .pointer none, .slice none 0 0]
  | some f => cX f
theorem hcX0 : ∀ f, (cX0 f).length = 6 := fun f => by cases f <;> rfl
def halfX (n k : Nat) (l : List Rn) : List (Option Rn) := l.map some ++ List.replicate (n - k) none
theorem halfX_len {n k : Nat} {l : List Rn} (hl : l.length = k) (hk : k ≤ n) : (halfX n k l).length = n := by unfold halfX; simp; omega
theorem halfX_set {n k : Nat} {l : List Rn} {x : Rn} (hl : l.length = k) (hk : k < n) : (halfX n k l).set k (some x) = halfX n (k + 1) (l ++ [x]) := by
  unfold halfX
  rw [show n - k = (n - (k + 1)) + 1 by omega, List.replicate_succ, List.set_append, if_neg (by simp [hl])]
  simp [hl]
theorem halfX_all {n k : Nat} {l : List Rn} (hk : n ≤ k) : (halfX n k l).flatMap cX0 = l.flatMap cX := by
  unfold halfX
  rw [show n - k = 0 by omega]
  simp [List.flatMap_map, cX0]
def IniX (es : List Ent) (k : Nat) (l : List Rn) : Prop := l.length = k ∧ ∀ f ∈ l, (f.wA = none ∧ f.wc = 0 ∧ f.ws = []) ∧ RelD es f D.nil
theorem iniX_zero : IniX [] 0 [] := ⟨rfl, fun f h => by simp at h⟩
theorem IniX.step {es es1 : List Ent} {k : Nat} {l : List Rn} {p q r : Nat} (h : IniX es k l) (hx : Ext es es1) (hp : HoldR es1 p 0) (hq : HoldR es1 q 0) (hr : HoldR es1 r 0) : IniX es1 (k + 1) (l ++ [⟨0, 0, p, q, r, none, 0, []⟩]) := by
  refine ⟨by simp [h.1], fun f hf => ?_⟩
  rcases List.mem_append.1 hf with hf | hf
  · obtain ⟨h1, h2⟩ := h.2 f hf
    exact ⟨h1, h2.mono hx⟩
  · simp only [List.mem_singleton] at hf
    subst hf
    exact ⟨⟨rfl, rfl, rfl⟩, rfl, rfl, rfl, hp, hq, hr⟩
theorem IniX.wV {es : List Ent} {k : Nat} {l : List Rn} (h : IniX es k l) : l.map Rn.wV = List.replicate k Vs.nil := by
  rw [List.eq_replicate_iff]
  refine ⟨by simp [h.1], fun v hv => ?_⟩
  obtain ⟨f, hf, rfl⟩ := List.mem_map.1 hv
  obtain ⟨⟨h1, h2, h3⟩, _⟩ := h.2 f hf
  cases f
  subst h1 h2 h3
  rfl
theorem IniX.rel {es : List Ent} {t : Tr} {l : List Rn} (h : IniX es t.n l) : RelT es t l (List.replicate t.n D.nil) := by
  refine ⟨h.1, by simp, fun j hj => ?_⟩
  rw [dn_nil]
  have hl : j < l.length := by rw [h.1]; exact hj
  rw [E.getD_lt hl]
  exact (h.2 _ (List.getElem_mem hl)).2
/-- The lists of those below, and the sums. -/
structure Kd where
  A : Option Addr
  c : Nat
  ks : List Int
def Kd.nil : Kd := ⟨none, 0, []⟩
def cK (f : Kd) : List Value := [.slice f.A f.ks.length f.c]
theorem hcK : ∀ f, (cK f).length = 1 := fun _ => rfl
def Kd.kV (f : Kd) : Vs := ⟨f.A, f.ks.length, f.c, cI f.ks⟩
theorem kd_nils {n : Nat} : List.replicate n (Value.slice none 0 0) = (List.replicate n Kd.nil).flatMap cK := by
  induction n with
  | zero => rfl
  | succ n ih => rw [List.replicate_succ, List.replicate_succ, List.flatMap_cons, ← ih]; rfl
theorem kd_kV {n : Nat} : (List.replicate n Kd.nil).map Kd.kV = List.replicate n Vs.nil := by simp [Kd.kV, Kd.nil, Vs.nil, cI]
structure KidsAt (t : Tr) (m : Nat) (kl : List Kd) : Prop where
  len : kl.length = t.n
  at_ : ∀ j, j < t.n → (kl.getD j Kd.nil).ks = kI (t.kidsTo m j)
theorem kids_zero {t : Tr} {n : Nat} (h : t.n = n) : KidsAt t 0 (List.replicate n Kd.nil) := by
  refine ⟨by simp [h], fun j hj => ?_⟩
  rw [E.getD_lt (by simpa [h] using hj), List.getElem_replicate]
  rfl
theorem KidsAt.none {t : Tr} (g : t.Good) {m : Nat} {kl : List Kd} (h : KidsAt t m kl) (hm : t.u m < 0) : KidsAt t (m + 1) kl :=
  ⟨h.len, fun j hj => by rw [h.at_ j hj, kidsTo_step, decide_eq_false (by omega)]; simp⟩
theorem KidsAt.set {t : Tr} {m p : Nat} {kl kl1 : List Kd} {x : Kd} (h : KidsAt t m kl) (hp : p < t.n) (hm : t.u m = p) (hl : kl.set p x = kl1) (hx : x.ks = (kl.getD p Kd.nil).ks ++ [(m : Int)]) : KidsAt t (m + 1) kl1 := by
  subst hl
  refine ⟨by rw [List.length_set]; exact h.len, fun j hj => ?_⟩
  rw [getD_set (by rw [h.len]; exact hp)]
  by_cases e : j = p
  · subst e
    rw [if_pos rfl, hx, h.at_ j hj, kidsTo_step, decide_eq_true hm]
    simp [kI]
  · rw [if_neg e, h.at_ j hj, kidsTo_step, decide_eq_false (by omega)]
    simp
structure SumsAt (t : Tr) (m : Nat) (sl : List Int) : Prop where
  len : sl.length = t.n
  at_ : ∀ j, j < t.n → sl.getD j 0 = t.sumTo m j
theorem sums_zero {t : Tr} {n : Nat} (h : t.n = n) : SumsAt t 0 (List.replicate n 0) := by
  refine ⟨by simp [h], fun j hj => ?_⟩
  rw [E.getD_lt (by simpa [h] using hj), List.getElem_replicate]
  rfl
theorem SumsAt.none {t : Tr} {m : Nat} {sl : List Int} (h : SumsAt t m sl) (hm : t.u m < 0) : SumsAt t (m + 1) sl :=
  ⟨h.len, fun j hj => by rw [h.at_ j hj, Tr.sumTo, decide_eq_false (by omega)]; simp⟩
theorem SumsAt.set {t : Tr} {m p : Nat} {sl sl1 : List Int} {x : Int} (h : SumsAt t m sl) (hp : p < t.n) (hm : t.u m = p) (hl : sl.set p x = sl1) (hx : x = sl.getD p 0 + t.w m) : SumsAt t (m + 1) sl1 := by
  subst hl
  refine ⟨by rw [List.length_set]; exact h.len, fun j hj => ?_⟩
  rw [getD_set (by rw [h.len]; exact hp)]
  by_cases e : j = p
  · subst e
    rw [if_pos rfl, hx, h.at_ j hj, Tr.sumTo, decide_eq_true hm]
    rfl
  · rw [if_neg e, h.at_ j hj, Tr.sumTo, decide_eq_false (by omega)]
    simp
theorem getC {l : List Int} {j : Nat} (h : j < l.length) : (cI l)[j]? = some (.int .i64 (l.getD j 0)) := by simp [cI, h]
theorem cI_set {l : List Int} {j : Nat} {x : Int} : (cI l).set j (.int .i64 x) = cI (l.set j x) := by simp [cI, List.map_set]
theorem cI_len {l : List Int} {n : Nat} (h : l.length = n) : (cI l).length = n := by simp [cI, h]
theorem cI_zeros {n : Nat} : List.replicate n (Value.int .i64 0) = cI (List.replicate n 0) := by simp [cI]
/-- The way upward where a packet comes. -/
def S1 (s : List D) (k : Nat) (b : Int) : List D := s.set k { dn s k with ws := (dn s k).ws ++ [b] }
def InS (t : Tr) (s : List D) (k : Nat) (b : Int) (f : Nat) (sc : List D) (c : Int) : Prop :=
  (c = k ∧ sc = S1 s k b) ∨ (c < k ∧ (dn s k).bytes = 0 ∧ upIn t 17 (offer t (S1 s k b) k k b false) (t.u k) = upIn t f sc c ∧ c < f)
theorem InS.zero {t : Tr} {s : List D} {k : Nat} {b : Int} {f : Nat} : InS t s k b f (S1 s k b) k := .inl ⟨rfl, rfl⟩
theorem InS.first {t : Tr} {s sc : List D} {k : Nat} {b : Int} {f : Nat} (h : InS t s k b f sc (k : Int)) : sc = S1 s k b := by
  rcases h with h | h
  · exact h.2
  · omega
theorem InS.le {t : Tr} {s sc : List D} {k : Nat} {b c : Int} {f : Nat} (h : InS t s k b f sc c) : c ≤ k := by
  rcases h with h | h
  · omega
  · omega
theorem InS.off {t : Tr} {s : List D} {k : Nat} {b : Int} (h0 : (dn s k).bytes = 0) (hu : t.u k < k) (hk : k < 17) : InS t s k b 17 (offer t (S1 s k b) k k b false) (t.u k) := .inr ⟨hu, h0, rfl, by omega⟩
theorem InS.pick {t : Tr} {s sc : List D} {k p : Nat} {b : Int} {f : Nat} (h : InS t s k b f sc (p : Int)) (hp : p ≠ k) (h0 : (dn sc p).bytes = 0) (hu : t.u p < p) : InS t s k b (f - 1) (pick t sc p false) (t.u p) := by
  rcases h with h | ⟨h1, h2, h3, h4⟩
  · omega
  · exact .inr ⟨by omega, h2, by rw [h3, upIn_go h0 (by omega)], by omega⟩
theorem s1_dn {s : List D} {k : Nat} {b : Int} (hk : k < s.length) : dn (S1 s k b) k = { dn s k with ws := (dn s k).ws ++ [b] } := by
  unfold S1
  rw [dn_set hk, if_pos rfl]
theorem InS.done {t : Tr} {s sc : List D} {k : Nat} {b c : Int} {f : Nat} (h : InS t s k b f sc c) (hs : c < 0 ∨ ¬ (dn sc c.toNat).bytes = 0) (hk : k < s.length) (hp : 0 ≤ (dn s k).bytes) : sc = inF t s k b := by
  unfold inF
  rcases h with ⟨h1, h2⟩ | ⟨h1, h2, h3, h4⟩
  · subst h1 h2
    rw [Int.toNat_natCast, s1_dn hk] at hs
    replace hs : (k : Int) < 0 ∨ ¬ (dn s k).bytes = 0 := hs
    rw [if_pos (by omega)]
    rfl
  · rw [if_neg (by omega), ← S1, h3, upIn_stop hs]
/-- All that lie above c have something. -/
def AncPos (t : Tr) (s : List D) (c : Nat) : Prop := ∀ j, Anc t c j → j ≠ c → 0 < (dn s j).bytes
theorem AncPos.up {t : Tr} (g : t.Good) {s : List D} {c p : Nat} (h : AncPos t s c) (hc : c < t.n) (hs : s.length = t.n) (hu : t.u c = p) : 0 < (dn s p).bytes ∧ AncPos t (pick t s p true) p := by
  have hpc := (g.lt hc).1
  refine ⟨h p (.up p hu (.here p)) (by omega), fun j hj hjp => ?_⟩
  have hle := hj.le g (by omega)
  rw [(pick_dn (t := t) (s := s) (k := p) (ag := true) (by omega)).1 j hjp]
  exact h j (.up p hu hj) (by omega)
theorem AncPos.gone {t : Tr} {s : List D} {r : Nat} (h : ∀ j, Anc t r j → 0 < (dn s j).bytes) (hr : r < s.length) : AncPos t (goneF t s r) r := fun j hj hjr => by
  have h0 : dn (goneF t s r) j = dn s j := by
    unfold goneF
    split
    · rw [dn_set hr, if_neg hjr]
    · rw [(offer_dn (by simpa using hr)).1 j hjr, dn_set hr, if_neg hjr]
  rw [h0]
  exact h j hj
theorem upOut_step {t : Tr} {f : Nat} {s : List D} {c p : Nat} (hu : t.u c = p) (hf : p < f) : upOut t f s (t.u c) = upOut t (f - 1) (pick t s p true) (t.u p) := by
  rw [hu, upOut_go (by omega)]
end Go.Proofs.Ytcpdelkamckmfaa.Hier
