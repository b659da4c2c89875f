/- A tree with all leaves full: what a packet that goes leaves true; plain. -/
import Derived.Test.YtfcpmcdlgkfolaaDoorZhThM
namespace Go.Proofs.YtfcpmcdlgkfolaaDoor.Hier
open Go.RowKit Go.Proofs.YtfcpmcdlgkfolaaDoor.E Go.Proofs.YtfcpmcdlgkfolaaDoor.Wfq
open Go.Proofs.YtfcpmcdlgkfolaaDoor.Scfq (hd hd_mem)

/-- All leaves have something; the way up from k is still to be done (k = -1: none), of a packet of leaf r that has gone. cnt: how many have gone through a node. -/
structure Mid (t : Tr) (B : Int) (s : List D) (cnt : Nat → Nat) (r : Nat) (k : Int) : Prop where
  len : s.length = t.n
  full : ∀ c, c < t.n → (dn s c).bytes = B
  lf : ∀ c, c < t.n → ∃ q : Nat, (dn s c).leaf = q ∧ Anc t q c
  en : ∀ c, 0 < c → c < t.n → (dn s c).en = (dn s c).bg + cost t B c ∧ (dn s c).bg ≤ B * 27720 + cnt c * cost t B c
  tm : ∀ p, p < t.n → t.kids p ≠ [] → (cnt p + 1) * (B * 27720) ≤ (dn s p).tm
  un : ∀ p : Nat, k = p → Dem t B p (fun c => (dn s c).bg) (dn s p).tm
  st : ∀ p, p < t.n → k ≠ (p : Int) → t.kids p ≠ [] → ∃ j, j < t.n ∧ t.u j = p ∧ (dn s j).leaf = (dn s p).leaf ∧ Dem t B p (fun c => if c = j then (dn s c).en else (dn s c).bg) (dn s p).tm
  up : ∀ p q : Nat, k = q → Anc t q p → (dn s p).leaf = r
  on : ∀ q : Nat, k = q → q < t.n ∧ Anc t r q

section
variable {t : Tr} {B : Int} {s s' : List D} {cnt : Nat → Nat} {r : Nat}
theorem kids_ne {c p : Nat} (hc : c < t.n) (hu : t.u c = p) : t.kids p ≠ [] := List.ne_nil_of_mem (mem_kids.2 ⟨hc, hu⟩)
/-- Node k has its next one. -/
theorem mid_turn (g : t.Good) {k : Nat} (h : Mid t B s cnt r k) (hl : s'.length = t.n) (ho : ∀ c, c ≠ k → dn s' c = dn s c) (hb : (dn s' k).bytes = B) (hq : ∃ q : Nat, (dn s' k).leaf = q ∧ Anc t q k)
    (hbg : 0 < k → (dn s' k).bg = (dn s k).en ∧ (dn s' k).en = (dn s k).en + cost t B k) (htm : t.kids k ≠ [] → ((cnt k : Int) + 2) * (B * 27720) ≤ (dn s' k).tm)
    (hst : t.kids k ≠ [] → ∃ j, j < t.n ∧ t.u j = k ∧ (dn s' j).leaf = (dn s' k).leaf ∧ Dem t B k (fun c => if c = j then (dn s' c).en else (dn s' c).bg) (dn s' k).tm) :
    Mid t B s' (fun c => if c = k then cnt k + 1 else cnt c) r (t.u k) := by
  obtain ⟨hk, hon⟩ := h.on k rfl
  have hku := g.lt hk
  refine ⟨hl, fun c hc => ?_, fun c hc => ?_, fun c h0 hc => ?_, fun p hp hne => ?_, fun p hp => ?_, fun p hp hkp hne => ?_, fun p q hq2 ha => ?_, fun q hq2 => ⟨by omega, anc_snoc hon hq2⟩⟩
  · by_cases e : c = k
    · subst e; exact hb
    · rw [ho c e]; exact h.full c hc
  · by_cases e : c = k
    · subst e; exact hq
    · rw [ho c e]; exact h.lf c hc
  · by_cases e : c = k
    · subst e
      obtain ⟨h1, h2⟩ := hbg h0
      obtain ⟨h3, h4⟩ := h.en c h0 hc
      rw [if_pos rfl, Int.natCast_add, Int.add_mul]
      refine ⟨by omega, ?_⟩
      have : ((1 : Nat) : Int) * cost t B c = cost t B c := Int.one_mul _
      omega
    · rw [ho c e, if_neg e]; exact h.en c h0 hc
  · by_cases e : p = k
    · subst e
      have := htm hne
      rw [if_pos rfl, Int.natCast_add]
      rw [show ((cnt p : Int) + ((1 : Nat) : Int) + 1) = (cnt p : Int) + 2 by omega]
      exact this
    · rw [ho p e, if_neg e]; exact h.tm p hp hne
  · have hpk : p ≠ k := by omega
    have hp2 : p < t.n := by omega
    obtain ⟨j, j1, j2, j3, j4⟩ := h.st p hp2 (by omega) (kids_ne hk hp)
    have h5 := h.up p k rfl (.up p hp (.here p))
    obtain ⟨q, q1, q2⟩ := h.lf j j1
    obtain rfl : q = r := by omega
    obtain rfl := anc_sib g q2 hon j1 hk j2 hp
    rw [ho p hpk]
    refine dem_congr j4 (fun c hc hu => ?_)
    by_cases e : c = j
    · subst e
      rw [if_pos rfl]
      exact (hbg (by omega)).1.symm
    · rw [if_neg e, ho c e]
  · by_cases e : p = k
    · subst e; exact hst hne
    · obtain ⟨j, j1, j2, j3, j4⟩ := h.st p hp (by omega) hne
      have hj : j ≠ k := fun e2 => by subst e2; omega
      refine ⟨j, j1, j2, by rw [ho j hj, ho p e]; exact j3, ?_⟩
      rw [ho p e]
      refine dem_congr j4 (fun c hc hu => ?_)
      have hc2 : c ≠ k := fun e2 => by subst e2; omega
      rw [ho c hc2]
  · have hp : p ≠ k := fun e => by
      subst e
      have := ha.le g (by omega)
      omega
    rw [ho p hp]
    exact h.up p k rfl (.up q hq2 ha)
theorem path_leaf (g : t.Good) {r0 : Nat} (h : Mid t B s cnt r0 (-1)) (hl : (dn s 0).leaf = r) : ∀ m p, p ≤ m → p < t.n → Anc t r p → (dn s p).leaf = r
  | 0, p, hm, _, _ => by obtain rfl : p = 0 := by omega
                         exact hl
  | m + 1, p, hm, hp, ha => by
    by_cases e : p = 0
    · subst e; exact hl
    · have h1 := g.u p (by omega) hp
      obtain ⟨q, hq⟩ := Int.eq_ofNat_of_zero_le h1.1
      have h2 := path_leaf g h hl m q (by omega) (by omega) (anc_snoc ha hq)
      obtain ⟨j, j1, j2, j3, _⟩ := h.st q (by omega) (by omega) (kids_ne hp hq)
      obtain ⟨i, i1, i2⟩ := h.lf j j1
      obtain rfl : i = r := by omega
      obtain rfl := anc_sib g i2 ha j1 hp j2 hq
      omega
theorem mid_start (g : t.Good) {r0 : Nat} (h : Mid t B s cnt r0 (-1)) (hl : (dn s 0).leaf = r) (hr : r < t.n) (hk : t.kids r = []) : Mid t B s cnt r r := by
  refine ⟨h.len, h.full, h.lf, h.en, h.tm, fun p hp D m _ h2 => ?_, fun p hp _ hne => h.st p hp (by omega) hne, fun p q hq ha => ?_, fun q hq => ?_⟩
  · obtain ⟨c, c1, c2, _⟩ := h2
    obtain rfl : r = p := by omega
    exact absurd hk (kids_ne c1 c2)
  · obtain rfl : r = q := by omega
    exact path_leaf g h hl t.n p (by have := ha.le g hr; omega) (by have := ha.le g hr; omega) ha
  · obtain rfl : r = q := by omega
    exact ⟨hr, .here r⟩
theorem offer_bg {k : Nat} {lf b : Int} (hk : k < s.length) (hu : 0 ≤ t.u k) : (dn (offer t s k lf b true) k).bg = (dn s k).en ∧ (dn (offer t s k lf b true) k).en = (dn s k).en + b * (27720 / t.w k) * t.sum (t.u k).toNat := by
  unfold offer
  rw [if_neg (by omega), dn_set hk, if_pos rfl]
  exact ⟨rfl, rfl⟩
theorem mid_gone (g : t.Good) (h : Mid t B s cnt r r) (hk : t.kids r = []) (hw : 2 ≤ (dn s r).ws.length) (hd1 : hd ((dn s r).ws.drop 1) = B) : Mid t B (goneF t s r) (fun c => if c = r then cnt r + 1 else cnt c) r (t.u r) := by
  obtain ⟨hr, _⟩ := h.on r rfl
  have hrl : r < s.length := by rw [h.len]; exact hr
  have hrl2 : r < (s.set r { dn s r with ws := (dn s r).ws.drop 1 }).length := by simpa using hrl
  unfold goneF
  rw [if_neg (by omega), hd1]
  obtain ⟨o1, o2, o3, o4, o5⟩ := offer_dn (t := t) (lf := r) (b := B) (ag := true) hrl2
  refine mid_turn g h (by rw [offer_len]; simpa using h.len) (fun c hc => by rw [o1 c hc, dn_set hrl, if_neg hc]) o3 ⟨r, o2, .here r⟩ (fun h0 => ?_) (fun h1 => absurd hk h1) (fun h1 => absurd hk h1)
  have := offer_bg (t := t) (lf := r) (b := B) hrl2 (g.u r h0 hr).1
  rw [dn_set hrl, if_pos rfl] at this
  exact this
theorem mid_pick (g : t.Good) (hB : 1 ≤ B) {k : Nat} (h : Mid t B s cnt r k) (hne : t.kids k ≠ []) : Mid t B (pick t s k true) (fun c => if c = k then cnt k + 1 else cnt c) r (t.u k) := by
  obtain ⟨hk, _⟩ := h.on k rfl
  have hkl : k < s.length := by rw [h.len]; exact hk
  have hkid : ∀ i, i < (t.kids k).length → (t.kids k).getD i 0 < t.n ∧ t.u ((t.kids k).getD i 0) = k := fun i hi => by
    rw [getD_lt hi]; exact mem_kids.1 (List.getElem_mem _)
  have hidx : ∀ c, c < t.n → t.u c = k → ∃ i, i < (t.kids k).length ∧ (t.kids k).getD i 0 = c := fun c hc hu => by
    obtain ⟨i, hi, he⟩ := List.getElem_of_mem (mem_kids.2 ⟨hc, hu⟩)
    exact ⟨i, hi, by rw [getD_lt hi]; exact he⟩
  have hfl : ∀ i, i < (t.kids k).length → 0 < (gq (kq s (t.kids k)) i).bs.length := fun i hi => by
    rw [kq_at hi, qd_pos, h.full _ (hkid i hi).1]; omega
  have e := pick_spec t s k true
  generalize pick t s k true = s' at e
  cases e with
  | none h0 =>
    have := h0 0 (by cases hh : t.kids k with | nil => exact absurd hh hne | cons => simp)
    have := hfl 0 (by cases hh : t.kids k with | nil => exact absurd hh hne | cons => simp)
    omega
  | some b j hb hj =>
    obtain ⟨c1, c2⟩ := hkid j hj.1
    have hcb := h.full _ c1
    generalize hc : (t.kids k).getD j 0 = c at *
    rw [hcb]
    have hck : c ≠ k := fun e => by subst e; have := (g.lt hk).1; omega
    have hkl2 : k < (s.set k { dn s k with tm := max (dn s k).tm b + B * 27720 }).length := by simpa using hkl
    obtain ⟨o1, o2, o3, o4, o5⟩ := offer_dn (t := t) (lf := (dn s c).leaf) (b := B) (ag := true) hkl2
    have oth : ∀ i, i ≠ k → dn (offer t (s.set k { dn s k with tm := max (dn s k).tm b + B * 27720 }) k (dn s c).leaf B true) i = dn s i := fun i hi => by rw [o1 i hi, dn_set hkl, if_neg hi]
    rw [dn_set hkl, if_pos rfl] at o5
    have o5 : (dn (offer t (s.set k { dn s k with tm := max (dn s k).tm b + B * 27720 }) k (dn s c).leaf B true) k).tm = max (dn s k).tm b + B * 27720 := o5
    obtain ⟨q, q1, q2⟩ := h.lf c c1
    refine mid_turn g h (by rw [offer_len]; simpa using h.len) oth o3 ⟨q, by rw [o2, q1], anc_snoc q2 c2⟩ (fun h0 => ?_) (fun _ => ?_) (fun _ => ?_)
    · have := offer_bg (t := t) (lf := (dn s c).leaf) (b := B) hkl2 (g.u k h0 hk).1
      rw [dn_set hkl, if_pos rfl] at this
      exact this
    · rw [o5]
      have := h.tm k hk hne
      rw [Int.add_mul] at this ⊢
      omega
    · refine ⟨c, c1, c2, by rw [oth c hck, o2], ?_⟩
      rw [o5]
      have hen : ∀ i, i < t.n → t.u i = k → (dn s i).en = (dn s i).bg + cost t B i := fun i hi hu => (h.en i (by by_cases e : i = 0; (· subst e; have := g.u0; omega); omega) hi).1
      have hp := dem_pick g hB (h.un k rfl) (b := b) (j := c) (fun i hi hu => by
        obtain ⟨x, x1, x2⟩ := hidx i hi hu
        have := hb.2 x x1 (hfl x x1)
        rw [kq_at x1, x2] at this
        exact this) c1 c2 (fun i hi hu hle => by
        obtain ⟨x, x1, x2⟩ := hidx i hi hu
        have h3 := hj.2.2.2 x x1 (hfl x x1)
        rw [kq_at x1, x2, kq_at hj.1, hc] at h3
        have h4 : (dn s i).bg ≤ max (dn s k).tm b → (dn s c).en < (dn s i).en ∨ (dn s c).en = (dn s i).en ∧ j ≤ x := h3
        have h5 := h4 hle
        have h6 := hen i hi hu
        have h7 := hen c c1 c2
        omega)
      refine dem_congr hp (fun i hi hu => ?_)
      have hik : i ≠ k := fun e => by subst e; have := (g.lt hk).1; omega
      rw [oth i hik]
      by_cases e : i = c
      · subst e; rw [if_pos rfl, if_pos rfl, hen i hi hu]
      · rw [if_neg e, if_neg e]
theorem upOut_mid (g : t.Good) (hB : 1 ≤ B) : ∀ {f : Nat} {s : List D} {cnt : Nat → Nat} {k : Int}, k < f → -1 ≤ k → (∀ p : Nat, k = p → t.kids p ≠ []) → Mid t B s cnt r k →
    ∃ cnt', Mid t B (upOut t f s k) cnt' r (-1) ∧ (∀ c, t.kids c = [] → cnt' c = cnt c) ∧ (0 ≤ k → cnt' 0 = cnt 0 + 1) ∧ (k < 0 → cnt' 0 = cnt 0)
  | 0, s, cnt, k, h1, h2, _, h => by
    obtain rfl : k = -1 := by omega
    exact ⟨cnt, h, fun _ _ => rfl, fun _ => by omega, fun _ => rfl⟩
  | f + 1, s, cnt, k, h1, h2, hne, h => by
    unfold upOut
    by_cases hk : k < 0
    · rw [if_pos hk]
      obtain rfl : k = -1 := by omega
      exact ⟨cnt, h, fun _ _ => rfl, fun _ => by omega, fun _ => rfl⟩
    · rw [if_neg hk]
      obtain ⟨p, rfl⟩ := Int.eq_ofNat_of_zero_le (show 0 ≤ k by omega)
      have hp := (h.on p rfl).1
      have h3 := g.lt hp
      rw [Int.toNat_natCast]
      obtain ⟨cnt', c1, c2, c3, c4⟩ := upOut_mid g hB (f := f) (k := t.u p) (by omega) (by omega) (fun q hq => kids_ne hp hq) (mid_pick g hB h (hne p rfl))
      refine ⟨cnt', c1, fun c hc => ?_, fun _ => ?_, fun h0 => by omega⟩
      · rw [c2 c hc, if_neg (by intro e; subst e; exact hne c rfl hc)]
      · by_cases e : p = 0
        · subst e
          have := g.u0
          rw [c4 (by omega), if_pos rfl]
        · have := g.u p (by omega) hp
          rw [c3 (by omega), if_neg (fun e2 => e e2.symm)]
/-- A packet goes. -/
theorem outF_mid (g : t.Good) (hB : 1 ≤ B) {r0 : Nat} (h : Mid t B s cnt r0 (-1)) (hl : (dn s 0).leaf = r) (hr : r < t.n) (hk : t.kids r = []) (hw : 2 ≤ (dn s r).ws.length) (hd1 : hd ((dn s r).ws.drop 1) = B) :
    ∃ cnt', Mid t B (outF t s) cnt' r (-1) ∧ cnt' 0 = cnt 0 + 1 ∧ ∀ c, t.kids c = [] → cnt' c = cnt c + if c = r then 1 else 0 := by
  have h1 := mid_gone g (mid_start g h hl hr hk) hk hw hd1
  have h3 := g.lt hr
  have := g.n16
  obtain ⟨cnt', c1, c2, c3, c4⟩ := upOut_mid g hB (f := 17) (k := t.u r) (by omega) (by omega) (fun q hq => kids_ne hr hq) h1
  unfold outF
  rw [hl, Int.toNat_natCast]
  refine ⟨cnt', c1, ?_, fun c hc => ?_⟩
  · by_cases e : r = 0
    · subst e
      have := g.u0
      rw [c4 (by omega), if_pos rfl]
    · have := g.u r (by omega) hr
      rw [c3 (by omega), if_neg (fun e2 => e e2.symm)]
  · rw [c2 c hc]
    by_cases e : c = r
    · subst e; rw [if_pos rfl, if_pos rfl]
    · rw [if_neg e, if_neg e, Nat.add_zero]
/-- Nobody is behind by more than two packets. -/
theorem level (g : t.Good) (hB : 1 ≤ B) {r0 : Nat} (h : Mid t B s cnt r0 (-1)) {c p : Nat} (hc : c < t.n) (hu : t.u c = p) : (cnt p : Int) * t.w c ≤ (cnt c + 2) * t.sum p := by
  have hp : p < t.n := by have := (g.lt hc).1; omega
  have hc0 : 0 < c := by by_cases e : c = 0; (· subst e; have := g.u0; omega); omega
  obtain ⟨j, _, _, _, j4⟩ := h.st p hp (by omega) (kids_ne hc hu)
  have h1 := dem_le j4 hc hu
  have h2 := h.en c hc0 hc
  have h3 := h.tm p hp (kids_ne hc hu)
  have h4 := cost_ge g hB hc hu
  have h5 : (if c = j then (dn s c).en else (dn s c).bg) ≤ (dn s c).bg + cost t B c := by split <;> omega
  have h6 : (cnt p : Int) * (B * 27720) ≤ (cnt c + 2) * cost t B c := by
    rw [Int.add_mul] at h3 ⊢
    omega
  have h7 := Int.mul_le_mul_of_nonneg_right h6 (show 0 ≤ t.w c by have := (g.w c hc).1; omega)
  rw [Int.mul_assoc (cnt c + 2 : Int), cost_mul g hc hu] at h7
  have h8 : B * 27720 * ((cnt p : Int) * t.w c) ≤ B * 27720 * ((cnt c + 2) * t.sum p) := by
    have e1 : B * 27720 * ((cnt p : Int) * t.w c) = cnt p * (B * 27720) * t.w c := by grind
    have e2 : B * 27720 * (((cnt c : Int) + 2) * t.sum p) = (cnt c + 2) * (B * 27720 * t.sum p) := by grind
    rw [e1, e2]
    exact h7
  exact Int.le_of_mul_le_mul_left h8 (by omega)
end
end Go.Proofs.YtfcpmcdlgkfolaaDoor.Hier
