/- A tree is filled: packets of one length come to its leaves; plain. -/
import Derived.Test.YtfcpmcdlgkfolaaDoorZhThN
namespace Go.Proofs.YtfcpmcdlgkfolaaDoor.Hier
open Go.RowKit Go.Proofs.YtfcpmcdlgkfolaaDoor.E Go.Proofs.YtfcpmcdlgkfolaaDoor.Wfq
open Go.Proofs.YtfcpmcdlgkfolaaDoor.Scfq (hd hd_mem)

/-- Nothing has gone yet; node k (-1: none) may lack what one below it has. -/
structure Inn (t : Tr) (B : Int) (s : List D) (k : Int) : Prop where
  len : s.length = t.n
  by0 : ∀ c, c < t.n → (dn s c).bytes = 0 ∨ (dn s c).bytes = B
  z : ∀ c, c < t.n → (dn s c).bytes = 0 → (dn s c).en = 0 ∧ (dn s c).tm = 0
  lf : ∀ c, c < t.n → (dn s c).bytes = B → ∃ q : Nat, (dn s c).leaf = q ∧ Anc t q c
  en : ∀ c, 0 < c → c < t.n → (dn s c).bytes = B → (dn s c).en = (dn s c).bg + cost t B c ∧ ((dn s c).bg = 0 ∨ (dn s c).bg = B * 27720)
  tm : ∀ p, p < t.n → t.kids p ≠ [] → (dn s p).bytes = B → (dn s p).tm = B * 27720
  st : ∀ p, p < t.n → t.kids p ≠ [] → (dn s p).bytes = B → ∃ j, j < t.n ∧ t.u j = p ∧ (dn s j).bytes = B ∧ (dn s j).leaf = (dn s p).leaf ∧ ∀ c, c < t.n → t.u c = p → (dn s c).bytes = B → c ≠ j → (dn s c).bg = B * 27720
  emp : ∀ p, p < t.n → k ≠ (p : Int) → (dn s p).bytes = 0 → ∀ c, c < t.n → t.u c = p → (dn s c).bytes = 0
  own : ∀ p : Nat, k = p → p < t.n ∧ (t.kids p ≠ [] → (dn s p).bytes = 0 → ∃ j, j < t.n ∧ t.u j = p ∧ (dn s j).bytes = B ∧ (dn s j).bg = 0 ∧ ∀ c, c < t.n → t.u c = p → c ≠ j → (dn s c).bytes = 0)

section
variable {t : Tr} {B : Int} {s s' : List D}
theorem inn_turn (g : t.Good) (hB : 1 ≤ B) {k : Nat} (h : Inn t B s k) (h0 : (dn s k).bytes = 0) (hl : s'.length = t.n) (ho : ∀ c, c ≠ k → dn s' c = dn s c) (hb : (dn s' k).bytes = B) (hq : ∃ q : Nat, (dn s' k).leaf = q ∧ Anc t q k)
    (hbg : 0 < k → (dn s' k).bg = max (dn s k).en (dn s (t.u k).toNat).tm ∧ (dn s' k).en = (dn s' k).bg + cost t B k) (htm : t.kids k ≠ [] → (dn s' k).tm = B * 27720)
    (hst : t.kids k ≠ [] → ∃ j, j < t.n ∧ t.u j = k ∧ (dn s' j).bytes = B ∧ (dn s' j).leaf = (dn s' k).leaf ∧ ∀ c, c < t.n → t.u c = k → (dn s' c).bytes = B → c ≠ j → (dn s' c).bg = B * 27720) : Inn t B s' (t.u k) := by
  have hk := (h.own k rfl).1
  have hku := g.lt hk
  have hz := h.z k hk h0
  have hup : 0 < k → ∃ p : Nat, t.u k = p ∧ p < t.n ∧ p ≠ k ∧ t.kids p ≠ [] := fun hk0 => by
    obtain ⟨p, hp⟩ := Int.eq_ofNat_of_zero_le (g.u k hk0 hk).1
    exact ⟨p, hp, by omega, by omega, kids_ne hk hp⟩
  refine ⟨hl, fun c hc => ?_, fun c hc hc0 => ?_, fun c hc hcb => ?_, fun c h1 hc hcb => ?_, fun p hp hne hpb => ?_, fun p hp hne hpb => ?_, fun p hp hkp hp0 c hc hu => ?_, fun p hp => ?_⟩
  · by_cases e : c = k
    · subst e; exact .inr hb
    · rw [ho c e]; exact h.by0 c hc
  · have e : c ≠ k := fun e => by subst e; omega
    rw [ho c e] at hc0 ⊢
    exact h.z c hc hc0
  · by_cases e : c = k
    · subst e; exact hq
    · rw [ho c e] at hcb ⊢; exact h.lf c hc hcb
  · by_cases e : c = k
    · subst e
      obtain ⟨g1, g2⟩ := hbg h1
      refine ⟨g2, ?_⟩
      obtain ⟨p, p1, p2, p3, p4⟩ := hup h1
      rw [g1, p1, Int.toNat_natCast, hz.1]
      rcases h.by0 p p2 with e | e
      · have := (h.z p p2 e).2; omega
      · have := h.tm p p2 p4 e; omega
    · rw [ho c e] at hcb ⊢; exact h.en c h1 hc hcb
  · by_cases e : p = k
    · subst e; exact htm hne
    · rw [ho p e] at hpb ⊢; exact h.tm p hp hne hpb
  · by_cases e : p = k
    · subst e; exact hst hne
    · rw [ho p e] at hpb
      obtain ⟨j, j1, j2, j3, j4, j5⟩ := h.st p hp hne hpb
      have hj : j ≠ k := fun e2 => by subst e2; omega
      refine ⟨j, j1, j2, by rw [ho j hj]; exact j3, by rw [ho j hj, ho p e]; exact j4, fun c hc hu hcb hcj => ?_⟩
      by_cases e2 : c = k
      · subst e2
        have hk0 : 0 < c := by by_cases e3 : c = 0; (· subst e3; have := g.u0; omega); omega
        rw [(hbg hk0).1, hu, Int.toNat_natCast, hz.1, h.tm p hp hne hpb]
        omega
      · rw [ho c e2] at hcb ⊢
        exact j5 c hc hu hcb hcj
  · have e : p ≠ k := fun e => by subst e; omega
    rw [ho p e] at hp0
    have hck : c ≠ k := fun e2 => by subst e2; omega
    rw [ho c hck]
    exact h.emp p hp (by omega) hp0 c hc hu
  · have hk0 : 0 < k := by by_cases e3 : k = 0; (· subst e3; have := g.u0; omega); omega
    obtain ⟨q, p1, p2, p3, p4⟩ := hup hk0
    obtain rfl : q = p := by omega
    refine ⟨p2, fun _ hp0 => ⟨k, hk, hp, hb, ?_, fun c hc hu hck => ?_⟩⟩
    · rw [ho q p3] at hp0
      rw [(hbg hk0).1, hp, Int.toNat_natCast, hz.1, (h.z q p2 hp0).2]
      omega
    · rw [ho q p3] at hp0
      rw [ho c hck]
      exact h.emp q p2 (by omega) hp0 c hc hu
theorem offer_bgf {k : Nat} {lf b : Int} (hk : k < s.length) (hu : 0 ≤ t.u k) : (dn (offer t s k lf b false) k).bg = max (dn s k).en (dn s (t.u k).toNat).tm ∧ (dn (offer t s k lf b false) k).en = max (dn s k).en (dn s (t.u k).toNat).tm + b * (27720 / t.w k) * t.sum (t.u k).toNat := by
  unfold offer
  rw [if_neg (by omega), dn_set hk, if_pos rfl]
  exact ⟨rfl, rfl⟩
theorem inn_pick (g : t.Good) (hB : 1 ≤ B) {k : Nat} (h : Inn t B s k) (hne : t.kids k ≠ []) (h0 : (dn s k).bytes = 0) : Inn t B (pick t s k false) (t.u k) := by
  obtain ⟨hk, hown⟩ := h.own k rfl
  obtain ⟨c, c1, c2, c3, c4, c5⟩ := hown hne h0
  have hkl : k < s.length := by rw [h.len]; exact hk
  have hkid : ∀ i, i < (t.kids k).length → (t.kids k).getD i 0 < t.n ∧ t.u ((t.kids k).getD i 0) = k := fun i hi => by
    rw [getD_lt hi]; exact mem_kids.1 (List.getElem_mem _)
  have hone : ∀ i, i < (t.kids k).length → 0 < (gq (kq s (t.kids k)) i).bs.length → (t.kids k).getD i 0 = c := fun i hi h1 => by
    rw [kq_at hi, qd_pos] at h1
    by_cases e : (t.kids k).getD i 0 = c
    · exact e
    · have := c5 _ (hkid i hi).1 (hkid i hi).2 e; omega
  have hidx : ∃ i, i < (t.kids k).length ∧ (t.kids k).getD i 0 = c := by
    obtain ⟨i, hi, he⟩ := List.getElem_of_mem (mem_kids.2 ⟨c1, c2⟩)
    exact ⟨i, hi, by rw [getD_lt hi]; exact he⟩
  have e := pick_spec t s k false
  generalize pick t s k false = s' at e
  cases e with
  | none h1 =>
    obtain ⟨i, i1, i2⟩ := hidx
    have := h1 i i1
    rw [kq_at i1, qd_zero, i2] at this
    omega
  | some b j hb hj =>
    obtain ⟨⟨i, i1, i2, i3⟩, _⟩ := hb
    have e1 := hone i i1 i2
    rw [kq_at i1, e1] at i3
    have i3 : (dn s c).bg = b := i3
    obtain rfl : b = 0 := by omega
    rw [hone j hj.1 hj.2.1, c3]
    have hz := h.z k hk h0
    have hck : c ≠ k := fun e => by subst e; have := (g.lt hk).1; omega
    have hkl2 : k < (s.set k { dn s k with tm := max (dn s k).tm 0 + B * 27720 }).length := by simpa using hkl
    obtain ⟨o1, o2, o3, o4, o5⟩ := offer_dn (t := t) (lf := (dn s c).leaf) (b := B) (ag := false) hkl2
    have oth : ∀ i, i ≠ k → dn (offer t (s.set k { dn s k with tm := max (dn s k).tm 0 + B * 27720 }) k (dn s c).leaf B false) i = dn s i := fun i hi => by rw [o1 i hi, dn_set hkl, if_neg hi]
    rw [dn_set hkl, if_pos rfl] at o5
    have o5 : (dn (offer t (s.set k { dn s k with tm := max (dn s k).tm 0 + B * 27720 }) k (dn s c).leaf B false) k).tm = max (dn s k).tm 0 + B * 27720 := o5
    obtain ⟨q, q1, q2⟩ := h.lf c c1 c3
    refine inn_turn g hB h h0 (by rw [offer_len]; simpa using h.len) oth o3 ⟨q, by rw [o2, q1], anc_snoc q2 c2⟩ (fun hk0 => ?_) (fun _ => by rw [o5, hz.2]; omega) (fun _ => ⟨c, c1, c2, by rw [oth c hck]; exact c3, by rw [oth c hck, o2], fun i hi hu hib hic => ?_⟩)
    · have h1 := offer_bgf (t := t) (lf := (dn s c).leaf) (b := B) hkl2 (g.u k hk0 hk).1
      have hun : (t.u k).toNat ≠ k := by have := (g.lt hk).1; have := (g.u k hk0 hk).1; omega
      rw [dn_set hkl, if_pos rfl, dn_set hkl, if_neg hun] at h1
      have h1 : _ = max (dn s k).en (dn s (t.u k).toNat).tm ∧ _ = max (dn s k).en (dn s (t.u k).toNat).tm + B * (27720 / t.w k) * t.sum (t.u k).toNat := h1
      exact ⟨h1.1, by rw [h1.2, h1.1]; rfl⟩
    · have hik : i ≠ k := fun e => by subst e; have := (g.lt hk).1; omega
      rw [oth i hik] at hib
      have := c5 i hi hu hic
      omega
theorem upIn_inn (g : t.Good) (hB : 1 ≤ B) : ∀ {f : Nat} {s : List D} {k : Int}, k < f → -1 ≤ k → (∀ p : Nat, k = p → t.kids p ≠ []) → Inn t B s k → Inn t B (upIn t f s k) (-1)
  | 0, s, k, h1, h2, _, h => by
    obtain rfl : k = -1 := by omega
    exact h
  | f + 1, s, k, h1, h2, hne, h => by
    unfold upIn
    by_cases hk : k < 0
    · rw [if_pos (.inl hk)]
      obtain rfl : k = -1 := by omega
      exact h
    · obtain ⟨p, rfl⟩ := Int.eq_ofNat_of_zero_le (show 0 ≤ k by omega)
      rw [Int.toNat_natCast]
      have hp := (h.own p rfl).1
      by_cases h0 : (dn s p).bytes = 0
      · rw [if_neg (by omega)]
        have h3 := g.lt hp
        exact upIn_inn g hB (f := f) (k := t.u p) (by omega) (by omega) (fun q hq => kids_ne hp hq) (inn_pick g hB h (hne p rfl) h0)
      · rw [if_pos (.inr h0)]
        refine ⟨h.len, h.by0, h.z, h.lf, h.en, h.tm, h.st, fun q hq _ hq0 => ?_, fun q hq => by omega⟩
        have e : q ≠ p := fun e => by subst e; exact h0 hq0
        exact h.emp q hq (by omega) hq0
theorem upIn_leaf {c : Nat} (g : t.Good) (hc : t.kids c = []) : ∀ {f : Nat} {s : List D} {k : Int}, s.length = t.n → k < t.n → -1 ≤ k → (∀ p : Nat, k = p → t.kids p ≠ []) → dn (upIn t f s k) c = dn s c
  | 0, _, _, _, _, _, _ => rfl
  | f + 1, s, k, hl, hk, hk1, hne => by
    unfold upIn
    split
    · rfl
    · rename_i e
      have h1 : k.toNat < t.n := by omega
      have h2 := g.lt h1
      obtain ⟨d1, _⟩ := pick_dn (t := t) (ag := false) (s := s) (k := k.toNat) (by omega)
      rw [upIn_leaf g hc (by rw [pick_len, hl]) (by omega) h2.2 (fun q hq => kids_ne h1 hq)]
      exact d1 c (fun e2 => hne k.toNat (by omega) (by rw [← e2]; exact hc))
/-- One comes to a leaf. -/
theorem inF_inn (g : t.Good) (hB : 1 ≤ B) {k : Nat} (h : Inn t B s (-1)) (hk : k < t.n) (hl : t.kids k = []) : Inn t B (inF t s k B) (-1) ∧ (dn (inF t s k B) k).bytes = B ∧ (dn (inF t s k B) k).ws = (dn s k).ws ++ [B] ∧ ∀ c, c ≠ k → t.kids c = [] → dn (inF t s k B) c = dn s c := by
  have hkl : k < s.length := by rw [h.len]; exact hk
  have hku := g.lt hk
  unfold inF
  by_cases h0 : 0 < (dn s k).bytes
  · rw [if_pos h0]
    have e1 : ∀ c, c ≠ k → dn (s.set k { dn s k with ws := (dn s k).ws ++ [B] }) c = dn s c := fun c hc => by rw [dn_set hkl, if_neg hc]
    have e2 : dn (s.set k { dn s k with ws := (dn s k).ws ++ [B] }) k = { dn s k with ws := (dn s k).ws ++ [B] } := by rw [dn_set hkl, if_pos rfl]
    have key : ∀ c, (dn (s.set k { dn s k with ws := (dn s k).ws ++ [B] }) c).bytes = (dn s c).bytes ∧ (dn (s.set k { dn s k with ws := (dn s k).ws ++ [B] }) c).en = (dn s c).en ∧ (dn (s.set k { dn s k with ws := (dn s k).ws ++ [B] }) c).bg = (dn s c).bg ∧ (dn (s.set k { dn s k with ws := (dn s k).ws ++ [B] }) c).tm = (dn s c).tm ∧ (dn (s.set k { dn s k with ws := (dn s k).ws ++ [B] }) c).leaf = (dn s c).leaf := fun c => by
      by_cases e : c = k
      · subst e; rw [e2]; exact ⟨rfl, rfl, rfl, rfl, rfl⟩
      · rw [e1 c e]; exact ⟨rfl, rfl, rfl, rfl, rfl⟩
    refine ⟨⟨by simpa using h.len, fun c hc => ?_, fun c hc hc0 => ?_, fun c hc hcb => ?_, fun c h1 hc hcb => ?_, fun p hp hne hpb => ?_, fun p hp hne hpb => ?_, fun p hp hkp hp0 c hc hu => ?_, fun p hp => by omega⟩, ?_, by rw [e2], fun c hc _ => e1 c hc⟩
    · rw [(key c).1]; exact h.by0 c hc
    · rw [(key c).1] at hc0; rw [(key c).2.1, (key c).2.2.2.1]; exact h.z c hc hc0
    · rw [(key c).1] at hcb; rw [(key c).2.2.2.2]; exact h.lf c hc hcb
    · rw [(key c).1] at hcb; rw [(key c).2.1, (key c).2.2.1]; exact h.en c h1 hc hcb
    · rw [(key p).1] at hpb; rw [(key p).2.2.2.1]; exact h.tm p hp hne hpb
    · rw [(key p).1] at hpb
      obtain ⟨j, j1, j2, j3, j4, j5⟩ := h.st p hp hne hpb
      exact ⟨j, j1, j2, by rw [(key j).1]; exact j3, by rw [(key j).2.2.2.2, (key p).2.2.2.2]; exact j4, fun c hc hu hcb hcj => by rw [(key c).1] at hcb; rw [(key c).2.2.1]; exact j5 c hc hu hcb hcj⟩
    · rw [(key p).1] at hp0; rw [(key c).1]; exact h.emp p hp hkp hp0 c hc hu
    · rw [(key k).1]
      rcases h.by0 k hk with e | e
      · omega
      · exact e
  · rw [if_neg h0]
    have hb0 : (dn s k).bytes = 0 := by rcases h.by0 k hk with e | e <;> omega
    have hl1 : k < (s.set k { dn s k with ws := (dn s k).ws ++ [B] }).length := by simpa using hkl
    obtain ⟨o1, o2, o3, o4, o5⟩ := offer_dn (t := t) (lf := k) (b := B) (ag := false) hl1
    have oth : ∀ j, j ≠ k → dn (offer t (s.set k { dn s k with ws := (dn s k).ws ++ [B] }) k k B false) j = dn s j := fun j hj => by rw [o1 j hj, dn_set hkl, if_neg hj]
    have hs : Inn t B s (k : Int) := ⟨h.len, h.by0, h.z, h.lf, h.en, h.tm, h.st, fun p hp _ => h.emp p hp (by omega), fun p hp => by
      obtain rfl : k = p := by omega
      exact ⟨hk, fun hne => absurd hl hne⟩⟩
    have hln : (offer t (s.set k { dn s k with ws := (dn s k).ws ++ [B] }) k k B false).length = t.n := by rw [offer_len]; simpa using h.len
    have h1 : Inn t B (offer t (s.set k { dn s k with ws := (dn s k).ws ++ [B] }) k k B false) (t.u k) := by
      refine inn_turn g hB hs hb0 hln oth o3 ⟨k, o2, .here k⟩ (fun hk0 => ?_) (fun hne => absurd hl hne) (fun hne => absurd hl hne)
      have h1 := offer_bgf (t := t) (lf := k) (b := B) hl1 (g.u k hk0 hk).1
      have hun : (t.u k).toNat ≠ k := by have := (g.u k hk0 hk).1; omega
      rw [dn_set hkl, if_pos rfl, dn_set hkl, if_neg hun] at h1
      have h1 : _ = max (dn s k).en (dn s (t.u k).toNat).tm ∧ _ = max (dn s k).en (dn s (t.u k).toNat).tm + B * (27720 / t.w k) * t.sum (t.u k).toNat := h1
      exact ⟨h1.1, by rw [h1.2, h1.1]; rfl⟩
    have := g.n16
    have hlf := fun c (hc : t.kids c = []) => upIn_leaf (c := c) g hc (f := 17) hln (show t.u k < t.n by omega) hku.2 (fun q hq => kids_ne hk hq)
    refine ⟨upIn_inn g hB (by omega) hku.2 (fun q hq => kids_ne hk hq) h1, by rw [hlf k hl, o3], ?_, fun c hc hcl => by rw [hlf c hcl, oth c hc]⟩
    rw [hlf k hl, o4, dn_set hkl, if_pos rfl]
theorem inn_zero (hB : 1 ≤ B) : Inn t B (List.replicate t.n D.nil) (-1) := by
  have h : ∀ c, (dn (List.replicate t.n D.nil) c).bytes = 0 := fun c => by rw [dn_nil]; rfl
  refine ⟨by simp, fun c _ => .inl (h c), fun c _ _ => by rw [dn_nil]; exact ⟨rfl, rfl⟩, fun c _ hb => ?_, fun c _ _ hb => ?_, fun c _ _ hb => ?_, fun c _ _ hb => ?_, fun p _ _ _ c _ _ => h c, fun p hp => by omega⟩ <;> (have := h c; omega)
theorem inn_full (h : Inn t B s (-1)) (g : t.Good) (hl : ∀ c, c < t.n → t.kids c = [] → (dn s c).bytes = B) (hB : 1 ≤ B) : ∀ m c, t.n - c ≤ m → c < t.n → (dn s c).bytes = B
  | 0, c, h1, h2 => by omega
  | m + 1, c, h1, h2 => by
    by_cases e : t.kids c = []
    · exact hl c h2 e
    · obtain ⟨j, hj⟩ := List.exists_mem_of_ne_nil _ e
      obtain ⟨j1, j2⟩ := mem_kids.1 hj
      have := (g.lt j1).1
      have h3 := inn_full h g hl hB m j (by omega) j1
      rcases h.by0 c h2 with e2 | e2
      · have := h.emp c h2 (by omega) e2 j j1 j2; omega
      · exact e2
theorem mid_of_inn (g : t.Good) (hB : 1 ≤ B) (h : Inn t B s (-1)) (hl : ∀ c, c < t.n → t.kids c = [] → (dn s c).bytes = B) : Mid t B s (fun _ => 0) 0 (-1) := by
  have hf := fun c hc => inn_full h g hl hB t.n c (by omega) hc
  refine ⟨h.len, hf, fun c hc => h.lf c hc (hf c hc), fun c h0 hc => ?_, fun p hp hne => ?_, fun p hp => by omega, fun p hp _ hne => ?_, fun p q hq => by omega, fun q hq => by omega⟩
  · obtain ⟨h1, h2⟩ := h.en c h0 hc (hf c hc)
    refine ⟨h1, ?_⟩
    rw [show (((0 : Nat)) : Int) * cost t B c = 0 from Int.zero_mul _]
    omega
  · rw [h.tm p hp hne (hf p hp)]
    simp
  · obtain ⟨j, j1, j2, j3, j4, j5⟩ := h.st p hp hne (hf p hp)
    refine ⟨j, j1, j2, j4, ?_⟩
    rw [h.tm p hp hne (hf p hp)]
    intro D m h1 h2
    have h3 := fresh g hB (X := B * 27720) (p := p) (m := m) (fun c hc hu h0 => ⟨?_, h1 c hc hu h0⟩) h2
    · omega
    · have hc0 : 0 < c := by by_cases e3 : c = 0; (· subst e3; have := g.u0; omega); omega
      have h4 := h.en c hc0 hc (hf c hc)
      have h5 := cost_ge g hB hc hu
      by_cases e : c = j
      · rw [if_pos e]; omega
      · rw [if_neg e, j5 c hc hu (hf c hc) e]; exact Int.le_refl _
end
end Go.Proofs.YtfcpmcdlgkfolaaDoor.Hier
