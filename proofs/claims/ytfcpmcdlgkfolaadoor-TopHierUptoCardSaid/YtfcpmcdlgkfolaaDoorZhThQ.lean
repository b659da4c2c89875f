/- A tree filled, and so many sent: what each leaf has had; plain. -/
import Derived.Test.YtfcpmcdlgkfolaaDoorZhThP
namespace Go.Proofs.YtfcpmcdlgkfolaaDoor.Hier
open Go.RowKit Go.Proofs.YtfcpmcdlgkfolaaDoor.E Go.Proofs.YtfcpmcdlgkfolaaDoor.Wfq
open Go.Proofs.YtfcpmcdlgkfolaaDoor.Scfq (hd hd_mem)

section
variable {t : Tr} {B : Int}
def RunL (t : Tr) : S → List O3 → S → Prop
  | s, [], s' => s = s'
  | s, o :: os, s' => ∃ s1, Stp t s o s1 ∧ RunL t s1 os s'
theorem runL_app : ∀ {a b : List O3} {s s' : S}, RunL t s (a ++ b) s' → ∃ s1, RunL t s a s1 ∧ RunL t s1 b s'
  | [], _, s, _, h => ⟨s, rfl, h⟩
  | _ :: _, _, _, _, ⟨s1, h1, h2⟩ => let ⟨s2, h3, h4⟩ := runL_app h2; ⟨s2, ⟨s1, h1, h3⟩, h4⟩
theorem runL_snoc {o : O3} : ∀ {a : List O3} {s s1 s' : S}, RunL t s a s1 → Stp t s1 o s' → RunL t s (a ++ [o]) s'
  | [], s, _, s', h, h2 => ⟨s', by rw [show s = _ from h]; exact h2, rfl⟩
  | _ :: _, _, _, _, ⟨s2, h1, h2⟩, h3 => ⟨s2, h1, runL_snoc h2 h3⟩
theorem run_runL {os : List O3} : ∀ {i : Nat} {s : S}, i ≤ os.length → Run t os i s → RunL t ⟨List.replicate t.n D.nil, [], []⟩ (os.take i) s
  | 0, _, _, h => (show _ = _ from h).symm
  | i + 1, s, hi, ⟨s0, h1, h2⟩ => by
    rw [List.take_succ_eq_append_getElem hi]
    rw [getD_lt hi] at h2
    exact runL_snoc (run_runL (by omega) h1) h2
theorem runL_wf (g : t.Good) : ∀ {os : List O3} {i : Nat} {s s' : S}, Wf t i s → RunL t s os s' → Wf t (i + os.length) s'
  | [], _, _, _, h, h2 => by rw [← show _ = _ from h2]; exact h
  | o :: os, i, _, _, h, ⟨_, h1, h2⟩ => by
    have := runL_wf g (h.step g h1) h2
    rw [List.length_cons, show i + (os.length + 1) = i + 1 + os.length by omega]
    exact this

theorem ins (g : t.Good) (hB : 1 ≤ B ∧ B ≤ 1500) {k : Nat} (hk : k < t.n) (hl : t.kids k = []) : ∀ {b : Nat} {s s' : S}, RunL t s (List.replicate b (1, (k : Int), B)) s' → Inn t B s.ds (-1) →
    Inn t B s'.ds (-1) ∧ s'.sent = s.sent ∧ (dn s'.ds k).ws = (dn s.ds k).ws ++ List.replicate b B ∧ (0 < b ∨ (dn s.ds k).bytes = B → (dn s'.ds k).bytes = B) ∧ ∀ c, c ≠ k → t.kids c = [] → dn s'.ds c = dn s.ds c
  | 0, s, s', h, hi => by
    obtain rfl : s = s' := h
    exact ⟨hi, rfl, by simp, fun h => h.elim (fun h => by omega) id, fun _ _ _ => rfl⟩
  | b + 1, s, s', ⟨s1, h1, h2⟩, hi => by
    have hlf : t.leaf (k : Int) := ⟨by omega, by omega, by rw [Int.toNat_natCast]; exact hl⟩
    cases h1 with
    | kind h1 => exact absurd rfl h1
    | none _ g2 => exact absurd hlf g2
    | range _ _ h3 => dsimp only at h3; omega
    | nought h1 => dsimp only at h1; omega
    | out h1 => dsimp only at h1; omega
    | inn j h1 e hj h3 =>
      dsimp only at e
      obtain rfl : k = j := by omega
      obtain ⟨a1, a2, a3, a4⟩ := inF_inn g hB.1 hi hk hl
      obtain ⟨b1, b2, b3, b4, b5⟩ := ins g hB hk hl h2 a1
      refine ⟨b1, b2, ?_, fun _ => b4 (.inr a2), fun c hc hcl => by rw [b5 c hc hcl]; exact a4 c hc hcl⟩
      rw [b3]
      show (dn (inF t s.ds k B) k).ws ++ _ = _
      rw [a3, List.append_assoc, List.replicate_succ]
      rfl
theorem fills (g : t.Good) (hB : 1 ≤ B ∧ B ≤ 1500) {many : Nat} (hm : 1 ≤ many) : ∀ {lv : List Nat} {s s' : S}, lv.Nodup → (∀ k ∈ lv, k < t.n ∧ t.kids k = []) → RunL t s (lv.flatMap fun (k : Nat) => List.replicate many (1, (k : Int), B)) s' → Inn t B s.ds (-1) →
    Inn t B s'.ds (-1) ∧ s'.sent = s.sent ∧ (∀ k ∈ lv, (dn s'.ds k).bytes = B ∧ (dn s'.ds k).ws = (dn s.ds k).ws ++ List.replicate many B) ∧ ∀ c, c ∉ lv → t.kids c = [] → dn s'.ds c = dn s.ds c
  | [], s, s', _, _, h, hi => by
    obtain rfl : s = s' := h
    exact ⟨hi, rfl, fun k hk => by simp at hk, fun _ _ _ => rfl⟩
  | k :: lv, s, s', hn, hl, h, hi => by
    rw [List.flatMap_cons] at h
    obtain ⟨s1, h1, h2⟩ := runL_app h
    obtain ⟨n1, n2⟩ := List.nodup_cons.1 hn
    obtain ⟨k1, k2⟩ := hl k (List.mem_cons_self ..)
    obtain ⟨a1, a2, a3, a4, a5⟩ := ins g hB k1 k2 h1 hi
    obtain ⟨b1, b2, b3, b4⟩ := fills g hB hm n2 (fun j hj => hl j (List.mem_cons_of_mem _ hj)) h2 a1
    refine ⟨b1, by rw [b2, a2], fun j hj => ?_, fun c hc hcl => ?_⟩
    · by_cases e : j = k
      · subst e
        rw [b4 j n1 k2]
        exact ⟨a4 (.inl (by omega)), a3⟩
      · have hj2 : j ∈ lv := by
          rcases List.mem_cons.1 hj with h | h
          · exact absurd h e
          · exact h
        have := b3 j hj2
        rw [a5 j e (hl j hj).2] at this
        exact this
    · rw [List.mem_cons, not_or] at hc
      rw [b4 c hc.2 hcl, a5 c hc.1 hcl]

/-- How many of them are of c. -/
def cntS (l : List (Int × Int)) (c : Nat) : Nat := l.countP fun x => decide (x.1 = (c : Int))
theorem cntS_snoc {l : List (Int × Int)} {c r : Nat} {b : Int} : cntS (l ++ [((r : Int), b)]) c = cntS l c + if c = r then 1 else 0 := by
  unfold cntS
  rw [List.countP_append, List.countP_singleton]
  congr 1
  by_cases e : c = r
  · subst e; simp
  · rw [if_neg e, if_neg]
    simp
    omega
structure Outs (t : Tr) (B : Int) (many : Nat) (s : S) (m : Nat) (cnt : Nat → Nat) : Prop where
  mid : ∃ r0, Mid t B s.ds cnt r0 (-1)
  c0 : cnt 0 = m
  lc : ∀ c, c < t.n → t.kids c = [] → cnt c = cntS s.sent c
  ws : ∀ c, c < t.n → t.kids c = [] → (dn s.ds c).ws = List.replicate (many - cnt c) B
  le : ∀ c, c < t.n → t.kids c = [] → cnt c ≤ m
  sn : s.sent.length = m
  fl : ∀ x ∈ s.sent, ∃ r : Nat, x.1 = r ∧ r < t.n ∧ t.kids r = []
theorem outF_w (g : t.Good) {s : List D} {r : Nat} (hl : s.length = t.n) (hr : r < t.n) (e : (dn s 0).leaf = r) (hw : (dn s r).ws.length ≠ 1) (c : Nat) : (dn (outF t s) c).ws = if c = r then (dn s r).ws.drop 1 else (dn s c).ws := by
  have hrl : r < s.length := by omega
  have h2 := (g.lt hr).1
  unfold outF
  rw [e, Int.toNat_natCast]
  have h3 : (goneF t s r).length = t.n := by unfold goneF; split <;> (try rw [offer_len]) <;> simpa using hl
  rw [upOut_ws g h3 (by omega)]
  unfold goneF
  rw [if_neg hw, offer_ws (by simpa using hrl), dn_set hrl]
  split
  · rfl
  · rfl
theorem one_out (g : t.Good) (hB : 1 ≤ B) {many m : Nat} {s s' : S} {cnt : Nat → Nat} (h : Outs t B many s m cnt) (hok : Ok t s.ds) (hs : Stp t s (2, 0, 0) s') :
    ∃ r : Nat, (dn s.ds 0).leaf = r ∧ r < t.n ∧ t.kids r = [] ∧ s'.sent = s.sent ++ [((r : Int), B)] ∧ s'.ds = outF t s.ds := by
  obtain ⟨r0, hm⟩ := h.mid
  have hb := hm.full 0 g.n1
  obtain ⟨r, r1, r2, r3, _⟩ := ok_leaf g hok (by omega)
  cases hs with
  | kind _ h2 => exact absurd rfl h2
  | none h1 => dsimp only at h1; omega
  | range h1 => dsimp only at h1; omega
  | inn _ h1 => dsimp only at h1; omega
  | nought _ h2 => omega
  | out => exact ⟨r, r2, r1, r3, by rw [r2, hb], rfl⟩
theorem outs_step (g : t.Good) (hB : 1 ≤ B) {many m : Nat} {s s' : S} {cnt : Nat → Nat} (h : Outs t B many s m cnt) (hok : Ok t s.ds) (hs : Stp t s (2, 0, 0) s') (hm : m + 1 < many) : ∃ cnt', Outs t B many s' (m + 1) cnt' := by
  obtain ⟨r, r1, r2, r3, r4, r5⟩ := one_out g hB h hok hs
  obtain ⟨r0, h0⟩ := h.mid
  have hw := h.ws r r2 r3
  have hle := h.le r r2 r3
  have hwl : (dn s.ds r).ws.length = many - cnt r := by rw [hw, List.length_replicate]
  obtain ⟨cnt', c1, c2, c3⟩ := outF_mid g hB h0 r1 r2 r3 (by omega) (by
    rw [hw, List.drop_replicate]
    obtain ⟨d, hd'⟩ : ∃ d, many - cnt r - 1 = d + 1 := ⟨many - cnt r - 2, by omega⟩
    rw [hd', List.replicate_succ]
    rfl)
  refine ⟨cnt', ⟨⟨r, by rw [r5]; exact c1⟩, by rw [c2, h.c0], fun c hc hcl => ?_, fun c hc hcl => ?_, fun c hc hcl => ?_, by rw [r4, List.length_append, h.sn]; rfl, fun x hx => ?_⟩⟩
  · rw [c3 c hcl, r4, cntS_snoc, h.lc c hc hcl]
  · rw [r5, outF_w g h0.len r2 r1 (by omega), c3 c hcl]
    by_cases e : c = r
    · subst e
      rw [if_pos rfl, if_pos rfl, hw, List.drop_replicate, Nat.sub_sub]
    · rw [if_neg e, if_neg e, Nat.add_zero]
      exact h.ws c hc hcl
  · rw [c3 c hcl]
    have := h.le c hc hcl
    split <;> omega
  · rw [r4] at hx
    rcases List.mem_append.1 hx with hx | hx
    · exact h.fl x hx
    · rw [List.mem_singleton] at hx
      subst hx
      exact ⟨r, rfl, r2, r3⟩
theorem outs_run (g : t.Good) (hB : 1 ≤ B) {many i : Nat} {s0 : S} (h0 : Outs t B many s0 0 (fun _ => 0)) (hw : Wf t i s0) : ∀ {m : Nat} {s : S}, m < many → RunL t s0 (List.replicate m (2, 0, 0)) s → ∃ cnt, Outs t B many s m cnt
  | 0, s, _, h => by
    obtain rfl : s0 = s := h
    exact ⟨_, h0⟩
  | m + 1, s, hm, h => by
    rw [List.replicate_succ'] at h
    obtain ⟨s1, h1, h2⟩ := runL_app h
    obtain ⟨s2, h3, h4⟩ := h2
    obtain rfl : s2 = s := h4
    obtain ⟨cnt, hc⟩ := outs_run g hB h0 hw (m := m) (by omega) h1
    exact outs_step g hB hc (runL_wf g hw h1).ok h3 hm
/-- All of it: so many are sent, of leaves, and nobody is behind by more than two for each step, but for the last one. -/
theorem hier_sent (g : t.Good) (hB : 1 ≤ B ∧ B ≤ 1500) {many : Nat} (hm : 1 ≤ many) {os : List O3} {s : S} (hos : os = ((leavesTo t t.n).flatMap fun (k : Nat) => List.replicate many (1, (k : Int), B)) ++ List.replicate many (2, 0, 0)) (h : Run t os os.length s) :
    s.sent.length = many ∧ (∀ x ∈ s.sent, ∃ r : Nat, x.1 = r ∧ r < t.n ∧ t.kids r = []) ∧ ∃ cnt : Nat → Nat, cnt 0 + 1 = many ∧ (∀ c, c < t.n → t.kids c = [] → cnt c ≤ cntS s.sent c) ∧ ∀ c p : Nat, c < t.n → t.u c = p → (cnt p : Int) * t.w c ≤ (cnt c + 2) * t.sum p := by
  have h1 := run_runL (Nat.le_refl _) h
  rw [List.take_length, hos] at h1
  obtain ⟨s1, h2, h3⟩ := runL_app h1
  have hlv : ∀ k ∈ leavesTo t t.n, k < t.n ∧ t.kids k = [] := fun k hk => mem_leaves.1 hk
  obtain ⟨a1, a2, a3, _⟩ := fills g hB hm (by unfold leavesTo; exact List.nodup_range.filter _) hlv h2 (inn_zero hB.1)
  have hmid := mid_of_inn g hB.1 a1 (fun c hc hcl => (a3 c (mem_leaves.2 ⟨hc, hcl⟩)).1)
  have ho : Outs t B many s1 0 (fun _ => 0) := ⟨⟨0, hmid⟩, rfl, fun c _ _ => by rw [a2]; rfl, fun c hc hcl => by
    rw [(a3 c (mem_leaves.2 ⟨hc, hcl⟩)).2, dn_nil]; rfl, fun _ _ _ => Nat.le_refl _, by rw [a2]; rfl, fun x hx => by rw [a2] at hx; simp at hx⟩
  have hw := runL_wf g (wf_zero t) h2
  obtain ⟨m, rfl⟩ : ∃ m, many = m + 1 := ⟨many - 1, by omega⟩
  rw [List.replicate_succ'] at h3
  obtain ⟨s2, h4, s3, h5, h6⟩ := runL_app h3
  obtain rfl : s3 = s := h6
  obtain ⟨cnt, hc⟩ := outs_run g hB.1 ho hw (m := m) (by omega) h4
  obtain ⟨r, r1, r2, r3, r4, r5⟩ := one_out g hB.1 hc (runL_wf g hw h4).ok h5
  obtain ⟨r0, h0⟩ := hc.mid
  refine ⟨by rw [r4, List.length_append, hc.sn]; rfl, fun x hx => ?_, cnt, by rw [hc.c0], fun c hcn hcl => ?_, fun c p hcn hu => level g hB.1 h0 hcn hu⟩
  · rw [r4] at hx
    rcases List.mem_append.1 hx with hx | hx
    · exact hc.fl x hx
    · rw [List.mem_singleton] at hx
      subst hx
      exact ⟨r, rfl, r2, r3⟩
  · rw [r4, cntS_snoc, ← hc.lc c hcn hcl]
    omega
theorem cntS_all : ∀ {l : List (Int × Int)} {c : Nat}, (∀ x ∈ l, x.1 = (c : Int)) → cntS l c = l.length := fun {l c} h => by
  unfold cntS
  rw [List.countP_eq_length]
  intro x hx
  simpa using h x hx
theorem cntS_le {l : List (Int × Int)} {c : Nat} : cntS l c ≤ l.length := List.countP_le_length

/-- How many of the first m have one above that is at least i; that is p. -/
def kge (t : Tr) (i : Nat) : Nat → Nat
  | 0 => 0
  | m + 1 => kge t i m + if (i : Int) ≤ t.u m then 1 else 0
def keq (t : Tr) (p : Nat) : Nat → Nat
  | 0 => 0
  | m + 1 => keq t p m + if t.u m = p then 1 else 0
theorem sum_keq (g : t.Good) {p : Nat} : ∀ {m : Nat}, m ≤ t.n → t.sumTo m p ≤ 12 * keq t p m
  | 0, _ => by simp [Tr.sumTo, keq]
  | m + 1, h => by
    have h1 := sum_keq g (p := p) (m := m) (by omega)
    have h2 := g.w m (by omega)
    rw [Tr.sumTo, keq]
    by_cases e : t.u m = p
    · rw [decide_eq_true e, if_pos e]; simp only [cond_true]; omega
    · rw [decide_eq_false e, if_neg e]; simp only [cond_false]; omega
theorem kge_add {i p : Nat} (h : p < i) : ∀ m, kge t i m + keq t p m ≤ kge t p m
  | 0 => by simp [kge, keq]
  | m + 1 => by
    have h1 := kge_add h m
    rw [kge, keq, kge]
    by_cases e1 : (i : Int) ≤ t.u m
    · rw [if_pos e1, if_neg (by omega), if_pos (by omega)]; omega
    · rw [if_neg e1]
      by_cases e2 : t.u m = p
      · rw [if_pos e2, if_pos (by omega)]; omega
      · rw [if_neg e2]; omega
theorem kge_top (g : t.Good) : ∀ {m : Nat}, 1 ≤ m → kge t 0 m ≤ m - 1
  | 1, _ => by
    have := g.u0
    rw [kge, kge, if_neg (by omega)]
    exact Nat.le_refl _
  | m + 2, _ => by
    have h1 := kge_top g (m := m + 1) (by omega)
    rw [kge]
    split <;> omega
theorem pow12 : ∀ {x : Nat}, 1 ≤ x → 12 * x ≤ 12 ^ x
  | 1, _ => by decide
  | x + 2, _ => by
    have h1 := pow12 (x := x + 1) (by omega)
    rw [Nat.pow_succ]
    omega
/-- The way up from a leaf: its part so far. -/
structure Chn (t : Tr) (cnt : Nat → Nat) (k i : Nat) (num den steps : Int) : Prop where
  ilt : i < t.n
  pos : 1 ≤ num ∧ num ≤ den
  st : 0 ≤ steps ∧ steps + i ≤ k
  one : steps = 0 → i = k ∧ num = 1 ∧ den = 1
  le : (cnt i : Int) * num ≤ (cnt k + 2 * steps) * den
  bd : den ≤ ((12 ^ kge t i t.n : Nat) : Int)
theorem Chn.start {cnt : Nat → Nat} {k : Nat} (hk : k < t.n) : Chn t cnt k k 1 1 0 :=
  ⟨hk, by omega, by omega, fun _ => ⟨rfl, rfl, rfl⟩, by omega, Int.ofNat_le.2 (Nat.pow_pos (n := kge t k t.n) (show 0 < 12 by decide))⟩
theorem Chn.step (g : t.Good) {cnt : Nat → Nat} {k i p : Nat} {num den steps : Int} (h : Chn t cnt k i num den steps) (hp : t.u i = p) (hlev : (cnt p : Int) * t.w i ≤ (cnt i + 2) * t.sum p) : Chn t cnt k p (num * t.w i) (den * t.sum p) (steps + 1) := by
  have hw := g.w i h.ilt
  have hlt := g.lt h.ilt
  obtain ⟨p1, p2⟩ := h.pos
  have hwS := sum_ge g h.ilt hp
  have hi0 := h.st
  have hilt := h.ilt
  refine ⟨by omega, ⟨?_, ?_⟩, by omega, fun e => by omega, ?_, ?_⟩
  · have := Int.mul_le_mul p1 hw.1 (by omega) (by omega); omega
  · exact Int.mul_le_mul p2 hwS (by omega) (by omega)
  · have h1 := Int.mul_le_mul_of_nonneg_left hlev (show 0 ≤ num by omega)
    have h2 := Int.mul_le_mul_of_nonneg_right h.le (show 0 ≤ t.sum p by omega)
    have h3 := Int.mul_le_mul_of_nonneg_right p2 (show 0 ≤ 2 * t.sum p by omega)
    have e1 : (cnt p : Int) * (num * t.w i) = num * ((cnt p : Int) * t.w i) := by grind
    have e2 : num * (((cnt i : Int) + 2) * t.sum p) = (cnt i : Int) * num * t.sum p + num * (2 * t.sum p) := by grind
    have e3 : ((cnt k : Int) + 2 * (steps + 1)) * (den * t.sum p) = ((cnt k : Int) + 2 * steps) * den * t.sum p + den * (2 * t.sum p) := by grind
    rw [e1, e3]
    omega
  · have h1 := sum_keq g (p := p) (Nat.le_refl t.n)
    have h2 : 1 ≤ keq t p t.n := by have : t.sumTo t.n p = t.sum p := rfl; omega
    have h3 := pow12 h2
    have h4 : t.sum p ≤ ((12 ^ keq t p t.n : Nat) : Int) := by have : t.sumTo t.n p = t.sum p := rfl; omega
    have h5 := Int.mul_le_mul h.bd h4 (by omega) (Int.natCast_nonneg _)
    have h6 := Nat.pow_le_pow_right (n := 12) (by decide) (kge_add (t := t) (show p < i by omega) t.n)
    rw [Nat.pow_add] at h6
    rw [← Int.natCast_mul] at h5
    exact Int.le_trans h5 (Int.ofNat_le.2 h6)
theorem Chn.small (g : t.Good) {cnt : Nat → Nat} {k i : Nat} {num den steps : Int} (h : Chn t cnt k i num den steps) : den ≤ 15407021574586368 := by
  have h1 := h.bd
  have h3 := kge_top g g.n1
  have h4 := g.n16
  have h5 : kge t i t.n ≤ 15 := by
    by_cases e : i = 0
    · subst e; omega
    · have := kge_add (t := t) (show 0 < i by omega) t.n; omega
  have h2 : 12 ^ kge t i t.n ≤ 12 ^ 15 := Nat.pow_le_pow_right (by decide) h5
  have h6 : (12 : Nat) ^ 15 = 15407021574586368 := by decide
  rw [h6] at h2
  exact Int.le_trans h1 (Int.ofNat_le.2 h2)
theorem Chn.fin {cnt : Nat → Nat} {k : Nat} {num den steps nk : Int} {many : Nat} (h : Chn t cnt k 0 num den steps) (hc : cnt 0 + 1 = many) (hk : (cnt k : Int) ≤ nk) (h1 : steps = 0 → nk = many) : (many : Int) * num ≤ (nk + steps * 3) * den := by
  obtain ⟨p1, p2⟩ := h.pos
  by_cases e : steps = 0
  · obtain ⟨_, rfl, rfl⟩ := h.one e
    have := h1 e
    omega
  · have h2 := h.le
    have h3 : (many : Int) * num = (cnt 0 : Int) * num + num := by rw [← hc, Int.natCast_add, Int.add_mul]; simp
    have h4 : (nk + steps * 3) * den = (cnt k + 2 * steps) * den + (nk - cnt k) * den + (steps - 1) * den + den := by grind
    have h5 := Int.mul_nonneg (show 0 ≤ nk - cnt k by omega) (show 0 ≤ den by omega)
    have h6 := Int.mul_nonneg (show 0 ≤ steps - 1 by have := h.st; omega) (show 0 ≤ den by omega)
    omega
end
end Go.Proofs.YtfcpmcdlgkfolaaDoor.Hier
