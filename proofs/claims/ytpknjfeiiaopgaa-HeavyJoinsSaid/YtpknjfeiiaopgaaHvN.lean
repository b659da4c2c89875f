/- Counts as a table, plain. -/
import Derived.Test.YtpknjfeiiaopgaaHvM
import Derived.Test.YtpknjfeiiaopgaaEM
namespace Go.Proofs.Ytpknjfeiiaopgaa.Heavy
open Go.RowKit Go.Proofs.Ytpknjfeiiaopgaa.E

def tb (l : List (Int × Int)) : List (Int × Value) := l.map fun c => (c.1, Value.int .i64 c.2)
theorem tb_keys (l : List (Int × Int)) : keys (tb l) = l.map (·.1) := by simp [tb, keys]
theorem tb_append {l r : List (Int × Int)} : tb (l ++ r) = tb l ++ tb r := by simp [tb]
theorem mem_k {l : List (Int × Int)} {j : Nat} (h : j < l.length) : (k1 l j, k2 l j) ∈ l := by rw [k_eq h]; exact List.getElem_mem _
theorem k_of_mem {l : List (Int × Int)} {c : Int × Int} (h : c ∈ l) : ∃ j, j < l.length ∧ k1 l j = c.1 ∧ k2 l j = c.2 := by
  obtain ⟨j, hj, he⟩ := List.getElem_of_mem h
  have := k_eq hj
  rw [he] at this
  exact ⟨j, hj, congrArg Prod.fst this, congrArg Prod.snd this⟩
theorem up_pair {l : List (Int × Int)} : Up l → (l.map (·.1)).Nodup := by
  induction l with
  | nil => intro _; simp
  | cons a l ih =>
    intro h
    obtain ⟨h1, h2⟩ := up_tail h
    rw [List.map_cons, List.nodup_cons]
    refine ⟨fun hc => ?_, ih h1⟩
    obtain ⟨c, hc, e⟩ := List.mem_map.1 hc
    have := h2 c hc
    omega
theorem tb_some {l : List (Int × Int)} {x : Int} {v : Value} (h : mget (tb l) x = some v) : ∃ c ∈ l, c.1 = x ∧ v = .int .i64 c.2 := by
  have := mget_mem h
  obtain ⟨c, hc, he⟩ := List.mem_map.1 this
  injection he with e1 e2
  exact ⟨c, hc, e1, e2.symm⟩
theorem tb_get {l : List (Int × Int)} {c : Int × Int} (hn : (l.map (·.1)).Nodup) (h : c ∈ l) : mget (tb l) c.1 = some (.int .i64 c.2) :=
  mget_of_mem (by rw [tb_keys]; exact hn) (List.mem_map.2 ⟨c, h, rfl⟩)
theorem tb_none {l : List (Int × Int)} {x : Int} (h : x ∉ l.map (·.1)) : mget (tb l) x = none := mget_none.2 (by rw [tb_keys]; exact h)
/-- The number that stands at x. -/
def tv (l : List (Int × Int)) (p : Nat) (x : Int) : Int := if p < l.length ∧ k1 l p = x then k2 l p else 0
theorem not_key {l : List (Int × Int)} {x : Int} {p : Nat} (hp : LB l x p) (h : p = l.length ∨ k1 l p ≠ x) (hu : Up l) : x ∉ l.map (·.1) := fun hc => by
  obtain ⟨c, hcm, e⟩ := List.mem_map.1 hc
  obtain ⟨j, hj, h1, _⟩ := k_of_mem hcm
  rw [e] at h1
  rcases Nat.lt_or_ge j p with g | g
  · have := hp.lo j g; omega
  · rcases Nat.lt_or_ge p j with g2 | g2
    · have h3 := hu p j g2 hj
      have h4 := hp.hi p (Nat.le_refl _) (by omega)
      omega
    · obtain rfl : j = p := by omega
      omega
theorem tb_lookup {l : List (Int × Int)} {x : Int} {p : Nat} (hu : Up l) (hp : LB l x p) : (mget (tb l) x).getD (.int .i64 0) = .int .i64 (tv l p x) := by
  unfold tv
  by_cases h : p < l.length ∧ k1 l p = x
  · rw [if_pos h]
    have := tb_get (up_pair hu) (mem_k h.1)
    dsimp only at this
    rw [h.2] at this
    rw [this]
    rfl
  · rw [if_neg h, tb_none (not_key hp (by have := hp.le; omega) hu)]
    rfl
theorem tb_put_set {x v : Int} : ∀ {l : List (Int × Int)} {p : Nat}, (l.map (·.1)).Nodup → p < l.length → k1 l p = x → mput (tb l) x (.int .i64 v) = tb (l.set p (x, v))
  | [], p, _, h, _ => by simp at h
  | a :: l, 0, hn, h, hx => by
    have : a.1 = x := by simpa [k1] using hx
    simp [tb, mput, this]
  | a :: l, p + 1, hn, h, hx => by
    rw [List.map_cons, List.nodup_cons] at hn
    have hx' : k1 l p = x := by simpa [k1] using hx
    have hne : a.1 ≠ x := fun e => hn.1 (by
      rw [e, ← hx']
      exact List.mem_map.2 ⟨_, mem_k (by simpa using h), rfl⟩)
    have ih := tb_put_set (v := v) hn.2 (by simpa using h) hx'
    show mput ((a.1, _) :: tb l) x _ = _
    rw [mput, if_neg hne, ih]
    rfl
theorem tb_put_new {l : List (Int × Int)} {x v : Int} (h : x ∉ l.map (·.1)) : mput (tb l) x (.int .i64 v) = tb (l ++ [(x, v)]) := by
  rw [mput_new (by rw [tb_keys]; exact h), tb_append]
  rfl
theorem take_key {l : List (Int × Int)} {i : Nat} (hu : Up l) (hi : i < l.length) : k1 l i ∉ (l.take i).map (·.1) := fun hc => by
  obtain ⟨c, hc, e⟩ := List.mem_map.1 hc
  obtain ⟨j, hj, he⟩ := List.getElem_of_mem hc
  rw [List.length_take] at hj
  have h1 := hu j i (by omega) hi
  have h2 : k1 l j = c.1 := by
    unfold k1
    rw [getD_lt (by omega), ← he, List.getElem_take]
  omega
theorem up_take {l : List (Int × Int)} {i : Nat} (hu : Up l) : Up (l.take i) := fun a b hab hb => by
  rw [List.length_take] at hb
  have := hu a b hab (by omega)
  unfold k1 at this ⊢
  simp only [List.getD_eq_getElem?_getD, List.getElem?_take] at this ⊢
  rw [if_pos (by omega), if_pos (by omega)]
  exact this
/-- Two places change. -/
def swap (o : List (Int × Int)) (j : Nat) : List (Int × Int) := (o.set j (k1 o (j - 1), k2 o (j - 1))).set (j - 1) (k1 o j, k2 o j)
theorem swap_len {o : List (Int × Int)} {j : Nat} : (swap o j).length = o.length := by simp [swap]
theorem swap_k {o : List (Int × Int)} {j : Nat} (h0 : 0 < j) (hj : j < o.length) (q : Nat) : k1 (swap o j) q = if q = j - 1 then k1 o j else if q = j then k1 o (j - 1) else k1 o q := by
  unfold swap k1
  rw [getD_set (by rw [List.length_set]; omega), getD_set hj]
  split
  · rfl
  · split <;> rfl
theorem swap_k2 {o : List (Int × Int)} {j : Nat} (h0 : 0 < j) (hj : j < o.length) (q : Nat) : k2 (swap o j) q = if q = j - 1 then k2 o j else if q = j then k2 o (j - 1) else k2 o q := by
  unfold swap k2
  rw [getD_set (by rw [List.length_set]; omega), getD_set hj]
  split
  · rfl
  · split <;> rfl
theorem swap_mem {o : List (Int × Int)} {j : Nat} (h0 : 0 < j) (hj : j < o.length) (c : Int × Int) : c ∈ swap o j ↔ c ∈ o := by
  have key : ∀ (a b : List (Int × Int)), a.length = b.length → (∀ q, q < b.length → ∃ r, r < a.length ∧ k1 a r = k1 b q ∧ k2 a r = k2 b q) → c ∈ b → c ∈ a := fun a b hl h hc => by
    obtain ⟨q, hq, h1, h2⟩ := k_of_mem hc
    obtain ⟨r, hr, h3, h4⟩ := h q hq
    have := mem_k hr
    rw [h3, h4, h1, h2] at this
    exact this
  constructor
  · refine key _ _ swap_len.symm fun q hq => ?_
    rw [swap_len] at hq
    rw [swap_k h0 hj, swap_k2 h0 hj]
    by_cases e : q = j - 1
    · exact ⟨j, hj, by rw [if_pos e], by rw [if_pos e]⟩
    · by_cases e2 : q = j
      · exact ⟨j - 1, by omega, by rw [if_neg e, if_pos e2], by rw [if_neg e, if_pos e2]⟩
      · exact ⟨q, hq, by rw [if_neg e, if_neg e2], by rw [if_neg e, if_neg e2]⟩
  · refine key _ _ swap_len fun q hq => ?_
    by_cases e : q = j - 1
    · exact ⟨j, by rw [swap_len]; exact hj, by rw [swap_k h0 hj, if_neg (by omega), if_pos rfl, e], by rw [swap_k2 h0 hj, if_neg (by omega), if_pos rfl, e]⟩
    · by_cases e2 : q = j
      · exact ⟨j - 1, by rw [swap_len]; omega, by rw [swap_k h0 hj, if_pos rfl, e2], by rw [swap_k2 h0 hj, if_pos rfl, e2]⟩
      · exact ⟨q, by rw [swap_len]; exact hq, by rw [swap_k h0 hj, if_neg e, if_neg e2], by rw [swap_k2 h0 hj, if_neg e, if_neg e2]⟩
/-- Each number once, by place. -/
def Dst (o : List (Int × Int)) : Prop := ∀ a b, a < o.length → b < o.length → k1 o a = k1 o b → a = b
theorem dst_of {o : List (Int × Int)} (h : (o.map (·.1)).Nodup) : Dst o := fun a b ha hb he => by
  unfold k1 at he
  rw [getD_lt ha, getD_lt hb] at he
  have hp := List.pairwise_iff_getElem.1 h
  rcases Nat.lt_trichotomy a b with g | g | g
  · exact absurd (by rw [List.getElem_map, List.getElem_map]; exact he) (hp a b (by simpa using ha) (by simpa using hb) g)
  · exact g
  · exact absurd (by rw [List.getElem_map, List.getElem_map]; exact he.symm) (hp b a (by simpa using hb) (by simpa using ha) g)
theorem dst_swap {o : List (Int × Int)} {j : Nat} (h : Dst o) (h0 : 0 < j) (hj : j < o.length) : Dst (swap o j) := fun a b ha hb he => by
  rw [swap_len] at ha hb
  have e : ∀ q, k1 (swap o j) q = k1 o (if q = j - 1 then j else if q = j then j - 1 else q) := fun q => by
    rw [swap_k h0 hj]
    split
    · rfl
    · split <;> rfl
  have hlt : ∀ q, q < o.length → (if q = j - 1 then j else if q = j then j - 1 else q) < o.length := fun q hq => by
    split
    · omega
    · split <;> omega
  rw [e, e] at he
  have hp := h _ _ (hlt a ha) (hlt b hb) he
  split at hp <;> split at hp <;> (try split at hp) <;> (try split at hp) <;> omega
/-- The first i stand in order. -/
def Srt (o : List (Int × Int)) (i : Nat) : Prop := ∀ a b, a < b → b < i → k1 o a < k1 o b
/-- All up to i stand in order but the one at j, which is below those right of it. -/
def Mid (o : List (Int × Int)) (i j : Nat) : Prop := (∀ a b, a < b → b ≤ i → a ≠ j → b ≠ j → k1 o a < k1 o b) ∧ ∀ b, j < b → b ≤ i → k1 o j < k1 o b
theorem mid_start {o : List (Int × Int)} {i : Nat} (h : Srt o i) : Mid o i i := ⟨fun a b h1 h2 _ h4 => h a b h1 (by omega), fun b h1 h2 => by omega⟩
theorem mid_swap {o : List (Int × Int)} {i j : Nat} (h : Mid o i j) (h0 : 0 < j) (hj : j ≤ i) (hi : i < o.length) (hlt : k1 o j < k1 o (j - 1)) : Mid (swap o j) i (j - 1) := by
  refine ⟨fun a b h1 h2 h3 h4 => ?_, fun b h1 h2 => ?_⟩
  · rw [swap_k h0 (by omega), swap_k h0 (by omega), if_neg h3, if_neg h4]
    by_cases a2 : a = j <;> by_cases b2 : b = j
    · omega
    · rw [if_pos a2, if_neg b2]; exact h.1 (j - 1) b (by omega) h2 (by omega) b2
    · rw [if_neg a2, if_pos b2]; exact h.1 a (j - 1) (by omega) (by omega) a2 (by omega)
    · rw [if_neg a2, if_neg b2]; exact h.1 a b h1 h2 a2 b2
  · rw [swap_k h0 (by omega), swap_k h0 (by omega), if_pos rfl, if_neg (by omega)]
    by_cases b2 : b = j
    · rw [if_pos b2]; exact hlt
    · rw [if_neg b2]; exact h.2 b (by omega) h2
theorem mid_end {o : List (Int × Int)} {i j : Nat} (h : Mid o i j) (hd : Dst o) (hj : j ≤ i) (hi : i < o.length) (hs : j = 0 ∨ k1 o (j - 1) ≤ k1 o j) : Srt o (i + 1) := fun a b h1 h2 => by
  by_cases a2 : a = j
  · subst a2; exact h.2 b h1 (by omega)
  · by_cases b2 : b = j
    · subst b2
      rcases hs with hs | hs
      · omega
      · have hne : k1 o (b - 1) ≠ k1 o b := fun e => by have := hd _ _ (by omega) (by omega) e; omega
        by_cases e : a = b - 1
        · subst e; omega
        · have := h.1 a (b - 1) (by omega) (by omega) (by omega) (by omega)
          omega
    · exact h.1 a b h1 (by omega) a2 b2
end Go.Proofs.Ytpknjfeiiaopgaa.Heavy
