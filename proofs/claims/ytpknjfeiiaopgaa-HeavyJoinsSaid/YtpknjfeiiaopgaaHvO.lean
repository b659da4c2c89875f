/- An addition in a table, plain. -/
import Derived.Test.YtpknjfeiiaopgaaHvN
namespace Go.Proofs.Ytpknjfeiiaopgaa.Heavy
open Go.RowKit Go.Proofs.Ytpknjfeiiaopgaa.E

theorem lb_ex {l : List (Int × Int)} {x : Int} (hu : Up l) : ∃ p, LB l x p := by
  have key : ∀ m, m ≤ l.length → ∃ p, p ≤ m ∧ (∀ q, q < p → k1 l q < x) ∧ ∀ q, p ≤ q → q < m → x ≤ k1 l q := fun m => by
    induction m with
    | zero => exact fun _ => ⟨0, Nat.le_refl _, fun q h => by omega, fun q _ h => by omega⟩
    | succ m ih =>
      intro hm
      obtain ⟨p, h1, h2, h3⟩ := ih (by omega)
      by_cases e : p = m
      · by_cases hx : k1 l m < x
        · refine ⟨m + 1, Nat.le_refl _, fun q hq => ?_, fun q _ _ => by omega⟩
          by_cases e2 : q = m
          · subst e2; exact hx
          · exact h2 q (by omega)
        · refine ⟨p, by omega, h2, fun q hq1 hq2 => ?_⟩
          obtain rfl : q = m := by omega
          omega
      · refine ⟨p, by omega, h2, fun q hq1 hq2 => ?_⟩
        by_cases e2 : q = m
        · subst e2
          have := hu p q (by omega) (by omega)
          have := h3 p (Nat.le_refl _) (by omega)
          omega
        · exact h3 q hq1 (by omega)
  obtain ⟨p, h1, h2, h3⟩ := key l.length (Nat.le_refl _)
  exact ⟨p, h1, h2, h3⟩
theorem tv_cases {l : List (Int × Int)} {x : Int} {p : Nat} (hp : LB l x p) : (p < l.length ∧ k1 l p = x ∧ tv l p x = k2 l p) ∨ ((p = l.length ∨ k1 l p ≠ x) ∧ tv l p x = 0) := by
  unfold tv
  by_cases h : p < l.length ∧ k1 l p = x
  · exact .inl ⟨h.1, h.2, if_pos h⟩
  · exact .inr ⟨by have := hp.le; omega, if_neg h⟩
theorem k_set {l : List (Int × Int)} {p : Nat} {c : Int × Int} (hp : p < l.length) (q : Nat) : k1 (l.set p c) q = (if q = p then c.1 else k1 l q) ∧ k2 (l.set p c) q = if q = p then c.2 else k2 l q := by
  unfold k1 k2
  rw [getD_set hp]
  split <;> exact ⟨rfl, rfl⟩
theorem up_set {l : List (Int × Int)} {p : Nat} {v : Int} (hu : Up l) (hp : p < l.length) : Up (l.set p (k1 l p, v)) := fun a b hab hb => by
  rw [List.length_set] at hb
  have := hu a b hab hb
  rw [(k_set hp a).1, (k_set hp b).1]
  split
  · rename_i e; subst e
    split
    · omega
    · exact this
  · split
    · rename_i e; subst e; exact this
    · exact this
theorem k_ins {l : List (Int × Int)} {p : Nat} {c : Int × Int} (hp : p ≤ l.length) (q : Nat) : k1 (l.take p ++ c :: l.drop p) q = if q < p then k1 l q else if q = p then c.1 else k1 l (q - 1) := by
  unfold k1
  simp only [List.getD_eq_getElem?_getD, List.getElem?_append, List.length_take]
  by_cases h : q < p
  · rw [if_pos (by omega), if_pos h, List.getElem?_take, if_pos h]
  · rw [if_neg (by omega), if_neg h, show min p l.length = p by omega]
    by_cases e : q = p
    · subst e; simp
    · rw [if_neg e]
      obtain ⟨i, hi⟩ : ∃ i, q - p = i + 1 := ⟨q - p - 1, by omega⟩
      rw [hi, List.getElem?_cons_succ, List.getElem?_drop, show p + i = q - 1 by omega]
theorem up_ins {l : List (Int × Int)} {p : Nat} {x v : Int} (hu : Up l) (hp : LB l x p) (h : p = l.length ∨ k1 l p ≠ x) : Up (l.take p ++ (x, v) :: l.drop p) := fun a b hab hb => by
  have hle := hp.le
  have hb2 : b < l.length + 1 := by
    rw [List.length_append, List.length_take, List.length_cons, List.length_drop] at hb
    omega
  rw [k_ins hle, k_ins hle]
  by_cases a1 : a < p
  · rw [if_pos a1]
    by_cases b1 : b < p
    · rw [if_pos b1]; exact hu a b hab (by omega)
    · rw [if_neg b1]
      by_cases b2 : b = p
      · rw [if_pos b2]; exact hp.lo a a1
      · rw [if_neg b2]; exact hu a (b - 1) (by omega) (by omega)
  · rw [if_neg a1, if_neg (by omega : ¬ b < p), if_neg (by omega : ¬ b = p)]
    by_cases a2 : a = p
    · rw [if_pos a2]
      have h1 := hp.hi (b - 1) (by omega) (by omega)
      have h2 := hp.hi p (Nat.le_refl _) (by omega)
      by_cases e : b - 1 = p
      · rw [e] at h1 ⊢
        have := h.resolve_left (by omega)
        show x < k1 l p
        omega
      · have := hu p (b - 1) (by omega) (by omega)
        show x < k1 l (b - 1)
        omega
    · rw [if_neg a2]; exact hu (a - 1) (b - 1) (by omega) (by omega)
theorem mem_pos {l : List (Int × Int)} {k : Int} (h : Rt k l) {c : Int × Int} (hc : c ∈ l) : 1 ≤ c.2 := by
  obtain ⟨j, hj, _, h2⟩ := k_of_mem hc
  have := (h.2 j hj).1
  omega
/-- One comes that may: the table, sorted, is what heavy.Add makes. -/
theorem wadd_inc {k x : Int} {l : List (Int × Int)} {p : Nat} (hrt : Rt k l) (hp : LB l x p) (hm : tv l p x ≠ 1099511627776) (h : 1 ≤ tv l p x ∨ (l.length : Int) < k) :
    ∃ l2 : List (Int × Int), mput (tb l) x (.int .i64 (tv l p x + 1)) = tb l2 ∧ (l2.map (·.1)).Nodup ∧ l2.length ≤ 1000 ∧ ∀ r, Up r → (∀ c, c ∈ r ↔ c ∈ l2 ∧ 0 < c.2) → AddR k l x r 0 := by
  have hu := hrt.up
  have hkl := hrt.1
  rcases tv_cases hp with ⟨h1, h2, h3⟩ | ⟨h1, h3⟩
  · refine ⟨l.set p (x, tv l p x + 1), tb_put_set (up_pair hu) h1 h2, ?_, by rw [List.length_set]; omega, fun r hr hmem => ?_⟩
    · have := up_pair (up_set (v := tv l p x + 1) hu h1)
      rw [h2] at this
      exact this
    · have hup : Up (l.set p (x, tv l p x + 1)) := by
        have := up_set (v := tv l p x + 1) hu h1
        rwa [h2] at this
      have e : r = l.set p (x, tv l p x + 1) := up_ext hr hup fun c => by
        rw [hmem c]
        refine ⟨fun h => h.1, fun hc => ⟨hc, ?_⟩⟩
        rcases List.mem_or_eq_of_mem_set hc with hc | rfl
        · have := mem_pos hrt hc; omega
        · have := (hrt.2 p h1).1; show 0 < tv l p x + 1; omega
      rw [e, h3]
      exact .inc p hrt hp h1 h2 (by omega)
  · have hnk := not_key hp h1 hu
    have hlen : (l.length : Int) < k := by omega
    refine ⟨l ++ [(x, tv l p x + 1)], tb_put_new hnk, ?_, by simp; omega, fun r hr hmem => ?_⟩
    · rw [List.map_append, List.nodup_append]
      exact ⟨up_pair hu, by simp, fun a ha b hb e => by
        simp at hb
        subst hb
        exact hnk (e ▸ ha)⟩
    · have e : r = l.take p ++ (x, 1) :: l.drop p := up_ext hr (up_ins hu hp h1) fun c => by
        rw [hmem c, h3]
        simp only [List.mem_append, List.mem_cons, List.not_mem_nil, or_false]
        have hsp : c ∈ l ↔ c ∈ l.take p ∨ c ∈ l.drop p := by
          rw [← List.mem_append, List.take_append_drop]
        constructor
        · rintro ⟨h | h, _⟩
          · rcases hsp.1 h with g | g
            · exact .inl g
            · exact .inr (.inr g)
          · exact .inr (.inl h)
        · rintro (h | h | h)
          · have hc := hsp.2 (.inl h); exact ⟨.inl hc, by have := mem_pos hrt hc; omega⟩
          · subst h; exact ⟨.inr rfl, Int.zero_lt_one⟩
          · have hc := hsp.2 (.inr h); exact ⟨.inl hc, by have := mem_pos hrt hc; omega⟩
      rw [e]
      exact .new p hrt hp h1 hlen
/-- The table while all are made less. -/
def decL (l : List (Int × Int)) (left : List Int) : List (Int × Int) := l.map fun c => (c.1, if c.1 ∈ left then c.2 else c.2 - 1)
theorem decL_ids {l : List (Int × Int)} {left : List Int} : (decL l left).map (·.1) = l.map (·.1) := by simp [decL]
theorem decL_len {l : List (Int × Int)} {left : List Int} : (decL l left).length = l.length := by simp [decL]
theorem decL_all {l : List (Int × Int)} : decL l (l.map (·.1)) = l := by
  unfold decL
  have : ∀ c ∈ l, (fun c : Int × Int => (c.1, if c.1 ∈ l.map (·.1) then c.2 else c.2 - 1)) c = c := fun c hc => by
    dsimp only
    rw [if_pos (List.mem_map.2 ⟨c, hc, rfl⟩)]
  exact (List.map_congr_left this).trans (List.map_id' _)
theorem decL_k {l : List (Int × Int)} {left : List Int} {j : Nat} (hj : j < l.length) : k1 (decL l left) j = k1 l j ∧ k2 (decL l left) j = if k1 l j ∈ left then k2 l j else k2 l j - 1 := by
  unfold decL k1 k2
  rw [getD_lt (by simpa using hj), List.getElem_map, getD_lt hj]
  exact ⟨rfl, rfl⟩
theorem decL_step {l : List (Int × Int)} {left : List Int} {q : Int} {j : Nat} (hn : (l.map (·.1)).Nodup) (hj : j < l.length) (hq : k1 l j = q) : (decL l left).set j (q, k2 l j - 1) = decL l (left.filter (· != q)) := by
  apply List.ext_getElem
  · rw [List.length_set, decL_len, decL_len]
  · intro i h1 h2
    rw [List.length_set, decL_len] at h1
    rw [List.getElem_set]
    by_cases e : j = i
    · subst e
      rw [if_pos rfl, ← k_eq (by rw [decL_len]; exact hj), (decL_k hj).1, (decL_k hj).2, if_neg (by rw [hq]; simp), hq]
    · have hne : k1 l i ≠ q := fun e2 => e (dst_of hn j i hj h1 (by omega))
      rw [if_neg e, ← k_eq (by rw [decL_len]; exact h1), ← k_eq (by rw [decL_len]; exact h1), (decL_k h1).1, (decL_k h1).2, (decL_k h1).1, (decL_k h1).2]
      have : k1 l i ∈ left ↔ k1 l i ∈ left.filter (· != q) := by rw [List.mem_filter]; simp [hne]
      simp only [this]
theorem wadd_less {k x : Int} {l : List (Int × Int)} {p : Nat} (hrt : Rt k l) (hp : LB l x p) (h : ¬ 1 ≤ tv l p x) (h2 : ¬ (l.length : Int) < k) : ∀ r, Up r → (∀ c, c ∈ r ↔ c ∈ decL l [] ∧ 0 < c.2) → AddR k l x r 0 := fun r hr hmem => by
  have hx : p = l.length ∨ k1 l p ≠ x := by
    rcases tv_cases hp with ⟨h1, h3, h4⟩ | h1
    · have := (hrt.2 p h1).1; omega
    · exact h1.1
  have hupl : Up (lessF l 1) := by
    have hu := hrt.up
    clear hmem hr hx h2 h hp hrt
    induction l with
    | nil => intro a b _ hb; simp [lessF] at hb
    | cons a l ih =>
      obtain ⟨g1, g2⟩ := up_tail hu
      have ih := ih g1
      by_cases e : 1 < a.2
      · have : lessF (a :: l) 1 = (a.1, a.2 - 1) :: lessF l 1 := by simp [lessF, e]
        rw [this]
        intro i j hij hj
        cases j with
        | zero => omega
        | succ j =>
          have hj' : j < (lessF l 1).length := by simpa using hj
          cases i with
          | zero =>
            have hm := mem_k hj'
            obtain ⟨d, hd, hde⟩ := List.mem_map.1 hm
            have h3 := g2 d (List.mem_filter.1 hd).1
            have h4 : d.1 = k1 (lessF l 1) j := by have := congrArg Prod.fst hde; exact this
            have h5 : k1 ((a.1, a.2 - 1) :: lessF l 1) (j + 1) = k1 (lessF l 1) j := by simp [k1]
            rw [h5]
            show a.1 < _
            omega
          | succ i =>
            have := ih i j (by omega) hj'
            simpa [k1] using this
      · have : lessF (a :: l) 1 = lessF l 1 := by simp [lessF, e]
        rw [this]
        exact ih
  have e : r = lessF l 1 := up_ext hr hupl fun c => by
    rw [hmem c]
    unfold decL lessF
    rw [List.mem_map, List.mem_map]
    constructor
    · rintro ⟨⟨d, hd, rfl⟩, h0⟩
      simp at h0
      exact ⟨d, List.mem_filter.2 ⟨hd, by simp; omega⟩, by simp⟩
    · rintro ⟨d, hd, rfl⟩
      obtain ⟨hd1, hd2⟩ := List.mem_filter.1 hd
      simp at hd2
      exact ⟨⟨d, hd1, by simp⟩, by show 0 < d.2 - 1; omega⟩
  rw [e]
  exact .less p hrt hp hx h2
end Go.Proofs.Ytpknjfeiiaopgaa.Heavy
