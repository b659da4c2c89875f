/- The counts of two, plain. -/
import Derived.Test.YtpknjfeiiaopgaaHvN
namespace Go.Proofs.Ytpknjfeiiaopgaa.Heavy
open Go.RowKit Go.Proofs.Ytpknjfeiiaopgaa.E

def addT (T : List (Int × Int)) (c : Int × Int) : List (Int × Int) :=
  if c.1 ∈ T.map (·.1) then T.map (fun d => if d.1 = c.1 then (d.1, d.2 + c.2) else d) else T ++ [c]
def accT (l : List (Int × Int)) (i : Nat) : List (Int × Int) := (l.take i).foldl addT []
theorem accT_zero {l : List (Int × Int)} : accT l 0 = [] := by simp [accT]
theorem accT_succ {l : List (Int × Int)} {i : Nat} (h : i < l.length) : accT l (i + 1) = addT (accT l i) (k1 l i, k2 l i) := by
  unfold accT
  rw [take_succ_k h, List.foldl_append]
  rfl
structure TOk (T : List (Int × Int)) (b : Int) : Prop where
  nd : (T.map (·.1)).Nodup
  bd : ∀ d ∈ T, 1 ≤ d.2 ∧ d.2 ≤ b
theorem keys_add {T : List (Int × Int)} {c : Int × Int} : (addT T c).map (·.1) = if c.1 ∈ T.map (·.1) then T.map (·.1) else T.map (·.1) ++ [c.1] := by
  unfold addT
  split
  · rw [List.map_map]
    refine List.map_congr_left fun d _ => ?_
    simp only [Function.comp]
    split <;> rfl
  · simp
theorem len_add {T : List (Int × Int)} {c : Int × Int} : (addT T c).length ≤ T.length + 1 := by
  unfold addT
  split <;> simp
theorem tok_nil {b : Int} : TOk [] b := ⟨by simp, fun d h => by simp at h⟩
theorem tok_add {T : List (Int × Int)} {b m : Int} {c : Int × Int} (h : TOk T b) (hb : 0 ≤ b) (h1 : 1 ≤ c.2) (h2 : c.2 ≤ m) : TOk (addT T c) (b + m) := by
  refine ⟨?_, fun d hd => ?_⟩
  · rw [keys_add]
    split
    · exact h.nd
    · rename_i hn
      rw [List.nodup_append]
      exact ⟨h.nd, by simp, fun x hx y hy e => by
        simp at hy
        subst hy
        exact hn (e ▸ hx)⟩
  · unfold addT at hd
    split at hd
    · obtain ⟨e, he, rfl⟩ := List.mem_map.1 hd
      have := h.bd e he
      split
      · dsimp only; omega
      · omega
    · rcases List.mem_append.1 hd with hd | hd
      · have := h.bd d hd; omega
      · simp at hd
        subst hd
        omega
theorem put_add {T : List (Int × Int)} {b x n : Int} (h : TOk T b) (hb : 0 ≤ b) : ∃ v, (mget (tb T) x).getD (.int .i64 0) = .int .i64 v ∧ (0 ≤ v ∧ v ≤ b) ∧ mput (tb T) x (.int .i64 (v + n)) = tb (addT T (x, n)) := by
  by_cases hx : x ∈ T.map (·.1)
  · obtain ⟨d, hd, rfl⟩ := List.mem_map.1 hx
    obtain ⟨p, hp, h1, h2⟩ := k_of_mem hd
    have hbd := h.bd d hd
    refine ⟨d.2, by rw [tb_get h.nd hd]; rfl, by omega, ?_⟩
    rw [tb_put_set h.nd hp h1]
    congr 1
    unfold addT
    rw [if_pos hx]
    have hds := dst_of h.nd
    apply List.ext_getElem
    · simp
    · intro j h3 h4
      rw [List.length_set] at h3
      rw [List.getElem_set, List.getElem_map]
      have ek : k1 T j = T[j].1 := congrArg Prod.fst (k_eq h3)
      by_cases e : p = j
      · subst e
        have ek2 : k2 T p = T[p].2 := congrArg Prod.snd (k_eq h3)
        rw [if_pos rfl, if_pos (by rw [← ek]; exact h1), ← ek, h1, ← ek2, h2]
      · rw [if_neg e, if_neg (fun e2 => e (hds p j hp h3 (by rw [h1, ek, e2])))]
  · exact ⟨0, by rw [tb_none hx]; rfl, by omega, by rw [tb_put_new hx, Int.zero_add]; unfold addT; rw [if_neg hx]⟩
/-- How many are above, how many are the same. -/
def ctG (T : List (Int × Int)) (x : Int) : Nat := T.countP fun d => decide (x < d.2)
def ctS (T : List (Int × Int)) (x : Int) : Nat := T.countP fun d => decide (d.2 = x)
def Cut2 (k : Int) (T : List (Int × Int)) (x : Int) : Prop := (∃ d ∈ T, d.2 = x) ∧ (ctG T x : Int) ≤ k ∧ k < (ctG T x + ctS T x : Int)
def CutR (k : Int) (T : List (Int × Int)) (x : Int) : Prop := (x = 0 ∧ ∀ d ∈ T, ¬ Cut2 k T d.2) ∨ Cut2 k T x
theorem countP_add {α : Type} {p q r : α → Bool} : ∀ {l : List α}, (∀ a ∈ l, r a = (p a || q a)) → (∀ a ∈ l, (p a && q a) = false) → l.countP r = l.countP p + l.countP q
  | [], _, _ => by simp
  | a :: l, h1, h2 => by
    have ih := countP_add (l := l) (fun x hx => h1 x (List.mem_cons_of_mem _ hx)) fun x hx => h2 x (List.mem_cons_of_mem _ hx)
    have h3 := h1 a (List.mem_cons_self ..)
    have h4 := h2 a (List.mem_cons_self ..)
    rw [List.countP_cons, List.countP_cons, List.countP_cons, ih, h3]
    cases hp : p a <;> cases hq : q a <;> simp [hp, hq] at h4 ⊢ <;> omega
theorem ct_sum {T : List (Int × Int)} {x : Int} : T.countP (fun d => decide (x ≤ d.2)) = ctG T x + ctS T x := countP_add (fun a _ => by
    rw [Bool.eq_iff_iff]; simp; omega) fun a _ => by
    rw [Bool.eq_false_iff]; simp; omega
theorem ct_mono {T : List (Int × Int)} {x y : Int} (h : x < y) : ctG T y + ctS T y ≤ ctG T x := by
  rw [← ct_sum]
  exact List.countP_mono_left fun a _ ha => by simp at ha ⊢; omega
theorem Cut2.uniq {k : Int} {T : List (Int × Int)} {x y : Int} (h : Cut2 k T x) (h' : Cut2 k T y) : x = y := by
  obtain ⟨_, h1, h2⟩ := h
  obtain ⟨_, h3, h4⟩ := h'
  rcases Int.lt_trichotomy x y with g | g | g
  · have := ct_mono (T := T) g; omega
  · exact g
  · have := ct_mono (T := T) g; omega
theorem CutR.uniq {k : Int} {T : List (Int × Int)} {x y : Int} (h : CutR k T x) (h' : CutR k T y) : x = y := by
  rcases h with ⟨rfl, h1⟩ | h <;> rcases h' with ⟨rfl, h2⟩ | h'
  · rfl
  · obtain ⟨d, hd, rfl⟩ := h'.1
    exact absurd h' (h1 d hd)
  · obtain ⟨d, hd, rfl⟩ := h.1
    exact absurd h (h2 d hd)
  · exact h.uniq h'
theorem cut_few {k : Int} {T : List (Int × Int)} (h : (T.length : Int) ≤ k) : CutR k T 0 := .inl ⟨rfl, fun d _ hc => by
  have h1 : T.countP (fun e => decide (d.2 ≤ e.2)) ≤ T.length := List.countP_le_length
  rw [ct_sum] at h1
  have := hc.2.2
  omega⟩
theorem ct_perm {T o : List (Int × Int)} (h : o.Perm T) {x : Int} : ctG o x = ctG T x ∧ ctS o x = ctS T x := ⟨h.countP_eq _, h.countP_eq _⟩
theorem cut_sorted {k : Nat} {T : List (Int × Int)} {ss : List Int} (hp : ss.Perm (T.map (·.2))) (hs : ss.Pairwise (· ≤ ·)) (hk : k < ss.length) : Cut2 k T (ss.getD (ss.length - 1 - k) 0) := by
  obtain ⟨j, hj⟩ : ∃ j, ss.length - 1 - k = j := ⟨_, rfl⟩
  have hjl : j < ss.length := by omega
  rw [hj]
  have hx : ss.getD j 0 = ss[j] := by simp [hjl]
  rw [hx]
  have hpi := List.pairwise_iff_getElem.1 hs
  have e1 : ctG T ss[j] = ss.countP fun y => decide (ss[j] < y) := by
    rw [hp.countP_eq, List.countP_map]; rfl
  have e2 : ctG T ss[j] + ctS T ss[j] = ss.countP fun y => decide (ss[j] ≤ y) := by
    rw [← ct_sum, hp.countP_eq, List.countP_map]; rfl
  refine ⟨?_, ?_, ?_⟩
  · obtain ⟨d, hd, he⟩ := List.mem_map.1 (hp.mem_iff.1 (List.getElem_mem hjl))
    exact ⟨d, hd, he⟩
  · have h0 : (ss.take (j + 1)).countP (fun y => decide (ss[j] < y)) = 0 := List.countP_eq_zero.2 fun y hy => by
      obtain ⟨i, hi, he⟩ := List.mem_iff_getElem.1 hy
      rw [List.length_take] at hi
      rw [List.getElem_take] at he
      subst he
      simp only [decide_eq_true_eq, Int.not_lt]
      by_cases e : i = j
      · subst e; exact Int.le_refl _
      · exact hpi i j (by omega) hjl (by omega)
    have h1 : (ss.drop (j + 1)).countP (fun y => decide (ss[j] < y)) ≤ (ss.drop (j + 1)).length := List.countP_le_length
    rw [List.length_drop] at h1
    have h2 : ss.countP (fun y => decide (ss[j] < y)) = (ss.take (j + 1)).countP (fun y => decide (ss[j] < y)) + (ss.drop (j + 1)).countP (fun y => decide (ss[j] < y)) := by
      rw [← List.countP_append, List.take_append_drop]
    omega
  · have h0 : (ss.drop j).countP (fun y => decide (ss[j] ≤ y)) = (ss.drop j).length := List.countP_eq_length.2 fun y hy => by
      obtain ⟨i, hi, he⟩ := List.mem_iff_getElem.1 hy
      rw [List.length_drop] at hi
      rw [List.getElem_drop] at he
      subst he
      simp only [decide_eq_true_eq]
      by_cases e : i = 0
      · subst e; exact Int.le_refl _
      · exact hpi j (j + i) hjl (by omega) (by omega)
    rw [List.length_drop] at h0
    have h2 : ss.countP (fun y => decide (ss[j] ≤ y)) = (ss.take j).countP (fun y => decide (ss[j] ≤ y)) + (ss.drop j).countP (fun y => decide (ss[j] ≤ y)) := by
      rw [← List.countP_append, List.take_append_drop]
    omega
theorem nd_of {o : List (Int × Int)} (h : (o.map (·.1)).Nodup) : o.Nodup := List.Pairwise.of_map (S := fun x y : Int => x ≠ y) (fun c : Int × Int => c.1) (fun a b hne e => hne (by rw [e])) h
theorem perm_of_mem {o T : List (Int × Int)} (h1 : (o.map (·.1)).Nodup) (h2 : (T.map (·.1)).Nodup) (h : ∀ c, c ∈ o ↔ c ∈ T) : o.Perm T :=
  (List.perm_ext_iff_of_nodup (nd_of h1) (nd_of h2)).2 h
def sumT (a b : List (Int × Int)) : List (Int × Int) := (a ++ b).foldl addT []
inductive JR (k : Int) (a b : List (Int × Int)) : List (Int × Int) → Int → Prop
  | form (h : ¬ (Rt k a ∧ Rt k b)) : JR k a b [] 1
  | full (h : Rt k a ∧ Rt k b) (hx : ∃ d ∈ sumT a b, 1099511627776 < d.2) : JR k a b [] 4
  | ok (x : Int) (r : List (Int × Int)) (h : Rt k a ∧ Rt k b) (hx : ∀ d ∈ sumT a b, d.2 ≤ 1099511627776) (hc : CutR k (sumT a b) x) (hu : Up r) (hm : ∀ c, c ∈ r ↔ ∃ d ∈ sumT a b, x < d.2 ∧ c = (d.1, d.2 - x)) : JR k a b r 0
theorem JR.uniq {k : Int} {a b r s : List (Int × Int)} {e f : Int} (h : JR k a b r e) (h' : JR k a b s f) : r = s ∧ e = f := by
  cases h with
  | form h =>
    cases h' with
    | form => exact ⟨rfl, rfl⟩
    | full g => exact absurd g h
    | ok x r g => exact absurd g h
  | full h hx =>
    obtain ⟨d, hd, hx⟩ := hx
    cases h' with
    | form g => exact absurd h g
    | full => exact ⟨rfl, rfl⟩
    | ok x r g gx => have := gx d hd; omega
  | ok x r h hx hc hu hm =>
    cases h' with
    | form g => exact absurd h g
    | full g gx => obtain ⟨d, hd, gx⟩ := gx; have := hx d hd; omega
    | ok y s g gx gc gu gm =>
      obtain rfl := hc.uniq gc
      exact ⟨up_ext hu gu fun c => (hm c).trans (gm c).symm, rfl⟩
theorem sumT_acc {a b : List (Int × Int)} {i : Nat} (h : (a ++ b).length ≤ i) : accT (a ++ b) i = sumT a b := by
  unfold accT sumT
  rw [List.take_of_length_le h]
theorem acc_tok {l : List (Int × Int)} (h : ∀ j, j < l.length → 1 ≤ k2 l j ∧ k2 l j ≤ 1099511627776) : ∀ i, i ≤ l.length → TOk (accT l i) (i * 1099511627776) ∧ (accT l i).length ≤ i
  | 0, _ => by rw [accT_zero]; exact ⟨tok_nil, by simp⟩
  | i + 1, hi => by
    obtain ⟨h1, h2⟩ := acc_tok h i (by omega)
    have := h i (by omega)
    rw [accT_succ (by omega)]
    refine ⟨?_, by have := len_add (T := accT l i) (c := (k1 l i, k2 l i)); omega⟩
    rw [Int.natCast_succ, Int.add_mul, Int.one_mul]
    exact tok_add h1 (by omega) this.1 this.2
theorem rt_cat {k : Int} {a b : List (Int × Int)} (h : Rt k a ∧ Rt k b) : (∀ j, j < (a ++ b).length → 1 ≤ k2 (a ++ b) j ∧ k2 (a ++ b) j ≤ 1099511627776) ∧ (a ++ b).length ≤ 800 := by
  refine ⟨fun j hj => ?_, by have h1 := h.1.1; have h2 := h.2.1; rw [List.length_append]; omega⟩
  have hm := mem_k hj
  have key : ∀ {l : List (Int × Int)}, Rt k l → ∀ {c : Int × Int}, c ∈ l → 1 ≤ c.2 ∧ c.2 ≤ 1099511627776 := fun {l} hr {c} hc => by
    obtain ⟨q, hq, _, h2⟩ := k_of_mem hc
    have := hr.2 q hq
    rw [← h2]
    exact ⟨this.1, this.2.1⟩
  rcases List.mem_append.1 hm with hm | hm
  · exact key h.1 hm
  · exact key h.2 hm
theorem sum_tok {k : Int} {a b : List (Int × Int)} (h : Rt k a ∧ Rt k b) : TOk (sumT a b) 900000000000000 ∧ (sumT a b).length ≤ 800 := by
  obtain ⟨h1, h2⟩ := rt_cat h
  obtain ⟨h3, h4⟩ := acc_tok h1 _ (Nat.le_refl _)
  rw [sumT_acc (Nat.le_refl _)] at h3 h4
  exact ⟨⟨h3.nd, fun d hd => by have := h3.bd d hd; omega⟩, by omega⟩
end Go.Proofs.Ytpknjfeiiaopgaa.Heavy
