/- Cutting a slice that is only read. -/
import Derived.Test.YtdfjeoifeladfaaQV
import Derived.BigQuiet
import Derived.Deep.QuietTactic
namespace Go.Proofs.Ytdfjeoifeladfaa
open Go.RowKit Go.Proofs.Ytdfjeoifeladfaa.Big

theorem Rd.cut {w : World} {A : Option Addr} {xs : List Value} {n c size a b : Nat} (h : Rd w A xs) (hl : xs.length = n * size) (hc : n ≤ c) (h1 : a ≤ b) (h2 : b ≤ n) :
    ∃ A' c', sliced A a b c size = .slice A' (b - a) c' ∧ b - a ≤ c' ∧ Rd w A' ((xs.drop (a * size)).take ((b - a) * size)) := by
  by_cases hca : c = a
  · refine ⟨A, c - a, by simp [sliced, hca], by omega, .inl ?_⟩
    rw [show b - a = 0 by omega]; simp
  · refine ⟨A.map (·.add (a * size)), c - a, by simp [sliced, hca], by omega, ?_⟩
    rcases h with h | ⟨g, off, rfl, hcell⟩
    · exact .inl (by simp [h])
    · refine .inr ⟨g, off + a * size, by simp [Addr.add_lit], fun j u hu => ?_⟩
      rw [List.getElem?_take] at hu
      split at hu
      · rw [List.getElem?_drop] at hu
        have := hcell _ u hu
        rwa [← Nat.add_assoc] at this
      · cases hu

section
variable {P : Program} {w : World} {ops : Array Oper} {rest : List Oper} {a : Act} {Q : Exit → Act → World → Prop} {d : Option Tmp} {tt t : TypeId} {x lo hi : Operand} {pos : String} {af : Array Edge}

/-- s[l:h], s only read. -/
theorem wpList_cutRLH
    (h : ∃ (e : TypeId) (size n c l m : Nat) (xs : List Value) (A : Option Addr) (k k' : IntKind), P.underlying t = some (.slice e) ∧ (P.info? e).map (·.size) = some size ∧ a.eval x = .slice A n c ∧ a.eval lo = .int k l ∧ a.eval hi = .int k' m ∧ Rd w A xs ∧ xs.length = n * size ∧ n ≤ c ∧ l ≤ m ∧ m ≤ n ∧
      ∀ A' c', m - l ≤ c' → Rd w A' ((xs.drop (l * size)).take ((m - l) * size)) → wpList P ops Q rest (a.put d (.slice A' (m - l) c')) w) :
    wpList P ops Q (⟨d, .slice t x (some lo) (some hi) none, tt, pos, af, none⟩ :: rest) a w := by
  obtain ⟨e, size, n, c, l, m, xs, A, k, k', ht, hi2, hx, hlo, hhi, hr, hlen, hc, h1, h2, hK⟩ := h
  obtain ⟨i, hi3, rfl⟩ := info_size hi2
  have hE := elem_of ht
  have ht' : P.underlying t = some (.slice (P.elem t)) := by rw [hE]; exact ht
  obtain ⟨A', c', he, hc', hrd⟩ := hr.cut hlen hc h1 h2
  have hr : (Instr.sliceAt t (.slice A n c) (some (.int k l)) (some (.int k' m)) none).run P w = .ok (.slice A' (m - l) c') w := by
    rw [run_sliceAt_slice w t _ _ _ _ ht', run_slice_lh w t A n c ht' k k' (l : Int) (m : Int) (by omega) (by omega) (by omega), hE]
    simp [sizeOf, typeInfo, hi3, Result.andThen, he]
  refine wpList_plain rfl fun K hK' => ?_
  unfold Oper.wp execOp
  simp only [Option.map_some, Option.map_none, hx, hlo, hhi, Sem.run_bind, Sem.run_pure, Sem.run_map, hr, Result.andThen_ok]
  exact hK' _ _ (hK _ _ hc' hrd)

/-- s[:h], s only read. -/
theorem wpList_cutRH
    (h : ∃ (e : TypeId) (size n c m : Nat) (xs : List Value) (A : Option Addr) (k' : IntKind), P.underlying t = some (.slice e) ∧ (P.info? e).map (·.size) = some size ∧ a.eval x = .slice A n c ∧ a.eval hi = .int k' m ∧ Rd w A xs ∧ xs.length = n * size ∧ n ≤ c ∧ m ≤ n ∧
      ∀ A' c', m ≤ c' → Rd w A' (xs.take (m * size)) → wpList P ops Q rest (a.put d (.slice A' m c')) w) :
    wpList P ops Q (⟨d, .slice t x none (some hi) none, tt, pos, af, none⟩ :: rest) a w := by
  obtain ⟨e, size, n, c, m, xs, A, k', ht, hi2, hx, hhi, hr, hlen, hc, h2, hK⟩ := h
  obtain ⟨i, hi3, rfl⟩ := info_size hi2
  have hE := elem_of ht
  have ht' : P.underlying t = some (.slice (P.elem t)) := by rw [hE]; exact ht
  obtain ⟨A', c', he, hc', hrd⟩ := hr.cut hlen hc (Nat.zero_le m) h2
  have hr : (Instr.sliceAt t (.slice A n c) none (some (.int k' m)) none).run P w = .ok (.slice A' m c') w := by
    rw [run_sliceAt_slice w t _ _ _ _ ht', run_slice_h w t A n c ht' k' (m : Int) (by omega) (by omega), hE]
    simp [sizeOf, typeInfo, hi3, Result.andThen, he]
  refine wpList_plain rfl fun K hK' => ?_
  unfold Oper.wp execOp
  simp only [Option.map_some, Option.map_none, hx, hhi, Sem.run_bind, Sem.run_pure, Sem.run_map, hr, Result.andThen_ok]
  exact hK' _ _ (hK _ _ hc' (by simpa using hrd))

/-- s[:h], s only read: the very address. -/
theorem wpList_cutRH0
    (h : ∃ (e : TypeId) (size n c m : Nat) (A : Option Addr) (k' : IntKind), P.underlying t = some (.slice e) ∧ (P.info? e).map (·.size) = some size ∧ a.eval x = .slice A n c ∧ a.eval hi = .int k' m ∧ m ≤ c ∧
      wpList P ops Q rest (a.put d (.slice A m c)) w) :
    wpList P ops Q (⟨d, .slice t x none (some hi) none, tt, pos, af, none⟩ :: rest) a w := by
  obtain ⟨e, size, n, c, m, A, k', ht, hi2, hx, hhi, h2, hK⟩ := h
  obtain ⟨i, hi3, rfl⟩ := info_size hi2
  have hE := elem_of ht
  have ht' : P.underlying t = some (.slice (P.elem t)) := by rw [hE]; exact ht
  have hr : (Instr.sliceAt t (.slice A n c) none (some (.int k' m)) none).run P w = .ok (.slice A m c) w := by
    rw [run_sliceAt_slice w t _ _ _ _ ht', run_slice_h w t A n c ht' k' (m : Int) (by omega) (by omega), hE]
    simp only [sizeOf, typeInfo, hi3, Sem.run_bind, Sem.run_pure, Sem.run_map, Result.andThen_ok, sliced, Int.toNat_natCast, Nat.zero_mul, Nat.sub_zero]
    cases A with
    | none => simp [hi3]
    | some p => simp [Addr.add, hi3]
  refine wpList_plain rfl fun K hK' => ?_
  unfold Oper.wp execOp
  simp only [Option.map_some, Option.map_none, hx, hhi, Sem.run_bind, Sem.run_pure, Sem.run_map, hr, Result.andThen_ok]
  exact hK' _ _ hK

theorem RdI.take {k : IntKind} {w : World} {A : Option Addr} {zs : List Int} (h : RdI k w A zs) (m : Nat) : RdI k w A (zs.take m) := by
  rcases h with h | ⟨b, off, hA, hc⟩
  · left
    rw [List.map_eq_nil_iff] at h
    simp [h]
  · refine .inr ⟨b, off, hA, fun j u hu => hc j u ?_⟩
    rw [List.map_take, List.getElem?_take] at hu
    split at hu
    · exact hu
    · cases hu

/-- s[l:], s only read. -/
theorem wpList_cutRL
    (h : ∃ (e : TypeId) (size n c l : Nat) (xs : List Value) (A : Option Addr) (k : IntKind), P.underlying t = some (.slice e) ∧ (P.info? e).map (·.size) = some size ∧ a.eval x = .slice A n c ∧ a.eval lo = .int k l ∧ Rd w A xs ∧ xs.length = n * size ∧ n ≤ c ∧ l ≤ n ∧
      ∀ A' c', n - l ≤ c' → Rd w A' (xs.drop (l * size)) → wpList P ops Q rest (a.put d (.slice A' (n - l) c')) w) :
    wpList P ops Q (⟨d, .slice t x (some lo) none none, tt, pos, af, none⟩ :: rest) a w := by
  obtain ⟨e, size, n, c, l, xs, A, k, ht, hi2, hx, hlo, hr, hlen, hc, h2, hK⟩ := h
  obtain ⟨i, hi3, rfl⟩ := info_size hi2
  have hE := elem_of ht
  have ht' : P.underlying t = some (.slice (P.elem t)) := by rw [hE]; exact ht
  obtain ⟨A', c', he, hc', hrd⟩ := hr.cut hlen hc h2 (Nat.le_refl n)
  rw [List.take_of_length_le (by rw [List.length_drop, hlen, ← Nat.sub_mul]; exact Nat.le_refl _)] at hrd
  have hr : (Instr.sliceAt t (.slice A n c) (some (.int k l)) none none).run P w = .ok (.slice A' (n - l) c') w := by
    rw [run_sliceAt_slice w t _ _ _ _ ht', run_slice_l w t A n c ht' k (l : Int) (by omega) (by omega), hE]
    simp [sizeOf, typeInfo, hi3, Result.andThen, he]
  refine wpList_plain rfl fun K hK' => ?_
  unfold Oper.wp execOp
  simp only [Option.map_some, Option.map_none, hx, hlo, Sem.run_bind, Sem.run_pure, Sem.run_map, hr, Result.andThen_ok]
  exact hK' _ _ (hK _ _ hc' hrd)

/-- s[l:h] in a region that draws its order and only reads. -/
theorem wpQuiet_cutLH {P : Program} {ops : Array Oper} {C : World → Prop} {Q : Act → Prop} {a : Act} {rest : List Oper} {d : Option Tmp} {tt t : TypeId} {x lo hi : Operand} {pos : String} {af : Array Edge}
    (h : ∃ (e : TypeId) (size n c l m : Nat) (A A' : Option Addr) (k k' : IntKind) (c' : Nat), P.underlying t = some (.slice e) ∧ (P.info? e).map (·.size) = some size ∧ a.eval x = .slice A n c ∧ a.eval lo = .int k l ∧ a.eval hi = .int k' m ∧ l ≤ m ∧ m ≤ c ∧ sliced A l m c size = .slice A' (m - l) c' ∧
      wpQuiet P ops C Q rest (a.put d (.slice A' (m - l) c'))) :
    wpQuiet P ops C Q (⟨d, .slice t x (some lo) (some hi) none, tt, pos, af, none⟩ :: rest) a := by
  obtain ⟨e, size, n, c, l, m, A, A', k, k', c', ht, hi2, hx, hlo, hhi, h1, h2, he, hK⟩ := h
  obtain ⟨i, hi3, rfl⟩ := info_size hi2
  have hE := elem_of ht
  have ht' : P.underlying t = some (.slice (P.elem t)) := by rw [hE]; exact ht
  have hr : ∀ w, (Instr.sliceAt t (.slice A n c) (some (.int k l)) (some (.int k' m)) none).run P w = .ok (.slice A' (m - l) c') w := fun w => by
    rw [run_sliceAt_slice w t _ _ _ _ ht', run_slice_lh w t A n c ht' k k' (l : Int) (m : Int) (by omega) (by omega) (by omega), hE]
    simp [sizeOf, typeInfo, hi3, Result.andThen, he]
  refine wpQuiet_step fun K hK' => ?_
  have hw : Region.wanted (⟨d, .slice t x (some lo) (some hi) none, tt, pos, af, none⟩ : Oper) (yielded ops a.tmps) = true := rfl
  rw [if_pos hw]
  refine ⟨.slice A' (m - l) c', fun w hw => ?_, hK' _ hK⟩
  unfold Oper.quietAt execOp
  simp only [Option.map_some, Option.map_none, hx, hlo, hhi, Sem.run_bind, Sem.run_pure, Sem.run_map, hr, Result.andThen_ok]
  exact ⟨rfl, rfl⟩
end
end Go.Proofs.Ytdfjeoifeladfaa
