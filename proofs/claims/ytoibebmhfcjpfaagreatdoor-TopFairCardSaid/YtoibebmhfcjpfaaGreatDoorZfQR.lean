/- A slice of the call's own that may begin anywhere in its array: cutting it, appending to it. -/
import Derived.Test.YtoibebmhfcjpfaaGreatDoorZfMemT
import Derived.Laws.AppendOwn
import Derived.BigQuiet
import Derived.Deep.QuietTactic
namespace Go.Proofs.YtoibebmhfcjpfaaGreatDoor
open Go.RowKit Go.Proofs.YtoibebmhfcjpfaaGreatDoor.Big

/-- v is nil, or n elements of `size` cells each, xs, in an array of the call's own. -/
def OwnV (w : World) (base : Nat) (e : TypeId) (size : Nat) (v : Value) (n : Nat) (xs : List Value) : Prop :=
  xs.length = n * size ∧
  ((v = .slice none 0 0 ∧ n = 0) ∨
   ∃ g off cap cur, v = .slice (some ⟨g, off, none⟩) n cap ∧ base ≤ g ∧ w.heap[g]? = some (.cells cur e (0, 0)) ∧ n ≤ cap ∧ cap ≤ maxLen ∧ off + cap * size ≤ cur.size ∧ (cur.toList.drop off).take (n * size) = xs)

section
variable {w w' : World} {base : Nat} {e : TypeId} {size : Nat} {v : Value} {n : Nat} {xs : List Value}

theorem OwnV.nil (w : World) (base : Nat) (e : TypeId) (size : Nat) : OwnV w base e size (.slice none 0 0) 0 [] := ⟨by simp, .inl ⟨rfl, rfl⟩⟩
theorem OwnV.of_own (h : w.ownsRow base e size v n xs) : OwnV w base e size v n xs := by
  refine ⟨h.1, ?_⟩
  rcases h.2 with h1 | ⟨g, cap, cur, h1, h2, h3, h4, h5, h6, h7⟩
  · exact .inl h1
  · exact .inr ⟨g, 0, cap, cur, h1, h2, h3, h4, h5, by omega, by simpa using h7⟩
theorem OwnV.mono {base' : Nat} (h : OwnV w base e size v n xs) (hb : base' ≤ base) : OwnV w base' e size v n xs := by
  refine ⟨h.1, ?_⟩
  rcases h.2 with h1 | ⟨g, off, cap, cur, h1, h2, h3⟩
  · exact .inl h1
  · exact .inr ⟨g, off, cap, cur, h1, Nat.le_trans hb h2, h3⟩
theorem OwnV.lt (h : OwnV w base e size v n xs) : ∀ k, v.ownBlock = some k → base ≤ k ∧ k < w.heap.size := by
  intro k hk
  rcases h.2 with ⟨rfl, _⟩ | ⟨g, off, cap, cur, rfl, hb, hg, _⟩
  · simp [Value.ownBlock] at hk
  · simp [Value.ownBlock] at hk
    subst hk
    exact ⟨hb, (Array.getElem?_eq_some_iff.1 hg).1⟩
theorem OwnV.kept {row : Option Nat} (h : OwnV w base e size v n xs) (hg : w.grownBy w' row) (hne : v.ownBlock = none ∨ v.ownBlock ≠ row) : OwnV w' base e size v n xs := by
  refine ⟨h.1, ?_⟩
  rcases h.2 with hn | ⟨g, off, cap, cur, rfl, hb, hgg, rest⟩
  · exact .inl hn
  · refine .inr ⟨g, off, cap, cur, rfl, hb, ?_, rest⟩
    rw [hg.block g (Array.getElem?_eq_some_iff.1 hgg).1 (by simpa [Value.ownBlock] using hne)]
    exact hgg
theorem OwnV.alloc (h : OwnV w base e size v n xs) (o : Obj) : OwnV (w.alloc o) base e size v n xs :=
  h.kept (World.grownBy_alloc w o none) (by cases hv : v.ownBlock <;> simp)
theorem OwnV.below (h : OwnV w base e size v n xs) (hb : Below w.heap.size w w') : OwnV w' base e size v n xs :=
  h.kept (row := none) ⟨hb.os, hb.tape, hb.output, hb.size, fun k hk _ => hb.block k hk⟩ (by cases hv : v.ownBlock <;> simp)
theorem OwnV.upd {b o m : Nat} (h : OwnV w base e size v n xs) (hu : Upd w w' b o m) (hne : ∀ g, v.ownBlock = some g → g ≠ b) : OwnV w' base e size v n xs :=
  h.kept (row := some b) ⟨hu.os, hu.tape, hu.output, hu.size, fun k hk hne => hu.block k hk (fun e => hne (by rw [e]))⟩ (by
    cases hv : v.ownBlock with
    | none => simp
    | some g => exact .inr (fun e => hne g hv (by simpa using e)))

theorem OwnV.grown {w0 : World} {B : Nat} (h : OwnV w base e size v n xs) (hb : Below B w0 w) (hg : w.grownBy w' v.ownBlock) (hB : B ≤ w.heap.size) (hBb : B ≤ base) : Below B w0 w' :=
  hb.grown hg hB (fun k hk => Nat.le_trans hBb (h.lt k hk).1)
/-- Another one's append leaves it. -/
theorem OwnV.apart {u : Value} (h : OwnV w base e size v n xs) (hg : w.grownBy w' u.ownBlock) (hne : ∀ g, v.ownBlock = some g → u.ownBlock ≠ some g) : OwnV w' base e size v n xs :=
  h.kept hg (by
    cases hv : v.ownBlock with
    | none => exact .inl rfl
    | some g => exact .inr (fun e => hne g hv e.symm))
/-- What it is, to be read. -/
theorem OwnV.form (h : OwnV w base e size v n xs) : ∃ (A : Option Addr) (c : Nat), v = .slice A n c ∧ n ≤ c ∧ Rd w A xs ∧ (∀ g o s, A = some ⟨g, o, s⟩ → base ≤ g ∧ g < w.heap.size) := by
  rcases h.2 with ⟨hv, hn⟩ | ⟨g, off, cap, cur, hv, hb, hh, hl, hm, hs, ht⟩
  · have : xs = [] := List.eq_nil_of_length_eq_zero (by rw [h.1, hn, Nat.zero_mul])
    subst this
    exact ⟨none, 0, by rw [hv, hn], by omega, .inl rfl, fun _ _ _ h => by cases h⟩
  · refine ⟨some ⟨g, off, none⟩, cap, hv, hl, .inr ⟨g, off, rfl, fun j u hu => ?_⟩, fun g' o s he => by cases he; exact ⟨hb, (Array.getElem?_eq_some_iff.1 hh).1⟩⟩
    rw [← ht, List.getElem?_take] at hu
    split at hu
    · rw [cell_of_row w g (off + j) cur e (0, 0) hh]
      rw [List.getElem?_drop] at hu
      simpa using hu
    · cases hu

theorem win_eq (l : List Value) (off a b s n : Nat) (h1 : a ≤ b) (h2 : b ≤ n) : (l.drop (off + a * s)).take ((b - a) * s) = (((l.drop off).take (n * s)).drop (a * s)).take ((b - a) * s) := by
  rw [List.drop_take, List.drop_drop, List.take_take, Nat.min_eq_left]
  rw [← Nat.sub_mul]
  exact Nat.mul_le_mul_right _ (by omega)

/-- Cut. -/
theorem OwnV.cut (h : OwnV w base e size v n xs) {a b : Nat} (h1 : a ≤ b) (h2 : b ≤ n) : ∃ A c, v = .slice A n c ∧ n ≤ c ∧ OwnV w base e size (sliced A a b c size) (b - a) ((xs.drop (a * size)).take ((b - a) * size)) := by
  have hlen : ((xs.drop (a * size)).take ((b - a) * size)).length = (b - a) * size := by
    rw [List.length_take, List.length_drop, h.1, ← Nat.sub_mul, Nat.min_eq_left]
    exact Nat.mul_le_mul_right _ (by omega)
  rcases h.2 with ⟨hv, hn⟩ | ⟨g, off, cap, cur, hv, hb, hh, hl, hm, hs, ht⟩
  · refine ⟨none, 0, by rw [hv, hn], by omega, hlen, .inl ⟨?_, by omega⟩⟩
    obtain rfl : a = 0 := by omega
    obtain rfl : b = 0 := by omega
    simp [sliced]
  · refine ⟨some ⟨g, off, none⟩, cap, hv, hl, hlen, .inr ?_⟩
    by_cases hc : cap = a
    · refine ⟨g, off, cap - a, cur, by simp [sliced, hc], hb, hh, by omega, by omega, by have : (cap - a) * size ≤ cap * size := Nat.mul_le_mul_right _ (by omega); omega, ?_⟩
      rw [show b - a = 0 by omega]; simp
    · refine ⟨g, off + a * size, cap - a, cur, by simp [sliced, hc, Addr.add_lit], hb, hh, by omega, by omega, ?_, ?_⟩
      · have : a * size + (cap - a) * size = cap * size := by rw [← Nat.add_mul]; congr 1; omega
        omega
      · rw [win_eq _ off a b size n h1 h2, ht]
end

section
variable {P : Program}

theorem run_append_roomV (w : World) (t ty e : TypeId) (i : TypeInfo) (ht : P.underlying t = some (.slice e)) (hi : P.info? e = some i)
    (g off sLen sCap : Nat) (cur : Array Value) (hg : w.heap[g]? = some (.cells cur e (0, 0)))
    (a : Addr) (m c : Nat) (news : List Value) (hl : news.length = m * i.size) (hnews : ∀ j u, news[j]? = some u → w.cell? (a.add j) = some u) (h1 : ∀ u ∈ news, u.oneCell' = true)
    (hroom : sLen + m ≤ sCap) (hfit : off + sLen * i.size + news.length ≤ cur.size) :
    (Builtin.append_ #[t, t] ty #[.slice (some ⟨g, off, none⟩) sLen sCap, .slice (some a) m c]).run P w =
      .ok (.slice (some ⟨g, off, none⟩) (sLen + m) sCap) (w.setRow g (cur.toList.take (off + sLen * i.size) ++ news ++ cur.toList.drop (off + sLen * i.size + news.length)).toArray) := by
  have hf := run_firstCells_some (P := P) w i.size m a m c news hl hnews
  have hst := run_storeCells_at P g (off + sLen * i.size) e news 0 cur w hg (by simpa using hfit) h1
  simp only [Nat.add_zero] at hst
  simp [Builtin.append_, run_underlying ht, sizeOf, typeInfo, hi, Builtin.lenOf, hroom, hf, Addr.add_lit, hst]

theorem run_append_ownV (w : World) (base : Nat) (t ty e : TypeId) (i : TypeInfo) (z : Value) (size bytes : Nat) (ht : P.underlying t = some (.slice e)) (hi : P.info? e = some i) (hz : i.zero = some z)
    (hsize : i.size = size) (hby : i.bytes = bytes) (hzs : z.cells.size = size) (hsz : 0 < size)
    (v : Value) (n : Nat) (xs : List Value) (hown : OwnV w base e size v n xs)
    (a : Addr) (m c : Nat) (news : List Value) (hl : news.length = m * size) (hnews : ∀ j u, news[j]? = some u → w.cell? (a.add j) = some u) (h1 : ∀ u ∈ news, u.oneCell' = true)
    (h63 : n + m ≤ maxLen) (hbytes : (n + m) * bytes ≤ 140737488355328) (hbase : base ≤ w.heap.size) :
    ∃ v' w', (Builtin.append_ #[t, t] ty #[v, .slice (some a) m c]).run P w = .ok v' w' ∧ OwnV w' base e size v' (n + m) (xs ++ news) ∧ w.grownBy w' v.ownBlock ∧ (∀ g, v'.ownBlock = some g → v.ownBlock = some g ∨ w.heap.size ≤ g) := by
  subst hsize
  subst hby
  have hlen : (xs ++ news).length = (n + m) * i.size := by rw [List.length_append, hown.1, hl, Nat.add_mul]
  rcases hown.2 with ⟨rfl, rfl⟩ | ⟨g, off, cap, cur, rfl, hbg, hg, hnc, hcm, hcs, htake⟩
  · have hx : xs = [] := List.eq_nil_of_length_eq_zero (by simpa using hown.1)
    subst hx
    obtain ⟨v', w', r1, r2, r3, _⟩ := run_append_own (P := P) w w.heap.size t ty e i z i.size i.bytes ht hi hz rfl rfl hzs hsz (.slice none 0 0) 0 [] (World.ownsRow_nil w w.heap.size e i.size) a m c news hl hnews h1 h63 hbytes (Nat.le_refl _)
    exact ⟨v', w', r1, (OwnV.of_own r2).mono hbase, r3, fun g hg => .inr (World.ownsRow.lt r2 g hg).1⟩
  · by_cases hroom : n + m ≤ cap
    · have hfit : off + n * i.size + news.length ≤ cur.size := by
        have : (n + m) * i.size ≤ cap * i.size := Nat.mul_le_mul_right _ hroom
        rw [hl]
        rw [Nat.add_mul] at this
        omega
      have hr := run_append_roomV (P := P) w t ty e i ht hi g off n cap cur hg a m c news hl hnews h1 hroom hfit
      refine ⟨_, _, hr, ⟨hlen, .inr ⟨g, off, cap, _, rfl, hbg, setRow_heap w g cur _ e _ hg, hroom, hcm, ?_, ?_⟩⟩, ⟨rfl, rfl, rfl, by simp, fun k _ hk => setRow_other w g k _ (fun e => hk (by simp [Value.ownBlock, e]))⟩, fun g' hg' => .inl (by simpa [Value.ownBlock] using hg')⟩
      · simp only [List.size_toArray, List.length_append, List.length_take, List.length_drop, Array.length_toList]
        omega
      · have e1 : (cur.toList.take (off + n * i.size) ++ news ++ cur.toList.drop (off + n * i.size + news.length)).drop off = xs ++ news ++ cur.toList.drop (off + n * i.size + news.length) := by
          rw [List.append_assoc, List.drop_append_of_le_length (by simp; omega), List.drop_take, Nat.add_sub_cancel_left, htake, List.append_assoc]
        simp only [e1, ← hlen]
        exact List.take_left
    · have holds : ∀ j u, xs[j]? = some u → w.cell? ((⟨g, off, none⟩ : Addr).add j) = some u := fun j u hu => by
        rw [Addr.add_lit, cell_of_row w g (off + j) cur e (0, 0) hg]
        rw [← htake, List.getElem?_take] at hu
        split at hu
        · rw [List.getElem?_drop] at hu
          simpa using hu
        · cases hu
      have hge := grownCap_ge w (n + m) cap e
      have hr := run_append_grow (P := P) w t ty e i z ht hi hz ⟨g, off, none⟩ n cap xs hown.1 holds a m c news hl hnews (by omega) (by simp only [maxLen] at h63; omega) (growslice_fits (by omega) hbytes)
      refine ⟨_, _, hr, ⟨hlen, .inr ⟨w.heap.size, 0, _, _, rfl, hbase, heap_alloc_new w.drew _, hge, grownCap_le_maxLen w (n + m) cap e h63, ?_, ?_⟩⟩, ⟨rfl, rfl, rfl, by simp, fun k hk _ => Go.heap_alloc_old _ _ hk⟩, fun g' hg' => .inr (by simp [Value.ownBlock] at hg'; omega)⟩
      · simp only [Array.size_append, List.size_toArray, size_zeroCells, hzs, hown.1, hl, ← Nat.add_mul, Nat.zero_add]
        exact Nat.mul_le_mul_right _ (by omega)
      · simp only [Array.toList_append, List.append_assoc, List.drop_zero]
        rw [← List.append_assoc, ← hlen]
        exact List.take_left

theorem elem_of {t e : TypeId} (ht : P.underlying t = some (.slice e)) : P.elem t = e := by simp [Program.elem, ht]

theorem info_size {e : TypeId} {s : Nat} (h : (P.info? e).map (·.size) = some s) : ∃ i, P.info? e = some i ∧ i.size = s := by
  rw [Option.map_eq_some_iff] at h
  obtain ⟨i, hi, he⟩ := h
  exact ⟨i, hi, he⟩

end
end Go.Proofs.YtoibebmhfcjpfaaGreatDoor

namespace Go.Proofs.YtoibebmhfcjpfaaGreatDoor
open Go.RowKit Go.Proofs.YtoibebmhfcjpfaaGreatDoor.Big

theorem Rd.cut {w : World} {A : Option Addr} {xs : List Value} {n c size a b : Nat} (h : Rd w A xs) (hl : xs.length = n * size) (hc : n ≤ c) (h1 : a ≤ b) (h2 : b ≤ n) :
    ∃ A' c', sliced A a b c size = .slice A' (b - a) c' ∧ b - a ≤ c' ∧ Rd w A' ((xs.drop (a * size)).take ((b - a) * size)) := by
  by_cases hca : c = a
  · refine ⟨A, c - a, by simp [sliced, hca], by omega, .inl ?_⟩
    rw [show b - a = 0 by omega]; simp
  · refine ⟨A.map (·.add (a * size)), c - a, by simp [sliced, hca], by omega, ?_⟩
    rcases h with h | ⟨g, off, rfl, hcell⟩
    · exact .inl (by simp [h])
    · refine .inr ⟨g, off + a * size, by simp [Addr.add_lit], fun j u hu => ?_⟩
      rw [List.getElem?_take] at hu
      split at hu
      · rw [List.getElem?_drop] at hu
        have := hcell _ u hu
        rwa [← Nat.add_assoc] at this
      · cases hu

section
variable {P : Program} {w : World} {ops : Array Oper} {rest : List Oper} {a : Act} {Q : Exit → Act → World → Prop} {d : Option Tmp} {tt t : TypeId} {x lo hi : Operand} {pos : String} {af : Array Edge}

/-- s[:h], s only read: the very address. -/
theorem wpList_cutRH0
    (h : ∃ (e : TypeId) (size n c m : Nat) (A : Option Addr) (k' : IntKind), P.underlying t = some (.slice e) ∧ (P.info? e).map (·.size) = some size ∧ a.eval x = .slice A n c ∧ a.eval hi = .int k' m ∧ m ≤ c ∧
      wpList P ops Q rest (a.put d (.slice A m c)) w) :
    wpList P ops Q (⟨d, .slice t x none (some hi) none, tt, pos, af, none⟩ :: rest) a w := by
  obtain ⟨e, size, n, c, m, A, k', ht, hi2, hx, hhi, h2, hK⟩ := h
  obtain ⟨i, hi3, rfl⟩ := info_size hi2
  have hE := elem_of ht
  have ht' : P.underlying t = some (.slice (P.elem t)) := by rw [hE]; exact ht
  have hr : (Instr.sliceAt t (.slice A n c) none (some (.int k' m)) none).run P w = .ok (.slice A m c) w := by
    rw [run_sliceAt_slice w t _ _ _ _ ht', run_slice_h w t A n c ht' k' (m : Int) (by omega) (by omega), hE]
    simp only [sizeOf, typeInfo, hi3, Sem.run_bind, Sem.run_pure, Sem.run_map, Result.andThen_ok, sliced, Int.toNat_natCast, Nat.zero_mul, Nat.sub_zero]
    cases A with
    | none => simp [hi3]
    | some p => simp [Addr.add, hi3]
  refine wpList_plain rfl fun K hK' => ?_
  unfold Oper.wp execOp
  simp only [Option.map_some, Option.map_none, hx, hhi, Sem.run_bind, Sem.run_pure, Sem.run_map, hr, Result.andThen_ok]
  exact hK' _ _ hK

theorem RdI.take {k : IntKind} {w : World} {A : Option Addr} {zs : List Int} (h : RdI k w A zs) (m : Nat) : RdI k w A (zs.take m) := by
  rcases h with h | ⟨b, off, hA, hc⟩
  · left
    rw [List.map_eq_nil_iff] at h
    simp [h]
  · refine .inr ⟨b, off, hA, fun j u hu => hc j u ?_⟩
    rw [List.map_take, List.getElem?_take] at hu
    split at hu
    · exact hu
    · cases hu

end
end Go.Proofs.YtoibebmhfcjpfaaGreatDoor
