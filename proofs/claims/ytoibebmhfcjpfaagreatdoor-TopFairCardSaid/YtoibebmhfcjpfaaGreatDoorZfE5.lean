/- A call's own memory as a list of things that it holds, beside a world that stays as it was. -/
import Derived.Test.YtoibebmhfcjpfaaGreatDoorZfMem
import Derived.Laws.AppendOwn
import Derived.Orders
import Derived.Laws.Tables
import Derived.Laws.Slices
import Derived.Laws.MakeOwn
import Derived.Laws.OwnMore
import Derived.Laws.CopyRow
import Derived.Laws.Rows
import Derived.IntWalk
import Derived.Deep.Quiet
namespace Go.Proofs.YtoibebmhfcjpfaaGreatDoor.E
open Go.RowKit

/-- Something that a call holds: its blocks, and what is in them. -/
structure Res where
  foot : List Nat
  holds : World → Prop
  stable : ∀ w w', (∀ b ∈ foot, w'.heap[b]? = w.heap[b]?) → holds w → holds w'

def lget : List Res → Nat → Option Res
  | [], _ => none
  | r :: _, 0 => some r
  | _ :: l, i + 1 => lget l i
def lset : List Res → Nat → Res → List Res
  | [], _, _ => []
  | _ :: l, 0, r => r :: l
  | x :: l, i + 1, r => x :: lset l i r
def ldrop : Nat → List Res → List Res
  | 0, L => L
  | _, [] => []
  | n + 1, _ :: l => ldrop n l
def lsets (L : List Res) : List (Nat × Res) → List Res
  | [] => L
  | (k, r) :: l => lsets (lset L k r) l
theorem lget_lset : ∀ (L : List Res) (k i : Nat) (r : Res), lget (lset L k r) i = if i = k then (lget L k).map (fun _ => r) else lget L i
  | [], k, i, r => by simp [lset, lget]
  | x :: l, 0, 0, r => by simp [lset, lget]
  | x :: l, 0, i + 1, r => by simp [lset, lget]
  | x :: l, k + 1, 0, r => by simp [lset, lget]
  | x :: l, k + 1, i + 1, r => by
    simp only [lset, lget, lget_lset l k i r]
    by_cases h : i = k
    · simp [h]
    · simp [h]
theorem lget_append : ∀ (M L : List Res) (i : Nat), lget (M ++ L) i = if i < M.length then lget M i else lget L (i - M.length)
  | [], L, i => by simp [lget]
  | x :: M, L, 0 => by simp [lget]
  | x :: M, L, i + 1 => by simp [lget, lget_append M L i]

/-- The world w, begun from w0: nothing of w0 has turned; what is held is there, and new. -/
structure St (w0 w : World) (L : List Res) : Prop where
  below : Below w0.heap.size w0 w
  holds : ∀ i r, lget L i = some r → r.holds w
  lt : ∀ i r, lget L i = some r → ∀ b ∈ r.foot, w0.heap.size ≤ b ∧ b < w.heap.size
  sep : ∀ i j r s, lget L i = some r → lget L j = some s → i ≠ j → ∀ b ∈ r.foot, b ∉ s.foot

section
variable {w0 w w' : World} {L M : List Res}

theorem St.refl (w : World) : St w w [] := ⟨Below.refl _ _, fun _ _ h => by simp [lget] at h, fun _ _ h => by simp [lget] at h, fun _ _ _ _ h => by simp [lget] at h⟩
theorem St.size (h : St w0 w L) : w0.heap.size ≤ w.heap.size := h.below.size
theorem St.of_below (h : Below w.heap.size w w') : St w w' [] := ⟨h, fun _ _ h => by simp [lget] at h, fun _ _ h => by simp [lget] at h, fun _ _ _ _ h => by simp [lget] at h⟩

/-- More memory. -/
theorem St.grow (h : St w0 w L) (hb : Below w.heap.size w w') : St w0 w' L := by
  refine ⟨h.below.trans (hb.mono h.size), fun i r hi => ?_, fun i r hi b hb' => ?_, h.sep⟩
  · exact r.stable w w' (fun b hb' => hb.block b (h.lt i r hi b hb').2) (h.holds i r hi)
  · have := h.lt i r hi b hb'
    exact ⟨this.1, Nat.lt_of_lt_of_le this.2 hb.size⟩
theorem St.drew (h : St w0 w L) : St w0 w.drew L := h.grow (Below.refl _ _).drew
theorem St.drewN (h : St w0 w L) (n : Nat) : St w0 (w.drewN n) L := h.grow (below_drewN (Below.refl _ _) n)

/-- What a call has made in the meantime comes in front. -/
theorem St.call (h : St w0 w L) (hc : St w w' M) : St w0 w' (M ++ L) := by
  have hg := h.grow hc.below
  refine ⟨hg.below, fun i r hi => ?_, fun i r hi b hb => ?_, fun i j r s hi hj hne b hb hb' => ?_⟩
  · rw [lget_append] at hi
    split at hi
    · exact hc.holds i r hi
    · exact hg.holds _ r hi
  · rw [lget_append] at hi
    split at hi
    · have := hc.lt i r hi b hb
      exact ⟨Nat.le_trans h.size this.1, this.2⟩
    · exact hg.lt _ r hi b hb
  · rw [lget_append] at hi hj
    split at hi
    · split at hj
      · exact hc.sep i j r s hi hj hne b hb hb'
      · have h1 := hc.lt i r hi b hb
        have h2 := h.lt _ s hj b hb'
        omega
    · split at hj
      · have h1 := hc.lt j s hj b hb'
        have h2 := h.lt _ r hi b hb
        omega
      · exact h.sep _ _ r s hi hj (by omega) b hb hb'

/-- A thing more, of new blocks. -/
theorem St.add {r : Res} (h : St w0 w L) (hb : Below w.heap.size w w') (hr : r.holds w') (hf : ∀ b ∈ r.foot, w.heap.size ≤ b ∧ b < w'.heap.size) : St w0 w' (r :: L) := by
  have : St w w' [r] := ⟨hb, fun i s hi => by
      match i with
      | 0 => simp only [lget, Option.some.injEq] at hi; subst hi; exact hr
      | i + 1 => simp [lget] at hi, fun i s hi => by
      match i with
      | 0 => simp only [lget, Option.some.injEq] at hi; subst hi; exact hf
      | i + 1 => simp [lget] at hi, fun i j s t hi hj hne => by
      match i, j with
      | 0, 0 => exact absurd rfl hne
      | i + 1, _ => simp [lget] at hi
      | 0, j + 1 => simp [lget] at hj⟩
  simpa using h.call this

/-- One thing turned, at its own blocks or at new ones. -/
theorem St.turn {k : Nat} {r r' : Res} (h : St w0 w L) (hk : lget L k = some r) (hos : w'.os = w.os) (htp : w'.tape = w.tape) (hout : w'.output = w.output) (hsz : w.heap.size ≤ w'.heap.size)
    (hbl : ∀ b, b < w.heap.size → b ∉ r.foot → w'.heap[b]? = w.heap[b]?) (hr : r'.holds w') (hf : ∀ b ∈ r'.foot, b < w'.heap.size ∧ (b ∈ r.foot ∨ w.heap.size ≤ b)) : St w0 w' (lset L k r') := by
  have hold := h.lt k r hk
  refine ⟨⟨hos.trans h.below.os, htp.trans h.below.tape, hout.trans h.below.output, Nat.le_trans h.size hsz, fun b hb => ?_⟩, fun i s hi => ?_, fun i s hi b hb => ?_, fun i j s t hi hj hne b hb hb' => ?_⟩
  · rw [hbl b (Nat.lt_of_lt_of_le hb h.size) (fun hm => by have := (hold b hm).1; omega)]
    exact h.below.block b hb
  · rw [lget_lset] at hi
    split at hi
    · simp only [hk, Option.map_some, Option.some.injEq] at hi
      subst hi
      exact hr
    · rename_i hne
      refine s.stable w w' (fun b hb => ?_) (h.holds i s hi)
      exact hbl b (h.lt i s hi b hb).2 (fun hm => h.sep i k s r hi hk hne b hb hm)
  · rw [lget_lset] at hi
    split at hi
    · simp only [hk, Option.map_some, Option.some.injEq] at hi
      subst hi
      obtain ⟨h1, h2 | h2⟩ := hf b hb
      · exact ⟨(hold b h2).1, h1⟩
      · exact ⟨Nat.le_trans h.size h2, h1⟩
    · have := h.lt i s hi b hb
      exact ⟨this.1, Nat.lt_of_lt_of_le this.2 hsz⟩
  · rw [lget_lset] at hi hj
    split at hi
    · simp only [hk, Option.map_some, Option.some.injEq] at hi
      subst hi
      split at hj
      · omega
      · rename_i h2
        obtain ⟨_, h3 | h3⟩ := hf b hb
        · exact h.sep k j r t hk hj (fun e => h2 e.symm) b h3 hb'
        · have := (h.lt j t hj b hb').2
          omega
    · rename_i h2
      split at hj
      · simp only [hk, Option.map_some, Option.some.injEq] at hj
        subst hj
        obtain ⟨_, h3 | h3⟩ := hf b hb'
        · exact h.sep i k s r hi hk h2 b hb h3
        · have := (h.lt i s hi b hb).2
          omega
      · exact h.sep i j s t hi hj hne b hb hb'

/-- Some of what is held, in another order. -/
def sel (L : List Res) : List Nat → List Res
  | [] => []
  | k :: ks => match lget L k with | some r => r :: sel L ks | none => sel L ks
theorem St.pick (h : St w0 w L) (ks : List Nat) (S : List Res) (hs : ks.map (lget L) = S.map some) (hn : ks.Nodup) : St w0 w S := by
  have key : ∀ (ks : List Nat) (S : List Res), ks.map (lget L) = S.map some → ∀ i r, lget S i = some r → ∃ k, ks[i]? = some k ∧ lget L k = some r := by
    intro ks
    induction ks with
    | nil => intro S hs i r hi; cases S with
      | nil => simp [lget] at hi
      | cons x S => simp at hs
    | cons k ks ih =>
      intro S hs i r hi
      cases S with
      | nil => simp at hs
      | cons x S =>
        simp only [List.map_cons, List.cons.injEq] at hs
        cases i with
        | zero => simp only [lget, Option.some.injEq] at hi; subst hi; exact ⟨k, by simp, hs.1⟩
        | succ i => exact ih S hs.2 i r hi
  refine ⟨h.below, fun i r hi => ?_, fun i r hi => ?_, fun i j r s hi hj hne => ?_⟩
  · obtain ⟨k, _, hk⟩ := key ks S hs i r hi
    exact h.holds k r hk
  · obtain ⟨k, _, hk⟩ := key ks S hs i r hi
    exact h.lt k r hk
  · obtain ⟨k, h1, hk⟩ := key ks S hs i r hi
    obtain ⟨l, h2, hl⟩ := key ks S hs j s hj
    refine h.sep k l r s hk hl (fun e => hne ?_)
    subst e
    obtain ⟨l1, e1⟩ := List.getElem?_eq_some_iff.1 h1
    obtain ⟨l2, e2⟩ := List.getElem?_eq_some_iff.1 h2
    exact (List.getElem_inj hn).1 (e1.trans e2.symm)
theorem St.tail {r : Res} (h : St w0 w (r :: L)) : St w0 w L :=
  ⟨h.below, fun i s hi => h.holds (i + 1) s hi, fun i s hi => h.lt (i + 1) s hi, fun i j s t hi hj hne => h.sep (i + 1) (j + 1) s t hi hj (by omega)⟩
end

/-- A block with these cells. -/
def blk (b : Nat) (cs : List Value) : Res where
  foot := [b]
  holds w := ∃ T, w.heap[b]? = some (.cells cs.toArray T (0, 0))
  stable w w' h := fun ⟨T, h1⟩ => ⟨T, (h b (by simp)).trans h1⟩

/-- v is nil, or n elements of `size` cells each, xs, in an array of the call's own. -/
def OwnV (w : World) (e : TypeId) (size : Nat) (v : Value) (n : Nat) (xs : List Value) : Prop :=
  xs.length = n * size ∧
  ((v = .slice none 0 0 ∧ n = 0) ∨
   ∃ g off cap cur, v = .slice (some ⟨g, off, none⟩) n cap ∧ w.heap[g]? = some (.cells cur e (0, 0)) ∧ n ≤ cap ∧ cap ≤ maxLen ∧ off + cap * size ≤ cur.size ∧ (cur.toList.drop off).take (n * size) = xs)

/-- A slice of the call's own: nil, or n elements of `size` cells. -/
def vec (e : TypeId) (size : Nat) (v : Value) (n : Nat) (xs : List Value) : Res where
  foot := v.ownBlock.toList
  holds w := OwnV w e size v n xs
  stable w w' h := by
    rintro ⟨h1, h2 | ⟨g, off, cap, cur, rfl, hg, rest⟩⟩
    · exact ⟨h1, .inl h2⟩
    · exact ⟨h1, .inr ⟨g, off, cap, cur, rfl, (h g (by simp [Value.ownBlock])).trans hg, rest⟩⟩

section
variable {w w' : World} {e : TypeId} {size : Nat} {v : Value} {n : Nat} {xs : List Value}

theorem OwnV.nil (w : World) (e : TypeId) (size : Nat) : OwnV w e size (.slice none 0 0) 0 [] := ⟨by simp, .inl ⟨rfl, rfl⟩⟩
theorem OwnV.of_own {base : Nat} (h : w.ownsRow base e size v n xs) : OwnV w e size v n xs := by
  refine ⟨h.1, ?_⟩
  rcases h.2 with h1 | ⟨g, cap, cur, h1, h2, h3, h4, h5, h6, h7⟩
  · exact .inl h1
  · exact .inr ⟨g, 0, cap, cur, h1, h3, h4, h5, by omega, by simpa using h7⟩
theorem OwnV.form (h : OwnV w e size v n xs) : ∃ (A : Option Addr) (c : Nat), v = .slice A n c ∧ n ≤ c ∧ Rd w A xs := by
  rcases h.2 with ⟨hv, hn⟩ | ⟨g, off, cap, cur, hv, hh, hl, hm, hs, ht⟩
  · have : xs = [] := List.eq_nil_of_length_eq_zero (by rw [h.1, hn, Nat.zero_mul])
    subst this
    exact ⟨none, 0, by rw [hv, hn], by omega, .inl rfl⟩
  · refine ⟨some ⟨g, off, none⟩, cap, hv, hl, .inr ⟨g, off, rfl, fun j u hu => ?_⟩⟩
    rw [← ht, List.getElem?_take] at hu
    split at hu
    · rw [cell_of_row w g (off + j) cur e (0, 0) hh]
      rw [List.getElem?_drop] at hu
      simpa using hu
    · cases hu
theorem OwnV.rd {A : Option Addr} {m c : Nat} (h : OwnV w e size (.slice A m c) n xs) : m = n ∧ n ≤ c ∧ Rd w A xs := by
  obtain ⟨A', c', he, hc, hr⟩ := h.form
  injection he with h1 h2 h3
  subst h1 h2 h3
  exact ⟨rfl, hc, hr⟩

variable {P : Program}
theorem run_append_roomV (w : World) (t ty e : TypeId) (i : TypeInfo) (ht : P.underlying t = some (.slice e)) (hi : P.info? e = some i)
    (g off sLen sCap : Nat) (cur : Array Value) (hg : w.heap[g]? = some (.cells cur e (0, 0)))
    (a : Addr) (m c : Nat) (news : List Value) (hl : news.length = m * i.size) (hnews : ∀ j u, news[j]? = some u → w.cell? (a.add j) = some u) (h1 : ∀ u ∈ news, u.oneCell' = true)
    (hroom : sLen + m ≤ sCap) (hfit : off + sLen * i.size + news.length ≤ cur.size) :
    (Builtin.append_ #[t, t] ty #[.slice (some ⟨g, off, none⟩) sLen sCap, .slice (some a) m c]).run P w =
      .ok (.slice (some ⟨g, off, none⟩) (sLen + m) sCap) (w.setRow g (cur.toList.take (off + sLen * i.size) ++ news ++ cur.toList.drop (off + sLen * i.size + news.length)).toArray) := by
  have hf := run_firstCells_some (P := P) w i.size m a m c news hl hnews
  have hst := run_storeCells_at P g (off + sLen * i.size) e news 0 cur w hg (by simpa using hfit) h1
  simp only [Nat.add_zero] at hst
  simp [Builtin.append_, run_underlying ht, sizeOf, typeInfo, hi, Builtin.lenOf, hroom, hf, Addr.add_lit, hst]

theorem run_append_ownV (w : World) (t ty e : TypeId) (i : TypeInfo) (z : Value) (size bytes : Nat) (ht : P.underlying t = some (.slice e)) (hi : P.info? e = some i) (hz : i.zero = some z)
    (hsize : i.size = size) (hby : i.bytes = bytes) (hzs : z.cells.size = size) (hsz : 0 < size)
    (v : Value) (n : Nat) (xs : List Value) (hown : OwnV w e size v n xs)
    (a : Addr) (m c : Nat) (news : List Value) (hl : news.length = m * size) (hnews : ∀ j u, news[j]? = some u → w.cell? (a.add j) = some u) (h1 : ∀ u ∈ news, u.oneCell' = true)
    (h63 : n + m ≤ maxLen) (hbytes : (n + m) * bytes ≤ 140737488355328) :
    ∃ v' w', (Builtin.append_ #[t, t] ty #[v, .slice (some a) m c]).run P w = .ok v' w' ∧ OwnV w' e size v' (n + m) (xs ++ news) ∧ w.grownBy w' v.ownBlock ∧ (∀ g, v'.ownBlock = some g → g < w'.heap.size ∧ (v.ownBlock = some g ∨ w.heap.size ≤ g)) := by
  subst hsize
  subst hby
  have hlen : (xs ++ news).length = (n + m) * i.size := by rw [List.length_append, hown.1, hl, Nat.add_mul]
  rcases hown.2 with ⟨rfl, rfl⟩ | ⟨g, off, cap, cur, rfl, hg, hnc, hcm, hcs, htake⟩
  · have hx : xs = [] := List.eq_nil_of_length_eq_zero (by simpa using hown.1)
    subst hx
    obtain ⟨v', w', r1, r2, r3, _⟩ := run_append_own (P := P) w w.heap.size t ty e i z i.size i.bytes ht hi hz rfl rfl hzs hsz (.slice none 0 0) 0 [] (World.ownsRow_nil w w.heap.size e i.size) a m c news hl hnews h1 h63 hbytes (Nat.le_refl _)
    exact ⟨v', w', r1, OwnV.of_own r2, r3, fun g hg => ⟨(World.ownsRow.lt r2 g hg).2, .inr (World.ownsRow.lt r2 g hg).1⟩⟩
  · have hgl : g < w.heap.size := (Array.getElem?_eq_some_iff.1 hg).1
    by_cases hroom : n + m ≤ cap
    · have hfit : off + n * i.size + news.length ≤ cur.size := by
        have : (n + m) * i.size ≤ cap * i.size := Nat.mul_le_mul_right _ hroom
        rw [hl]
        rw [Nat.add_mul] at this
        omega
      have hr := run_append_roomV (P := P) w t ty e i ht hi g off n cap cur hg a m c news hl hnews h1 hroom hfit
      refine ⟨_, _, hr, ⟨hlen, .inr ⟨g, off, cap, _, rfl, setRow_heap w g cur _ e _ hg, hroom, hcm, ?_, ?_⟩⟩, ⟨rfl, rfl, rfl, by simp, fun k _ hk => setRow_other w g k _ (fun e => hk (by simp [Value.ownBlock, e]))⟩, fun g' hg' => ?_⟩
      · simp only [List.size_toArray, List.length_append, List.length_take, List.length_drop, Array.length_toList]
        omega
      · have e1 : (cur.toList.take (off + n * i.size) ++ news ++ cur.toList.drop (off + n * i.size + news.length)).drop off = xs ++ news ++ cur.toList.drop (off + n * i.size + news.length) := by
          rw [List.append_assoc, List.drop_append_of_le_length (by simp; omega), List.drop_take, Nat.add_sub_cancel_left, htake, List.append_assoc]
        simp only [e1, ← hlen]
        exact List.take_left
      · have : g = g' := by simpa [Value.ownBlock] using hg'
        subst this
        exact ⟨by simpa [World.setRow] using hgl, .inl (by simp [Value.ownBlock])⟩
    · have holds : ∀ j u, xs[j]? = some u → w.cell? ((⟨g, off, none⟩ : Addr).add j) = some u := fun j u hu => by
        rw [Addr.add_lit, cell_of_row w g (off + j) cur e (0, 0) hg]
        rw [← htake, List.getElem?_take] at hu
        split at hu
        · rw [List.getElem?_drop] at hu
          simpa using hu
        · cases hu
      have hge := grownCap_ge w (n + m) cap e
      have hr := run_append_grow (P := P) w t ty e i z ht hi hz ⟨g, off, none⟩ n cap xs hown.1 holds a m c news hl hnews (by omega) (by simp only [maxLen] at h63; omega) (growslice_fits (by omega) hbytes)
      refine ⟨_, _, hr, ⟨hlen, .inr ⟨w.heap.size, 0, _, _, rfl, heap_alloc_new w.drew _, hge, grownCap_le_maxLen w (n + m) cap e h63, ?_, ?_⟩⟩, ⟨rfl, rfl, rfl, by simp, fun k hk _ => Go.heap_alloc_old _ _ hk⟩, fun g' hg' => ?_⟩
      · simp only [Array.size_append, List.size_toArray, size_zeroCells, hzs, hown.1, hl, ← Nat.add_mul, Nat.zero_add]
        exact Nat.mul_le_mul_right _ (by omega)
      · simp only [Array.toList_append, List.append_assoc, List.drop_zero]
        rw [← List.append_assoc, ← hlen]
        exact List.take_left
      · have : w.heap.size = g' := by simpa [Value.ownBlock] using hg'
        subst this
        exact ⟨by simp, .inr (Nat.le_refl _)⟩
end
end Go.Proofs.YtoibebmhfcjpfaaGreatDoor.E

namespace Go.Proofs.YtoibebmhfcjpfaaGreatDoor.E
open Go.RowKit

/-- What slots hold, the newest first; what is dropped is not known any more. -/
inductive Frm where
  | nil
  | put (d : Nat) (v : Value) (F : Frm)
  | drop (W : List Nat) (F : Frm)
def mem : List Nat → Nat → Bool
  | [], _ => false
  | d :: l, i => bif Nat.beq d i then true else mem l i
def fgo : Frm → Nat → Option Value
  | .nil, _ => none
  | .put d v l, i => bif Nat.beq d i then some v else fgo l i
  | .drop W l, i => bif mem W i then none else fgo l i
def fget (N : Nat) (F : Frm) (i : Nat) : Option Value := bif Nat.blt i N then fgo F i else none
def fput (F : Frm) (d : Option Tmp) (v : Value) : Frm := match d with | some d => .put d v F | none => F
def fputs : List (Nat × Value) → Frm → Frm
  | [], F => F
  | (d, v) :: l, F => .put d v (fputs l F)

structure Fr (N : Nat) (a : Act) (F : Frm) : Prop where
  defers : a.defers = []
  size : a.tmps.size = N
  at_ : ∀ i v, fget N F i = some v → a.tmps[i]? = some v

theorem fget_cons {N : Nat} {F : Frm} {d i : Nat} {v : Value} : fget N (.put d v F) i = if d = i then (if i < N then some v else none) else fget N F i := by
  unfold fget
  simp only [fgo]
  by_cases h : d = i
  · subst h
    by_cases h2 : d < N
    · have : Nat.blt d N = true := of_eq_true (by simp only [Nat.blt_eq, h2])
      simp [h2, this]
    · have : Nat.blt d N = false := Bool.eq_false_iff.2 (by simp only [ne_eq, Nat.blt_eq]; exact h2)
      simp [h2, this]
  · have h3 : Nat.beq d i = false := Bool.eq_false_iff.2 (fun e => h (Nat.eq_of_beq_eq_true e))
    simp [h, h3]

theorem Fr.put {N : Nat} {a : Act} {F : Frm} (h : Fr N a F) (d : Option Tmp) (v : Value) : Fr N (a.put d v) (fput F d v) := by
  cases d with
  | none => exact h
  | some d =>
    refine ⟨h.defers, by simp [Act.put, h.size], fun i u hu => ?_⟩
    simp only [fput, fget_cons] at hu
    simp only [Act.put]
    by_cases hd : d = i
    · subst hd
      simp only [if_true] at hu
      split at hu
      · rename_i hlt
        simp only [Option.some.injEq] at hu
        subst hu
        rw [Array.getElem?_setIfInBounds_self_of_lt (by rw [h.size]; exact hlt)]
      · cases hu
    · rw [if_neg hd] at hu
      rw [Array.getElem?_setIfInBounds_ne hd]
      exact h.at_ i u hu

/-- The slots of G hold what they do in F. -/
def Cov (N : Nat) (F : Frm) (G : Frm) : Prop := ∀ i v, fget N G i = some v → fget N F i = some v
theorem cov_nil {N : Nat} {F : Frm} : Cov N F .nil := fun i v h => by simp [fget, fgo] at h
theorem cov_cons {N : Nat} {F G : Frm} {i : Nat} {v : Value} (h : fget N F i = some v) (hG : Cov N F G) : Cov N F (.put i v G) := fun j u hj => by
  rw [fget_cons] at hj
  split at hj
  · rename_i e
    subst e
    split at hj
    · simp only [Option.some.injEq] at hj; subst hj; exact h
    · cases hj
  · exact hG j u hj
theorem Fr.cov {N : Nat} {a : Act} {F G : Frm} (h : Fr N a F) (hc : Cov N F G) : Fr N a G := ⟨h.defers, h.size, fun i v hv => h.at_ i v (hc i v hv)⟩

/-- What an operand is. -/
def FE (N : Nat) (F : Frm) (x : Operand) (v : Value) : Prop := ∀ a, Fr N a F → a.eval x = v
theorem fe_t {N : Nat} {F : Frm} {i : Nat} {v : Value} (h : fget N F i = some v) : FE N F (.tmp i) v := fun a ha => by
  have := ha.at_ i v h
  simp [Act.eval, Array.getD_eq_getD_getElem?, this]
theorem fe_c {N : Nat} {F : Frm} {v : Value} : FE N F (.const v) v := fun _ _ => rfl
theorem fe_f {N : Nat} {F : Frm} {f : FuncId} : FE N F (.func f) (.func (.func f) #[] #[]) := fun _ _ => rfl
def NoQ : Exit → Act → World → Prop := fun _ _ _ => False

section
variable {P : Program} {N : Nat} {w0 : World} {ops : Array Oper} {Q Q' : Exit → Act → World → Prop} {F G : Frm} {L M : List Res} {o : Oper} {rest : List Oper} {v : Value} {c x y : Code}

/-- An operation's value, whatever else the world holds. -/
def Yld (P : Program) (N : Nat) (w0 : World) (F : Frm) (L : List Res) (o : Oper) (v : Value) : Prop :=
  ∀ a w, Fr N a F → St w0 w L → (execOp a.eval o).run P w = .ok (.value v) w

/-- What is asked of an operation, K of what follows. -/
def OpJ (P : Program) (N : Nat) (w0 : World) (F : Frm) (L : List Res) (o : Oper) (K : Frm → List Res → Prop) : Prop :=
  ∀ a w, Fr N a F → St w0 w L → o.wp P a w (fun a' w' => ∃ F' L', K F' L' ∧ Fr N a' F' ∧ St w0 w' L') NoQ

theorem oj_val {K : Frm → List Res → Prop} (hy : Yld P N w0 F L o v) (h : K (fput F o.dst v) L) : OpJ P N w0 F L o K := fun a w hF hS => by
  unfold Oper.wp
  rw [hy a w hF hS]
  exact ⟨_, _, h, hF.put _ _, hS⟩

theorem upon_mono {a : Act} {K K' : Act → World → Prop} {r : Result Next} (hK : ∀ a w, K a w → K' a w) (h : o.upon P a K NoQ r) : o.upon P a K' Q r := by
  cases r with
  | ok n w' =>
    cases n <;> simp only [Oper.upon] at h ⊢
    case value => exact hK _ _ h
    case skip => exact hK _ _ h
    case defer => exact hK _ _ h
    case enter f args =>
      refine Calls.mono h fun e w'' he => ?_
      cases e with
      | returned u => exact hK _ _ he
      | panicked ch => exact he.elim
      | outgrown => obtain ⟨_, _, hf⟩ := he; exact hf.elim
    case row => exact Rows.mono h fun _ _ he => hK _ _ he
  | halt x w' => cases x <;> simp only [Oper.upon] at h ⊢ <;> exact h.elim

theorem wp_of_noQ {a : Act} {w : World} {K K' : Act → World → Prop} (hK : ∀ a w, K a w → K' a w) (h : o.wp P a w K NoQ) : o.wp P a w K' Q := upon_mono hK h

/-- A list of operations. -/
def TL (P : Program) (N : Nat) (w0 : World) (ops : Array Oper) (Q : Exit → Act → World → Prop) (l : List Oper) (F : Frm) (L : List Res) : Prop :=
  ∀ a w, Fr N a F → St w0 w L → wpList P ops Q l a w

theorem tl_step (hg : o.guard = none) (h : OpJ P N w0 F L o (fun F' L' => TL P N w0 ops Q rest F' L')) : TL P N w0 ops Q (o :: rest) F L := fun a w hF hS => by
  have := h a w hF hS
  unfold wpList
  rw [if_pos (by simp [Region.wanted, hg])]
  exact .inl (wp_of_noQ (fun a' w' ⟨F', L', hK, h1, h2⟩ => hK a' w' h1 h2) this)

theorem yielded_of {a : Act} {g d : Nat} {v : Value} (hF : Fr N a F) (hd : (ops[g]?).bind (·.dst) = some d) (hv : fget N F d = some v) : yielded ops a.tmps g = (match v with | .bool b => some b | _ => none) := by
  have := hF.at_ d v hv
  unfold yielded
  rw [hd, Option.bind_some, this]
  cases v <;> rfl

/-- A guarded operation that is wanted. -/
theorem tl_want {g d : Nat} {b : Bool} (hg : o.guard = some (g, b)) (hd : (ops[g]?).bind (·.dst) = some d) (hv : fget N F d = some (.bool b)) (h : OpJ P N w0 F L o (fun F' L' => TL P N w0 ops Q rest F' L')) : TL P N w0 ops Q (o :: rest) F L := fun a w hF hS => by
  have := h a w hF hS
  unfold wpList
  rw [if_pos (by simp [Region.wanted, hg, yielded_of hF hd hv])]
  exact .inl (wp_of_noQ (fun a' w' ⟨F', L', hK, h1, h2⟩ => hK a' w' h1 h2) this)
theorem tl_skip {g d : Nat} {b : Bool} {u : Value} (hg : o.guard = some (g, b)) (hd : (ops[g]?).bind (·.dst) = some d) (hv : fget N F d = some u) (hu : (match u with | .bool b' => b' != b | _ => true) = true) (h : TL P N w0 ops Q rest (fput F o.dst undef) L) : TL P N w0 ops Q (o :: rest) F L := fun a w hF hS => by
  unfold wpList
  rw [if_neg]
  · exact h _ _ (hF.put _ _) hS
  · simp only [Region.wanted, hg, yielded_of hF hd hv]
    cases u <;> simp_all
/-- Two ways at a slot that holds a Bool. -/
theorem tl_split {d : Nat} {b : Bool} (hv : fget N F d = some (.bool b)) (h1 : b = true → TL P N w0 ops Q rest (.put d (.bool true) F) L) (h2 : b = false → TL P N w0 ops Q rest (.put d (.bool false) F) L) : TL P N w0 ops Q rest F L := fun a w hF hS => by
  cases b
  · exact h2 rfl a w (hF.cov fun i u hi => by
      rw [fget_cons] at hi
      split at hi
      · rename_i e; subst e; split at hi
        · rw [hv]; exact hi
        · cases hi
      · exact hi) hS
  · exact h1 rfl a w (hF.cov fun i u hi => by
      rw [fget_cons] at hi
      split at hi
      · rename_i e; subst e; split at hi
        · rw [hv]; exact hi
        · cases hi
      · exact hi) hS
theorem tl_splitp {d : Nat} {p : Prop} [Decidable p] (hv : fget N F d = some (.bool (decide p))) (h1 : p → TL P N w0 ops Q rest (.put d (.bool true) F) L) (h2 : ¬ p → TL P N w0 ops Q rest (.put d (.bool false) F) L) : TL P N w0 ops Q rest F L :=
  tl_split hv (fun h => h1 (of_decide_eq_true h)) (fun h => h2 (of_decide_eq_false h))
/-- Code. -/
def TR (P : Program) (N : Nat) (w0 : World) (Q : Exit → Act → World → Prop) (c : Code) (F : Frm) (L : List Res) : Prop :=
  ∀ a w, Fr N a F → St w0 w L → c.wp P Q a w
/-- A way out. -/
def TX (N : Nat) (w0 : World) (Q : Exit → Act → World → Prop) (e : Exit) (F : Frm) (L : List Res) : Prop :=
  ∀ a w, Fr N a F → St w0 w L → Q e a w

theorem tl_nil (h : TX N w0 Q .normal F L) : TL P N w0 ops Q [] F L := h
theorem tr_seq (h : TR P N w0 (Exit.then (y.wp P Q) Q) x F L) : TR P N w0 Q (.seq x y) F L := fun a w hF hS => wp_seq (h a w hF hS)
theorem tr_region {id : Nat} {l : List Oper} (h : TL P N w0 l.toArray Q l F L) : TR P N w0 Q (.region id l.toArray false) F L := fun a w hF hS => wp_region_lit (h a w hF hS)
theorem tr_skip (h : TX N w0 Q .normal F L) : TR P N w0 Q .skip F L := fun a w hF hS => wp_skip (h a w hF hS)
theorem tr_ret (h : TX N w0 Q .ret F L) : TR P N w0 Q .ret F L := fun a w hF hS => wp_ret (h a w hF hS)
theorem tr_exit {id : Nat} (h : TX N w0 Q (.exit id) F L) : TR P N w0 Q (.exit id) F L := fun a w hF hS => wp_exit (h a w hF hS)
theorem tr_block {id : Nat} (h : TR P N w0 (Exit.inBlock id Q) c F L) : TR P N w0 Q (.block id c) F L := fun a w hF hS => wp_block (h a w hF hS)
theorem tr_cond {t : Operand} {b : Bool} (hc : FE N F t (.bool b)) (h1 : b = true → TR P N w0 Q x F L) (h2 : b = false → TR P N w0 Q y F L) : TR P N w0 Q (.cond t x y) F L := fun a w hF hS =>
  wp_cond_split (hc a hF) (fun h => h1 h a w hF hS) (fun h => h2 h a w hF hS)
theorem tr_condp {t : Operand} {p : Prop} [Decidable p] (hc : FE N F t (.bool (decide p))) (h1 : p → TR P N w0 Q x F L) (h2 : ¬ p → TR P N w0 Q y F L) : TR P N w0 Q (.cond t x y) F L :=
  tr_cond hc (fun h => h1 (of_decide_eq_true h)) (fun h => h2 (of_decide_eq_false h))
theorem tr_condt {t : Operand} (hc : FE N F t (.bool true)) (h1 : TR P N w0 Q x F L) : TR P N w0 Q (.cond t x y) F L := tr_cond hc (fun _ => h1) (fun h => by cases h)
theorem tr_condf {t : Operand} (hc : FE N F t (.bool false)) (h1 : TR P N w0 Q y F L) : TR P N w0 Q (.cond t x y) F L := tr_cond hc (fun h => by cases h) (fun _ => h1)

theorem tx_then (h : TR P N w0 Q y F L) : TX N w0 (Exit.then (y.wp P Q) Q') .normal F L := h
theorem tx_then_ret {K : Act → World → Prop} (h : TX N w0 Q .ret F L) : TX N w0 (Exit.then K Q) .ret F L := h
theorem tx_then_exit {K : Act → World → Prop} {id : Nat} (h : TX N w0 Q (.exit id) F L) : TX N w0 (Exit.then K Q) (.exit id) F L := h
theorem tx_in {id : Nat} (h : TX N w0 Q .normal F L) : TX N w0 (Exit.inBlock id Q) .normal F L := h
theorem tx_in_ret {id : Nat} (h : TX N w0 Q .ret F L) : TX N w0 (Exit.inBlock id Q) .ret F L := h
theorem tx_in_exit {id : Nat} (h : TX N w0 Q .normal F L) : TX N w0 (Exit.inBlock id Q) (.exit id) F L := fun a w hF hS => by simpa [Exit.inBlock] using h a w hF hS
theorem tx_in_pass {id k : Nat} (hne : Nat.beq k id = false) (h : TX N w0 Q (.exit k) F L) : TX N w0 (Exit.inBlock id Q) (.exit k) F L := fun a w hF hS => by
  have : k ≠ id := Nat.ne_of_beq_eq_false hne
  simpa [Exit.inBlock, this] using h a w hF hS

theorem tr_add {r : Res} (hr : ∀ w, r.holds w) (hf : r.foot = []) (h : TR P N w0 Q c F (r :: L)) : TR P N w0 Q c F L := fun a w hF hS =>
  h a w hF (hS.add (Below.refl _ _) (hr w) (by simp [hf]))
theorem fget_drop {W : List Nat} {i : Nat} {v : Value} (h : fget N (.drop W F) i = some v) : fget N F i = some v ∧ mem W i = false := by
  unfold fget at *
  simp only [fgo] at h
  cases h1 : Nat.blt i N with
  | false => simp [h1] at h
  | true =>
    cases h2 : mem W i with
    | true => simp [h2] at h
    | false => simpa [h1, h2] using h
/-- T lies under F, what is above it stands in W. -/
def Over (W : List Nat) (T F : Frm) : Prop := ∀ i, mem W i = false → fgo F i = fgo T i
theorem over_nil {W : List Nat} {T : Frm} : Over W T T := fun _ _ => rfl
theorem over_put {W : List Nat} {T F : Frm} {d : Nat} {v : Value} (hd : mem W d = true) (h : Over W T F) : Over W T (.put d v F) := fun i hi => by
  have : Nat.beq d i = false := Bool.eq_false_iff.2 (fun e => by
    have := Nat.eq_of_beq_eq_true e
    subst this
    rw [hd] at hi
    cases hi)
  simp only [fgo, this, cond_false]
  exact h i hi
theorem over_drop {W V : List Nat} {T F : Frm} (hV : V.all (mem W) = true) (h : Over W T F) : Over W T (.drop V F) := fun i hi => by
  have : mem V i = false := by
    rw [Bool.eq_false_iff]
    intro e
    have : ∀ l : List Nat, mem l i = true → i ∈ l := by
      intro l
      induction l with
      | nil => simp [mem]
      | cons d l ih =>
        intro h1
        simp only [mem] at h1
        cases h2 : Nat.beq d i with
        | true => simp [Nat.eq_of_beq_eq_true h2]
        | false => rw [h2] at h1; exact List.mem_cons_of_mem _ (ih h1)
    have := List.all_eq_true.1 hV i (this V e)
    rw [this] at hi
    cases hi
  simp only [fgo, this, cond_false]
  exact h i hi
/-- What is asked at the head of a loop: some slots by name, all others that it does not write as they were. -/
theorem cov_head {W : List Nat} {T : Frm} {G : List (Nat × Value)} (hG : Cov N F (fputs G .nil)) (h : Over W T F) : Cov N F (fputs G (.drop W T)) := by
  have key : ∀ G : List (Nat × Value), ∀ i v, fget N (fputs G (.drop W T)) i = some v → fget N (fputs G .nil) i = some v ∨ (mem W i = false ∧ fget N T i = some v) := by
    intro G
    induction G with
    | nil => intro i v hv; right; have := fget_drop hv; exact ⟨this.2, this.1⟩
    | cons p G ih =>
      intro i v hv
      obtain ⟨d, u⟩ := p
      simp only [fputs, fget_cons] at hv ⊢
      split
      · rename_i e; rw [if_pos e] at hv; exact .inl hv
      · rename_i e; rw [if_neg e] at hv; exact ih i v hv
  intro i v hv
  rcases key G i v hv with h1 | ⟨h1, h2⟩
  · exact hG i v h1
  · unfold fget at *
    rw [h i h1]
    exact h2

theorem exists_min {p : Nat → Prop} : ∀ n, p n → ∃ m, p m ∧ ∀ k, p k → m ≤ k := by
  intro n
  induction n using Nat.strongRecOn with
  | _ n ih =>
    intro h
    by_cases hx : ∃ k, k < n ∧ p k
    · obtain ⟨k, hk, hp⟩ := hx
      exact ih k hk hp
    · refine ⟨n, h, fun k hp => ?_⟩
      rcases Nat.lt_or_ge k n with h1 | h1
      · exact absurd ⟨k, h1, hp⟩ hx
      · exact h1

/-- A way back to one of many states. -/
def Back {ι : Type} (N : Nat) (w0 : World) (G : ι → Frm) (M : ι → List Res) (p : ι → Prop) (a : Act) (w : World) : Prop := ∃ i, p i ∧ Fr N a (G i) ∧ St w0 w (M i)

open Classical in
/-- A loop, by a state G i, M i at its head. -/
theorem tr_loop {ι : Type} (G : ι → Frm) (M : ι → List Res) (μ : ι → Nat) (i0 : ι) (hF : Cov N F (G i0)) (hL : ∀ w, St w0 w L → St w0 w (M i0))
    (h : ∀ i, TR P N w0 (Exit.then (Back N w0 G M (fun j => μ j < μ i)) Q) c (G i) (M i)) : TR P N w0 Q (.loop c) F L := by
  intro a w h1 h2
  let I : Act → World → Nat → Prop := fun a w n => ∃ i, μ i = n ∧ Fr N a (G i) ∧ St w0 w (M i)
  have hex : ∀ a w, (∃ n, I a w n) → ∃ m, I a w m ∧ ∀ k, I a w k → m ≤ k := fun a w ⟨n, h⟩ => exists_min n h
  let m : Act → World → Nat := fun a w => if h : ∃ n, I a w n then Classical.choose (hex a w h) else 0
  refine wp_loop (fun a w => ∃ n, I a w n) m ⟨_, i0, rfl, h1.cov hF, hL w h2⟩ ?_
  intro a w hI
  have hm : m a w = Classical.choose (hex a w hI) := by simp only [m]; rw [dif_pos hI]
  obtain ⟨⟨i, hi, hf, hs⟩, _⟩ := Classical.choose_spec (hex a w hI)
  refine wp_mono (h i a w hf hs) ?_
  intro e a' w' hq
  cases e with
  | normal =>
    obtain ⟨j, hj, hf', hs'⟩ := hq
    have hI' : ∃ n, I a' w' n := ⟨_, j, rfl, hf', hs'⟩
    refine ⟨hI', ?_⟩
    have hm' : m a' w' = Classical.choose (hex a' w' hI') := by simp only [m]; rw [dif_pos hI']
    rw [hm, hm', ← hi]
    exact Nat.lt_of_le_of_lt ((Classical.choose_spec (hex a' w' hI')).2 _ ⟨j, rfl, hf', hs'⟩) hj
  | exit id => exact hq
  | goto l => exact hq
  | ret => exact hq
  | panic ch => exact hq
  | outgrown => exact hq

/-- A loop whose states are some of ι's. -/
theorem tr_loopP {ι : Type} (G : ι → Frm) (M : ι → List Res) (p : ι → Prop) (μ : ι → Nat) (i0 : ι) (hF : Cov N F (G i0)) (hL : ∀ w, St w0 w L → St w0 w (M i0)) (hp : p i0)
    (h : ∀ i, p i → TR P N w0 (Exit.then (Back N w0 G M (fun j => p j ∧ μ j < μ i)) Q) c (G i) (M i)) : TR P N w0 Q (.loop c) F L :=
  tr_loop (ι := { i : ι // p i }) (fun q => G q.1) (fun q => M q.1) (fun q => μ q.1) ⟨i0, hp⟩ hF hL (fun q a w h1 h2 => wp_mono (h q.1 q.2 a w h1 h2) (fun e a' w' hq => by
    cases e with
    | normal =>
      obtain ⟨j, ⟨hj, hm⟩, hf, hs⟩ := hq
      exact ⟨⟨j, hj⟩, hm, hf, hs⟩
    | exit id => exact hq
    | goto l => exact hq
    | ret => exact hq
    | panic ch => exact hq
    | outgrown => exact hq))

def Back1 {α1 : Type} (N : Nat) (w0 : World) (G : α1 → List (Nat × Value)) (W : List Nat) (T : Frm) (B : List Res) (D : Nat) (M : α1 → List (Nat × Res)) (p : α1 → Prop) (a : Act) (w : World) : Prop := Back N w0 (fun q : α1 => fputs (G q) (.drop W T)) (fun q => lsets (ldrop D B) (M q)) (fun q => p q) a w
theorem tx_back1 {α1 : Type} {G : α1 → List (Nat × Value)} {W : List Nat} {T : Frm} {M : α1 → List (Nat × Res)} {D : Nat} {B : List Res} {p : α1 → Prop} (x1 : α1) (hF : Cov N F (fputs (G x1) .nil)) (hO : Over W T F) (hL : ∀ w, St w0 w L → St w0 w (lsets (ldrop D B) (M x1))) (hp : p x1) : TX N w0 (Exit.then (Back1 N w0 G W T B D M p) Q) .normal F L := fun _ w h1 h2 => ⟨x1, hp, h1.cov (cov_head hF hO), hL w h2⟩
/-- A loop, at whose head the slots of G are as G says, and all that it does not write (W) as before. -/
theorem tr_loop1 {α1 : Type} (W : List Nat) (G : α1 → List (Nat × Value)) (D : Nat) (M : α1 → List (Nat × Res)) (p : α1 → Prop) (μ : α1 → Nat) (x1 : α1) (hF : Cov N F (fputs (G x1) .nil)) (hL : ∀ w, St w0 w L → St w0 w (lsets (ldrop D L) (M x1))) (hp : p x1)
    (h : ∀ x1, p x1 → TR P N w0 (Exit.then (Back1 N w0 G W F L D M (fun y1 => p y1 ∧ μ y1 < μ x1)) Q) c (fputs (G x1) (.drop W F)) (lsets (ldrop D L) (M x1))) : TR P N w0 Q (.loop c) F L :=
  tr_loopP (fun q : α1 => fputs (G q) (.drop W F)) (fun q => lsets (ldrop D L) (M q)) (fun q => p q) (fun q => μ q) x1 (cov_head hF over_nil) hL hp (fun q hq => h q hq)
def Back2 {α1 α2 : Type} (N : Nat) (w0 : World) (G : α1 → α2 → List (Nat × Value)) (W : List Nat) (T : Frm) (B : List Res) (D : Nat) (M : α1 → α2 → List (Nat × Res)) (p : α1 → α2 → Prop) (a : Act) (w : World) : Prop := Back N w0 (fun q : α1 × α2 => fputs (G (q.1) (q.2)) (.drop W T)) (fun q => lsets (ldrop D B) (M (q.1) (q.2))) (fun q => p (q.1) (q.2)) a w
theorem tx_back2 {α1 α2 : Type} {G : α1 → α2 → List (Nat × Value)} {W : List Nat} {T : Frm} {M : α1 → α2 → List (Nat × Res)} {D : Nat} {B : List Res} {p : α1 → α2 → Prop} (x1 : α1) (x2 : α2) (hF : Cov N F (fputs (G x1 x2) .nil)) (hO : Over W T F) (hL : ∀ w, St w0 w L → St w0 w (lsets (ldrop D B) (M x1 x2))) (hp : p x1 x2) : TX N w0 (Exit.then (Back2 N w0 G W T B D M p) Q) .normal F L := fun _ w h1 h2 => ⟨(x1, x2), hp, h1.cov (cov_head hF hO), hL w h2⟩
/-- A loop, at whose head the slots of G are as G says, and all that it does not write (W) as before. -/
theorem tr_loop2 {α1 α2 : Type} (W : List Nat) (G : α1 → α2 → List (Nat × Value)) (D : Nat) (M : α1 → α2 → List (Nat × Res)) (p : α1 → α2 → Prop) (μ : α1 → α2 → Nat) (x1 : α1) (x2 : α2) (hF : Cov N F (fputs (G x1 x2) .nil)) (hL : ∀ w, St w0 w L → St w0 w (lsets (ldrop D L) (M x1 x2))) (hp : p x1 x2)
    (h : ∀ x1 x2, p x1 x2 → TR P N w0 (Exit.then (Back2 N w0 G W F L D M (fun y1 y2 => p y1 y2 ∧ μ y1 y2 < μ x1 x2)) Q) c (fputs (G x1 x2) (.drop W F)) (lsets (ldrop D L) (M x1 x2))) : TR P N w0 Q (.loop c) F L :=
  tr_loopP (fun q : α1 × α2 => fputs (G (q.1) (q.2)) (.drop W F)) (fun q => lsets (ldrop D L) (M (q.1) (q.2))) (fun q => p (q.1) (q.2)) (fun q => μ (q.1) (q.2)) (x1, x2) (cov_head hF over_nil) hL hp (fun q hq => h (q.1) (q.2) hq)
def Back3 {α1 α2 α3 : Type} (N : Nat) (w0 : World) (G : α1 → α2 → α3 → List (Nat × Value)) (W : List Nat) (T : Frm) (B : List Res) (D : Nat) (M : α1 → α2 → α3 → List (Nat × Res)) (p : α1 → α2 → α3 → Prop) (a : Act) (w : World) : Prop := Back N w0 (fun q : α1 × α2 × α3 => fputs (G (q.1) (q.2.1) (q.2.2)) (.drop W T)) (fun q => lsets (ldrop D B) (M (q.1) (q.2.1) (q.2.2))) (fun q => p (q.1) (q.2.1) (q.2.2)) a w
theorem tx_back3 {α1 α2 α3 : Type} {G : α1 → α2 → α3 → List (Nat × Value)} {W : List Nat} {T : Frm} {M : α1 → α2 → α3 → List (Nat × Res)} {D : Nat} {B : List Res} {p : α1 → α2 → α3 → Prop} (x1 : α1) (x2 : α2) (x3 : α3) (hF : Cov N F (fputs (G x1 x2 x3) .nil)) (hO : Over W T F) (hL : ∀ w, St w0 w L → St w0 w (lsets (ldrop D B) (M x1 x2 x3))) (hp : p x1 x2 x3) : TX N w0 (Exit.then (Back3 N w0 G W T B D M p) Q) .normal F L := fun _ w h1 h2 => ⟨(x1, x2, x3), hp, h1.cov (cov_head hF hO), hL w h2⟩
/-- A loop, at whose head the slots of G are as G says, and all that it does not write (W) as before. -/
theorem tr_loop3 {α1 α2 α3 : Type} (W : List Nat) (G : α1 → α2 → α3 → List (Nat × Value)) (D : Nat) (M : α1 → α2 → α3 → List (Nat × Res)) (p : α1 → α2 → α3 → Prop) (μ : α1 → α2 → α3 → Nat) (x1 : α1) (x2 : α2) (x3 : α3) (hF : Cov N F (fputs (G x1 x2 x3) .nil)) (hL : ∀ w, St w0 w L → St w0 w (lsets (ldrop D L) (M x1 x2 x3))) (hp : p x1 x2 x3)
    (h : ∀ x1 x2 x3, p x1 x2 x3 → TR P N w0 (Exit.then (Back3 N w0 G W F L D M (fun y1 y2 y3 => p y1 y2 y3 ∧ μ y1 y2 y3 < μ x1 x2 x3)) Q) c (fputs (G x1 x2 x3) (.drop W F)) (lsets (ldrop D L) (M x1 x2 x3))) : TR P N w0 Q (.loop c) F L :=
  tr_loopP (fun q : α1 × α2 × α3 => fputs (G (q.1) (q.2.1) (q.2.2)) (.drop W F)) (fun q => lsets (ldrop D L) (M (q.1) (q.2.1) (q.2.2))) (fun q => p (q.1) (q.2.1) (q.2.2)) (fun q => μ (q.1) (q.2.1) (q.2.2)) (x1, x2, x3) (cov_head hF over_nil) hL hp (fun q hq => h (q.1) (q.2.1) (q.2.2) hq)
def Back4 {α1 α2 α3 α4 : Type} (N : Nat) (w0 : World) (G : α1 → α2 → α3 → α4 → List (Nat × Value)) (W : List Nat) (T : Frm) (B : List Res) (D : Nat) (M : α1 → α2 → α3 → α4 → List (Nat × Res)) (p : α1 → α2 → α3 → α4 → Prop) (a : Act) (w : World) : Prop := Back N w0 (fun q : α1 × α2 × α3 × α4 => fputs (G (q.1) (q.2.1) (q.2.2.1) (q.2.2.2)) (.drop W T)) (fun q => lsets (ldrop D B) (M (q.1) (q.2.1) (q.2.2.1) (q.2.2.2))) (fun q => p (q.1) (q.2.1) (q.2.2.1) (q.2.2.2)) a w
theorem tx_back4 {α1 α2 α3 α4 : Type} {G : α1 → α2 → α3 → α4 → List (Nat × Value)} {W : List Nat} {T : Frm} {M : α1 → α2 → α3 → α4 → List (Nat × Res)} {D : Nat} {B : List Res} {p : α1 → α2 → α3 → α4 → Prop} (x1 : α1) (x2 : α2) (x3 : α3) (x4 : α4) (hF : Cov N F (fputs (G x1 x2 x3 x4) .nil)) (hO : Over W T F) (hL : ∀ w, St w0 w L → St w0 w (lsets (ldrop D B) (M x1 x2 x3 x4))) (hp : p x1 x2 x3 x4) : TX N w0 (Exit.then (Back4 N w0 G W T B D M p) Q) .normal F L := fun _ w h1 h2 => ⟨(x1, x2, x3, x4), hp, h1.cov (cov_head hF hO), hL w h2⟩
/-- A loop, at whose head the slots of G are as G says, and all that it does not write (W) as before. -/
theorem tr_loop4 {α1 α2 α3 α4 : Type} (W : List Nat) (G : α1 → α2 → α3 → α4 → List (Nat × Value)) (D : Nat) (M : α1 → α2 → α3 → α4 → List (Nat × Res)) (p : α1 → α2 → α3 → α4 → Prop) (μ : α1 → α2 → α3 → α4 → Nat) (x1 : α1) (x2 : α2) (x3 : α3) (x4 : α4) (hF : Cov N F (fputs (G x1 x2 x3 x4) .nil)) (hL : ∀ w, St w0 w L → St w0 w (lsets (ldrop D L) (M x1 x2 x3 x4))) (hp : p x1 x2 x3 x4)
    (h : ∀ x1 x2 x3 x4, p x1 x2 x3 x4 → TR P N w0 (Exit.then (Back4 N w0 G W F L D M (fun y1 y2 y3 y4 => p y1 y2 y3 y4 ∧ μ y1 y2 y3 y4 < μ x1 x2 x3 x4)) Q) c (fputs (G x1 x2 x3 x4) (.drop W F)) (lsets (ldrop D L) (M x1 x2 x3 x4))) : TR P N w0 Q (.loop c) F L :=
  tr_loopP (fun q : α1 × α2 × α3 × α4 => fputs (G (q.1) (q.2.1) (q.2.2.1) (q.2.2.2)) (.drop W F)) (fun q => lsets (ldrop D L) (M (q.1) (q.2.1) (q.2.2.1) (q.2.2.2))) (fun q => p (q.1) (q.2.1) (q.2.2.1) (q.2.2.2)) (fun q => μ (q.1) (q.2.1) (q.2.2.1) (q.2.2.2)) (x1, x2, x3, x4) (cov_head hF over_nil) hL hp (fun q hq => h (q.1) (q.2.1) (q.2.2.1) (q.2.2.2) hq)
def Back5 {α1 α2 α3 α4 α5 : Type} (N : Nat) (w0 : World) (G : α1 → α2 → α3 → α4 → α5 → List (Nat × Value)) (W : List Nat) (T : Frm) (B : List Res) (D : Nat) (M : α1 → α2 → α3 → α4 → α5 → List (Nat × Res)) (p : α1 → α2 → α3 → α4 → α5 → Prop) (a : Act) (w : World) : Prop := Back N w0 (fun q : α1 × α2 × α3 × α4 × α5 => fputs (G (q.1) (q.2.1) (q.2.2.1) (q.2.2.2.1) (q.2.2.2.2)) (.drop W T)) (fun q => lsets (ldrop D B) (M (q.1) (q.2.1) (q.2.2.1) (q.2.2.2.1) (q.2.2.2.2))) (fun q => p (q.1) (q.2.1) (q.2.2.1) (q.2.2.2.1) (q.2.2.2.2)) a w
theorem tx_back5 {α1 α2 α3 α4 α5 : Type} {G : α1 → α2 → α3 → α4 → α5 → List (Nat × Value)} {W : List Nat} {T : Frm} {M : α1 → α2 → α3 → α4 → α5 → List (Nat × Res)} {D : Nat} {B : List Res} {p : α1 → α2 → α3 → α4 → α5 → Prop} (x1 : α1) (x2 : α2) (x3 : α3) (x4 : α4) (x5 : α5) (hF : Cov N F (fputs (G x1 x2 x3 x4 x5) .nil)) (hO : Over W T F) (hL : ∀ w, St w0 w L → St w0 w (lsets (ldrop D B) (M x1 x2 x3 x4 x5))) (hp : p x1 x2 x3 x4 x5) : TX N w0 (Exit.then (Back5 N w0 G W T B D M p) Q) .normal F L := fun _ w h1 h2 => ⟨(x1, x2, x3, x4, x5), hp, h1.cov (cov_head hF hO), hL w h2⟩
/-- A loop, at whose head the slots of G are as G says, and all that it does not write (W) as before. -/
theorem tr_loop5 {α1 α2 α3 α4 α5 : Type} (W : List Nat) (G : α1 → α2 → α3 → α4 → α5 → List (Nat × Value)) (D : Nat) (M : α1 → α2 → α3 → α4 → α5 → List (Nat × Res)) (p : α1 → α2 → α3 → α4 → α5 → Prop) (μ : α1 → α2 → α3 → α4 → α5 → Nat) (x1 : α1) (x2 : α2) (x3 : α3) (x4 : α4) (x5 : α5) (hF : Cov N F (fputs (G x1 x2 x3 x4 x5) .nil)) (hL : ∀ w, St w0 w L → St w0 w (lsets (ldrop D L) (M x1 x2 x3 x4 x5))) (hp : p x1 x2 x3 x4 x5)
    (h : ∀ x1 x2 x3 x4 x5, p x1 x2 x3 x4 x5 → TR P N w0 (Exit.then (Back5 N w0 G W F L D M (fun y1 y2 y3 y4 y5 => p y1 y2 y3 y4 y5 ∧ μ y1 y2 y3 y4 y5 < μ x1 x2 x3 x4 x5)) Q) c (fputs (G x1 x2 x3 x4 x5) (.drop W F)) (lsets (ldrop D L) (M x1 x2 x3 x4 x5))) : TR P N w0 Q (.loop c) F L :=
  tr_loopP (fun q : α1 × α2 × α3 × α4 × α5 => fputs (G (q.1) (q.2.1) (q.2.2.1) (q.2.2.2.1) (q.2.2.2.2)) (.drop W F)) (fun q => lsets (ldrop D L) (M (q.1) (q.2.1) (q.2.2.1) (q.2.2.2.1) (q.2.2.2.2))) (fun q => p (q.1) (q.2.1) (q.2.2.1) (q.2.2.2.1) (q.2.2.2.2)) (fun q => μ (q.1) (q.2.1) (q.2.2.1) (q.2.2.2.1) (q.2.2.2.2)) (x1, x2, x3, x4, x5) (cov_head hF over_nil) hL hp (fun q hq => h (q.1) (q.2.1) (q.2.2.1) (q.2.2.2.1) (q.2.2.2.2) hq)
def Back10 {α1 α2 α3 α4 α5 α6 α7 α8 α9 α10 : Type} (N : Nat) (w0 : World) (G : α1 → α2 → α3 → α4 → α5 → α6 → α7 → α8 → α9 → α10 → List (Nat × Value)) (W : List Nat) (T : Frm) (B : List Res) (D : Nat) (M : α1 → α2 → α3 → α4 → α5 → α6 → α7 → α8 → α9 → α10 → List (Nat × Res)) (p : α1 → α2 → α3 → α4 → α5 → α6 → α7 → α8 → α9 → α10 → Prop) (a : Act) (w : World) : Prop := Back N w0 (fun q : α1 × α2 × α3 × α4 × α5 × α6 × α7 × α8 × α9 × α10 => fputs (G (q.1) (q.2.1) (q.2.2.1) (q.2.2.2.1) (q.2.2.2.2.1) (q.2.2.2.2.2.1) (q.2.2.2.2.2.2.1) (q.2.2.2.2.2.2.2.1) (q.2.2.2.2.2.2.2.2.1) (q.2.2.2.2.2.2.2.2.2)) (.drop W T)) (fun q => lsets (ldrop D B) (M (q.1) (q.2.1) (q.2.2.1) (q.2.2.2.1) (q.2.2.2.2.1) (q.2.2.2.2.2.1) (q.2.2.2.2.2.2.1) (q.2.2.2.2.2.2.2.1) (q.2.2.2.2.2.2.2.2.1) (q.2.2.2.2.2.2.2.2.2))) (fun q => p (q.1) (q.2.1) (q.2.2.1) (q.2.2.2.1) (q.2.2.2.2.1) (q.2.2.2.2.2.1) (q.2.2.2.2.2.2.1) (q.2.2.2.2.2.2.2.1) (q.2.2.2.2.2.2.2.2.1) (q.2.2.2.2.2.2.2.2.2)) a w
theorem tx_back10 {α1 α2 α3 α4 α5 α6 α7 α8 α9 α10 : Type} {G : α1 → α2 → α3 → α4 → α5 → α6 → α7 → α8 → α9 → α10 → List (Nat × Value)} {W : List Nat} {T : Frm} {M : α1 → α2 → α3 → α4 → α5 → α6 → α7 → α8 → α9 → α10 → List (Nat × Res)} {D : Nat} {B : List Res} {p : α1 → α2 → α3 → α4 → α5 → α6 → α7 → α8 → α9 → α10 → Prop} (x1 : α1) (x2 : α2) (x3 : α3) (x4 : α4) (x5 : α5) (x6 : α6) (x7 : α7) (x8 : α8) (x9 : α9) (x10 : α10) (hF : Cov N F (fputs (G x1 x2 x3 x4 x5 x6 x7 x8 x9 x10) .nil)) (hO : Over W T F) (hL : ∀ w, St w0 w L → St w0 w (lsets (ldrop D B) (M x1 x2 x3 x4 x5 x6 x7 x8 x9 x10))) (hp : p x1 x2 x3 x4 x5 x6 x7 x8 x9 x10) : TX N w0 (Exit.then (Back10 N w0 G W T B D M p) Q) .normal F L := fun _ w h1 h2 => ⟨(x1, x2, x3, x4, x5, x6, x7, x8, x9, x10), hp, h1.cov (cov_head hF hO), hL w h2⟩
theorem tr_loop10 {α1 α2 α3 α4 α5 α6 α7 α8 α9 α10 : Type} (W : List Nat) (G : α1 → α2 → α3 → α4 → α5 → α6 → α7 → α8 → α9 → α10 → List (Nat × Value)) (D : Nat) (M : α1 → α2 → α3 → α4 → α5 → α6 → α7 → α8 → α9 → α10 → List (Nat × Res)) (p : α1 → α2 → α3 → α4 → α5 → α6 → α7 → α8 → α9 → α10 → Prop) (μ : α1 → α2 → α3 → α4 → α5 → α6 → α7 → α8 → α9 → α10 → Nat) (x1 : α1) (x2 : α2) (x3 : α3) (x4 : α4) (x5 : α5) (x6 : α6) (x7 : α7) (x8 : α8) (x9 : α9) (x10 : α10) (hF : Cov N F (fputs (G x1 x2 x3 x4 x5 x6 x7 x8 x9 x10) .nil)) (hL : ∀ w, St w0 w L → St w0 w (lsets (ldrop D L) (M x1 x2 x3 x4 x5 x6 x7 x8 x9 x10))) (hp : p x1 x2 x3 x4 x5 x6 x7 x8 x9 x10)
    (h : ∀ x1 x2 x3 x4 x5 x6 x7 x8 x9 x10, p x1 x2 x3 x4 x5 x6 x7 x8 x9 x10 → TR P N w0 (Exit.then (Back10 N w0 G W F L D M (fun y1 y2 y3 y4 y5 y6 y7 y8 y9 y10 => p y1 y2 y3 y4 y5 y6 y7 y8 y9 y10 ∧ μ y1 y2 y3 y4 y5 y6 y7 y8 y9 y10 < μ x1 x2 x3 x4 x5 x6 x7 x8 x9 x10)) Q) c (fputs (G x1 x2 x3 x4 x5 x6 x7 x8 x9 x10) (.drop W F)) (lsets (ldrop D L) (M x1 x2 x3 x4 x5 x6 x7 x8 x9 x10))) : TR P N w0 Q (.loop c) F L :=
  tr_loopP (fun q : α1 × α2 × α3 × α4 × α5 × α6 × α7 × α8 × α9 × α10 => fputs (G (q.1) (q.2.1) (q.2.2.1) (q.2.2.2.1) (q.2.2.2.2.1) (q.2.2.2.2.2.1) (q.2.2.2.2.2.2.1) (q.2.2.2.2.2.2.2.1) (q.2.2.2.2.2.2.2.2.1) (q.2.2.2.2.2.2.2.2.2)) (.drop W F)) (fun q => lsets (ldrop D L) (M (q.1) (q.2.1) (q.2.2.1) (q.2.2.2.1) (q.2.2.2.2.1) (q.2.2.2.2.2.1) (q.2.2.2.2.2.2.1) (q.2.2.2.2.2.2.2.1) (q.2.2.2.2.2.2.2.2.1) (q.2.2.2.2.2.2.2.2.2))) (fun q => p (q.1) (q.2.1) (q.2.2.1) (q.2.2.2.1) (q.2.2.2.2.1) (q.2.2.2.2.2.1) (q.2.2.2.2.2.2.1) (q.2.2.2.2.2.2.2.1) (q.2.2.2.2.2.2.2.2.1) (q.2.2.2.2.2.2.2.2.2)) (fun q => μ (q.1) (q.2.1) (q.2.2.1) (q.2.2.2.1) (q.2.2.2.2.1) (q.2.2.2.2.2.1) (q.2.2.2.2.2.2.1) (q.2.2.2.2.2.2.2.1) (q.2.2.2.2.2.2.2.2.1) (q.2.2.2.2.2.2.2.2.2)) (x1, x2, x3, x4, x5, x6, x7, x8, x9, x10) (cov_head hF over_nil) hL hp (fun q hq => h (q.1) (q.2.1) (q.2.2.1) (q.2.2.2.1) (q.2.2.2.2.1) (q.2.2.2.2.2.1) (q.2.2.2.2.2.2.1) (q.2.2.2.2.2.2.2.1) (q.2.2.2.2.2.2.2.2.1) (q.2.2.2.2.2.2.2.2.2) hq)
/-- The end. -/
theorem tx_ret {fn : Func} {R : Ending → World → Prop} (hr : ∀ a w, Fr N a F → St w0 w L → (results fn a.tmps).run P w = .ok v w) (h : ∀ w, St w0 w L → R (.returned v) w) : TX N w0 (bodyPost P fn R) .ret F L := fun a w hF hS =>
  ⟨hF.defers, v, hr a w hF hS, h w hS⟩
/-- One result in a slot, or what lies in a block of the call's own. -/
def rvSem (tmps : Array Value) : ResultVar → Sem Value
  | .tmp t => pure (tmps.getD t undef)
  | .cell b t => do loadVar t (← asAddr (tmps.getD b undef))
theorem results_eq (fn : Func) (tmps : Array Value) : results fn tmps = (do let vs ← fn.results.mapM (rvSem tmps); pure (if h : vs.size = 1 then vs[0] else .tuple vs)) := rfl
def ROK (P : Program) (N : Nat) (w0 : World) (F : Frm) (L : List Res) (r : ResultVar) (v : Value) : Prop :=
  ∀ a w, Fr N a F → St w0 w L → (rvSem a.tmps r).run P w = .ok v w
theorem rok_t {t : Nat} (h : fget N F t = some v) : ROK P N w0 F L (.tmp t) v := fun a w hF hS => by
  simp [rvSem, hF.at_ t v h]
theorem res1 {fn : Func} {r1 : ResultVar} {v1 : Value} (hf : fn.results = #[r1]) (h1 : ROK P N w0 F L r1 v1) : ∀ a w, Fr N a F → St w0 w L → (results fn a.tmps).run P w = .ok v1 w := fun a w hF hS => by
  have g1 := h1 a w hF hS
  simp [results_eq, hf, g1, Result.andThen]
theorem res2 {fn : Func} {r1 r2 : ResultVar} {v1 v2 : Value} (hf : fn.results = #[r1, r2]) (h1 : ROK P N w0 F L r1 v1) (h2 : ROK P N w0 F L r2 v2) : ∀ a w, Fr N a F → St w0 w L → (results fn a.tmps).run P w = .ok (.tuple #[v1, v2]) w := fun a w hF hS => by
  have g1 := h1 a w hF hS
  have g2 := h2 a w hF hS
  simp [results_eq, hf, g1, g2, Result.andThen]
theorem res3 {fn : Func} {r1 r2 r3 : ResultVar} {v1 v2 v3 : Value} (hf : fn.results = #[r1, r2, r3]) (h1 : ROK P N w0 F L r1 v1) (h2 : ROK P N w0 F L r2 v2) (h3 : ROK P N w0 F L r3 v3) : ∀ a w, Fr N a F → St w0 w L → (results fn a.tmps).run P w = .ok (.tuple #[v1, v2, v3]) w := fun a w hF hS => by
  have g1 := h1 a w hF hS
  have g2 := h2 a w hF hS
  have g3 := h3 a w hF hS
  simp [results_eq, hf, g1, g2, g3, Result.andThen]
theorem res4 {fn : Func} {r1 r2 r3 r4 : ResultVar} {v1 v2 v3 v4 : Value} (hf : fn.results = #[r1, r2, r3, r4]) (h1 : ROK P N w0 F L r1 v1) (h2 : ROK P N w0 F L r2 v2) (h3 : ROK P N w0 F L r3 v3) (h4 : ROK P N w0 F L r4 v4) : ∀ a w, Fr N a F → St w0 w L → (results fn a.tmps).run P w = .ok (.tuple #[v1, v2, v3, v4]) w := fun a w hF hS => by
  have g1 := h1 a w hF hS
  have g2 := h2 a w hF hS
  have g3 := h3 a w hF hS
  have g4 := h4 a w hF hS
  simp [results_eq, hf, g1, g2, g3, g4, Result.andThen]
end

/-- The start: the arguments lie in the first slots. -/
def ins : Nat → List Value → Frm
  | _, [] => .nil
  | k, v :: l => .put k v (ins (k + 1) l)
theorem fget_ins {N i : Nat} {u : Value} : ∀ (l : List Value) (k : Nat), fget N (ins k l) i = some u → k ≤ i ∧ l[i - k]? = some u
  | [], k, h => by simp [ins, fget, fgo] at h
  | v :: l, k, h => by
    simp only [ins, fget_cons] at h
    split at h
    · rename_i e
      subst e
      split at h
      · simp only [Option.some.injEq] at h
        subst h
        exact ⟨Nat.le_refl _, by simp⟩
      · cases h
    · have := fget_ins l (k + 1) h
      refine ⟨by omega, ?_⟩
      rw [show i - k = (i - (k + 1)) + 1 by omega]
      simpa using this.2
theorem calls_tr {P : Program} {f : FuncId} {fn : Func} {c : Code} {l : List Value} {w0 w : World} {R : Ending → World → Prop} {L : List Res} {N : Nat} (hf : P.funcs[f]? = some fn) (hn : fn.ntmps = N) (hb : fn.body = some c) (hl : Nat.ble l.length N = true) (hS : St w0 w L)
    (h : TR P N w0 (bodyPost P fn R) c (ins 0 l) L) : Calls P f l.toArray w R := by
  have hl' := Nat.le_of_ble_eq_true hl
  refine calls_of_wp hf hb (h _ _ ⟨rfl, by simp [hn]; omega, fun i v hv => ?_⟩ hS)
  have := (fget_ins l 0 hv).2
  simp only [Nat.sub_zero] at this
  have hi : i < l.length := (List.getElem?_eq_some_iff.1 this).1
  simp only [List.size_toArray]
  rw [Array.getElem?_append_left (by simpa using hi)]
  simpa using this
end Go.Proofs.YtoibebmhfcjpfaaGreatDoor.E

namespace Go.Proofs.YtoibebmhfcjpfaaGreatDoor.E
open Go.RowKit

/-- The address of cell j of a slice that begins at A. -/
def elt (A : Option Addr) (j : Nat) : Value := match A with | some a => .pointer (some ⟨a.block, a.off + j, none⟩) | none => .pointer none

section
variable {P : Program} {N : Nat} {w0 : World} {F : Frm} {L : List Res} {d : Option Tmp} {x y z : Operand} {v u : Value} {ty t t' : TypeId} {pos : String} {af : Array Edge} {gd : Option (Nat × Bool)} {k : IntKind} {a b : Int}

/-- What a slice reads as. -/
def RdL (w0 : World) (L : List Res) (A : Option Addr) (xs : List Value) : Prop := ∀ w, St w0 w L → Rd w A xs
theorem rdl_out {A : Option Addr} {xs : List Value} (h : Rd w0 A xs) : RdL w0 L A xs := fun _ hS => h.below hS.below
theorem rdl_vec {A : Option Addr} {xs : List Value} {e s m c n : Nat} (i : Nat) (h : lget L i = some (vec e s (.slice A m c) n xs)) : RdL w0 L A xs := fun _ hS => (OwnV.rd (hS.holds i _ h)).2.2

theorem y_move (hx : FE N F x v) : Yld P N w0 F L ⟨d, .move x, ty, pos, af, gd⟩ v := fun a w hF _ => by simp [execOp, hx a hF]
theorem y_assign (hx : FE N F x v) : Yld P N w0 F L ⟨d, .assign x, ty, pos, af, gd⟩ v := fun a w hF _ => by simp [execOp, hx a hF]
theorem y_pickt {c : Operand} (hc : FE N F c (.bool true)) (hx : FE N F x v) : Yld P N w0 F L ⟨d, .pick c x y, ty, pos, af, gd⟩ v := fun a w hF _ => by
  simp [execOp, hc a hF, hx a hF, asBool]
theorem y_pickf {c : Operand} (hc : FE N F c (.bool false)) (hy : FE N F y v) : Yld P N w0 F L ⟨d, .pick c x y, ty, pos, af, gd⟩ v := fun a w hF _ => by
  simp [execOp, hc a hF, hy a hF, asBool]

theorem y_addk (hx : FE N F x (.int k a)) (hy : FE N F y (.int k b)) : Yld P N w0 F L ⟨d, .binOp .add t x y t', ty, pos, af, gd⟩ (.int k (k.wrap (a + b))) := fun c w hF _ => by
  simp [execOp, hx c hF, hy c hF, eqGuard, binOp, Op.intArith]
theorem y_subk (hx : FE N F x (.int k a)) (hy : FE N F y (.int k b)) : Yld P N w0 F L ⟨d, .binOp .sub t x y t', ty, pos, af, gd⟩ (.int k (k.wrap (a - b))) := fun c w hF _ => by
  simp [execOp, hx c hF, hy c hF, eqGuard, binOp, Op.intArith]
theorem y_mulk (hx : FE N F x (.int k a)) (hy : FE N F y (.int k b)) : Yld P N w0 F L ⟨d, .binOp .mul t x y t', ty, pos, af, gd⟩ (.int k (k.wrap (a * b))) := fun c w hF _ => by
  simp [execOp, hx c hF, hy c hF, eqGuard, binOp, Op.intArith]
theorem y_add (hx : FE N F x (.int .i64 a)) (hy : FE N F y (.int .i64 b)) (h : -9223372036854775808 ≤ a + b ∧ a + b ≤ 9223372036854775807) : Yld P N w0 F L ⟨d, .binOp .add t x y t', ty, pos, af, gd⟩ (.int .i64 (a + b)) := by
  have := y_addk (P := P) (w0 := w0) (L := L) (d := d) (t := t) (t' := t') (ty := ty) (pos := pos) (af := af) (gd := gd) hx hy
  rwa [IntWalk.i64_in _ h] at this
theorem y_sub (hx : FE N F x (.int .i64 a)) (hy : FE N F y (.int .i64 b)) (h : -9223372036854775808 ≤ a - b ∧ a - b ≤ 9223372036854775807) : Yld P N w0 F L ⟨d, .binOp .sub t x y t', ty, pos, af, gd⟩ (.int .i64 (a - b)) := by
  have := y_subk (P := P) (w0 := w0) (L := L) (d := d) (t := t) (t' := t') (ty := ty) (pos := pos) (af := af) (gd := gd) hx hy
  rwa [IntWalk.i64_in _ h] at this
theorem y_mul (hx : FE N F x (.int .i64 a)) (hy : FE N F y (.int .i64 b)) (h : -9223372036854775808 ≤ a * b ∧ a * b ≤ 9223372036854775807) : Yld P N w0 F L ⟨d, .binOp .mul t x y t', ty, pos, af, gd⟩ (.int .i64 (a * b)) := by
  have := y_mulk (P := P) (w0 := w0) (L := L) (d := d) (t := t) (t' := t') (ty := ty) (pos := pos) (af := af) (gd := gd) hx hy
  rwa [IntWalk.i64_in _ h] at this
/-- x + 1 of a count. -/
theorem y_inc {n : Nat} (hx : FE N F x (.int .i64 (n : Int))) (hy : FE N F y (.int .i64 1)) (h : n < 9223372036854775807) : Yld P N w0 F L ⟨d, .binOp .add t x y t', ty, pos, af, gd⟩ (.int .i64 ((n + 1 : Nat) : Int)) := by
  have := y_add (P := P) (w0 := w0) (L := L) (d := d) (t := t) (t' := t') (ty := ty) (pos := pos) (af := af) (gd := gd) hx hy (by omega)
  simpa using this
theorem y_bits {op : BinOp} {r : Int} (hop : op = .and ∨ op = .or ∨ op = .xor ∨ op = .andNot) (hx : FE N F x (.int k a)) (hy : FE N F y (.int k b)) (h : ∀ w, (Op.intBits op k a b).run P w = .ok (.int k r) w) : Yld P N w0 F L ⟨d, .binOp op t x y t', ty, pos, af, gd⟩ (.int k r) := fun c w hF _ => by
  rcases hop with rfl | rfl | rfl | rfl <;> simp [execOp, hx c hF, hy c hF, eqGuard, binOp, h w]
theorem y_shr {k' : IntKind} (hx : FE N F x (.int k a)) (hy : FE N F y (.int k' b)) (h : 0 ≤ b) : Yld P N w0 F L ⟨d, .binOp .shr t x y t', ty, pos, af, gd⟩ (.int k (a.fdiv (2 ^ (min b.toNat k.bits)))) := fun c w hF _ => by
  have : ¬ b < 0 := by omega
  simp [execOp, hx c hF, hy c hF, eqGuard, binOp, Op.shift, this]

theorem y_eq (hx : FE N F x (.int k a)) (hy : FE N F y (.int k b)) : Yld P N w0 F L ⟨d, .binOp .eql t x y t', ty, pos, af, gd⟩ (.bool (decide (a = b))) := fun c w hF _ => by
  have : (a == b) = decide (a = b) := by by_cases h : a = b <;> simp [h]
  simp [execOp, hx c hF, hy c hF, eqGuard, binOp, Op.intCmp, this]
theorem y_neq (hx : FE N F x (.int k a)) (hy : FE N F y (.int k b)) : Yld P N w0 F L ⟨d, .binOp .neq t x y t', ty, pos, af, gd⟩ (.bool (decide (¬ a = b))) := fun c w hF _ => by
  have : (a != b) = decide (¬ a = b) := by by_cases h : a = b <;> simp [h]
  simp [execOp, hx c hF, hy c hF, eqGuard, binOp, Op.intCmp, this]
theorem y_lss (hx : FE N F x (.int k a)) (hy : FE N F y (.int k b)) : Yld P N w0 F L ⟨d, .binOp .lss t x y t', ty, pos, af, gd⟩ (.bool (decide (a < b))) := fun c w hF _ => by
  simp [execOp, hx c hF, hy c hF, eqGuard, binOp, Op.intCmp]
theorem y_leq (hx : FE N F x (.int k a)) (hy : FE N F y (.int k b)) : Yld P N w0 F L ⟨d, .binOp .leq t x y t', ty, pos, af, gd⟩ (.bool (decide (a ≤ b))) := fun c w hF _ => by
  simp [execOp, hx c hF, hy c hF, eqGuard, binOp, Op.intCmp]
theorem y_gtr (hx : FE N F x (.int k a)) (hy : FE N F y (.int k b)) : Yld P N w0 F L ⟨d, .binOp .gtr t x y t', ty, pos, af, gd⟩ (.bool (decide (b < a))) := fun c w hF _ => by
  simp [execOp, hx c hF, hy c hF, eqGuard, binOp, Op.intCmp]
theorem y_geq (hx : FE N F x (.int k a)) (hy : FE N F y (.int k b)) : Yld P N w0 F L ⟨d, .binOp .geq t x y t', ty, pos, af, gd⟩ (.bool (decide (b ≤ a))) := fun c w hF _ => by
  simp [execOp, hx c hF, hy c hF, eqGuard, binOp, Op.intCmp]
theorem y_not {p : Bool} (hx : FE N F x (.bool p)) : Yld P N w0 F L ⟨d, .unOp .not t x, ty, pos, af, gd⟩ (.bool (!p)) := fun c w hF _ => by
  simp [execOp, hx c hF, Op.unary]
theorem y_conv {k' : IntKind} {ds : TypeDesc} (hs : P.underlying t = some ds) (hd : P.underlying t' = some (.int k')) (hx : FE N F x (.int k a)) : Yld P N w0 F L ⟨d, .convert t t' x, ty, pos, af, gd⟩ (.int k' (k'.wrap a)) := fun c w hF _ => by
  simp [execOp, hx c hF, convert, run_underlying hs, run_underlying hd, Conv.intToInt]
theorem y_convi {k' : IntKind} {ds : TypeDesc} (hs : P.underlying t = some ds) (hd : P.underlying t' = some (.int k')) (hx : FE N F x (.int k a)) (h : k'.wrap a = a) : Yld P N w0 F L ⟨d, .convert t t' x, ty, pos, af, gd⟩ (.int k' a) := by
  have := y_conv (w0 := w0) (L := L) (d := d) (ty := ty) (pos := pos) (af := af) (gd := gd) hs hd hx
  rwa [h] at this

theorem y_len {A : Option Addr} {n c e : Nat} (hu : P.underlying t = some (.slice e)) (hx : FE N F x (.slice A n c)) : Yld P N w0 F L ⟨d, .call ⟨.builtin .len, #[x], #[t]⟩, ty, pos, af, gd⟩ (.int .i64 (n : Int)) := fun a w hF _ => by
  simp [execOp, resolve, invoke, builtin, Builtin.len_, hx a hF, run_underlying hu, goInt]
theorem y_min {ts : Array TypeId} (hx : FE N F x (.int k a)) (hy : FE N F y (.int k b)) : Yld P N w0 F L ⟨d, .call ⟨.builtin .min, #[x, y], ts⟩, ty, pos, af, gd⟩ (.int k (min a b)) := fun c w hF _ => by
  have : (if b < a then b else a) = min a b := by split <;> omega
  simp [execOp, resolve, invoke, builtin, Builtin.min_, hx c hF, hy c hF, Builtin.min2, this]
theorem y_extract {vs : Array Value} {i : Nat} (hx : FE N F x (.tuple vs)) (hi : vs[i]? = some v) : Yld P N w0 F L ⟨d, .extract x i, ty, pos, af, gd⟩ v := fun a w hF _ => by
  simp [execOp, hx a hF, Instr.extract, hi]
theorem y_nilCheck {a : Addr} (hx : FE N F x (.pointer (some a))) : Yld P N w0 F L ⟨d, .nilCheck x, ty, pos, af, gd⟩ (.pointer (some a)) := fun c w hF _ => by
  simp [execOp, hx c hF]
theorem y_fieldAddr {fs : Array Field} {f : Field} {i b o m o' td : Nat} (hu : P.underlying t = some (.struct fs)) (hf : fs[i]? = some f) (ht : f.type = td) (hz : ∀ w, (sizeOf td).run P w = .ok (m + 1) w) (ho : o + f.offset = o') (hx : FE N F x (.pointer (some ⟨b, o, none⟩))) :
    Yld P N w0 F L ⟨d, .fieldAddr t x i, ty, pos, af, gd⟩ (.pointer (some ⟨b, o', none⟩)) := fun a w hF _ => by
  subst ho ht
  simp [execOp, hx a hF, Instr.fieldAt, run_underlying hu, hf, Instr.sureAddr, fieldPlace, hz]
  unfold Addr.add
  split
  · rename_i h; simp [h]
  · rfl
theorem y_fieldAddrE {fs : Array Field} {f : Field} {i j m j' td : Nat} {A : Option Addr} {xs : List Value} (hu : P.underlying t = some (.struct fs)) (hf : fs[i]? = some f) (ht : f.type = td) (hz : ∀ w, (sizeOf td).run P w = .ok (m + 1) w) (ho : j + f.offset = j') (hx : FE N F x (elt A j)) (hr : RdL w0 L A xs) (hj : 0 < xs.length) :
    Yld P N w0 F L ⟨d, .fieldAddr t x i, ty, pos, af, gd⟩ (elt A j') := fun a w hF hS => by
  subst ho ht
  obtain ⟨b, o, rfl, _⟩ := (hr w hS).at_ hj
  simp [execOp, hx a hF, elt, Instr.fieldAt, run_underlying hu, hf, Instr.sureAddr, fieldPlace, hz]
  unfold Addr.add
  split
  · rename_i h; simp [h]
  · simp [Nat.add_assoc]

theorem y_index {A : Option Addr} {n c e s j m : Nat} {xs : List Value} (hu : P.underlying t = some (.slice e)) (hs : ∀ w, (sizeOf e).run P w = .ok s w) (hx : FE N F x (.slice A n c)) (hi : FE N F y (.int k (j : Int))) (hr : RdL w0 L A xs) (hl : xs.length = n * s) (hs0 : 0 < s) (hj : j < n) (hm : j * s = m) :
    Yld P N w0 F L ⟨d, .indexAddr t x y, ty, pos, af, gd⟩ (elt A m) := fun a w hF hS => by
  subst hm
  have h0 : 0 < xs.length := by rw [hl]; exact Nat.mul_pos (by omega) hs0
  obtain ⟨b, o, rfl, _⟩ := (hr w hS).at_ h0
  simp [execOp, hx a hF, hi a hF, elt, Instr.indexAt, asIntOf, run_underlying hu, hs, hj]
  unfold Addr.add
  split
  · rename_i h; simp [h]
  · rfl
/-- An index that is an Int. -/
theorem y_indexI {A : Option Addr} {n c e s m : Nat} {j : Int} {xs : List Value} (hu : P.underlying t = some (.slice e)) (hs : ∀ w, (sizeOf e).run P w = .ok s w) (hx : FE N F x (.slice A n c)) (hi : FE N F y (.int k j)) (hr : RdL w0 L A xs) (hl : xs.length = n * s) (hs0 : 0 < s) (h0 : 0 ≤ j) (hj : j < n) (hm : j.toNat * s = m) :
    Yld P N w0 F L ⟨d, .indexAddr t x y, ty, pos, af, gd⟩ (elt A m) :=
  y_index (j := j.toNat) hu hs hx (by rw [Int.toNat_of_nonneg h0]; exact hi) hr hl hs0 (by omega) hm
theorem y_ld {A : Option Addr} {j : Nat} {xs : List Value} (ha : ∀ w, (isAgg t).run P w = .ok false w) (hx : FE N F x (elt A j)) (hr : RdL w0 L A xs) (hj : xs[j]? = some v) : Yld P N w0 F L ⟨d, .load t x, ty, pos, af, gd⟩ v := fun a w hF hS => by
  obtain ⟨hjl, hjv⟩ := List.getElem?_eq_some_iff.1 hj
  obtain ⟨b, o, rfl, hc⟩ := (hr w hS).at_ hjl
  rw [hjv] at hc
  simp [execOp, hx a hF, elt, Instr.loadAt, Instr.sureAddr, loadVar, ha, load, Sem.run, hc]
theorem y_ldA {A : Option Addr} {j s : Nat} {xs cs : List Value} (ha : ∀ w, (isAgg t).run P w = .ok true w) (hs : ∀ w, (sizeOf t).run P w = .ok s w) (hx : FE N F x (elt A j)) (hr : RdL w0 L A xs) (hl : cs.length = s) (hs0 : 0 < s) (hc : ∀ i u, cs[i]? = some u → xs[j + i]? = some u) : Yld P N w0 F L ⟨d, .load t x, ty, pos, af, gd⟩ (.agg cs.toArray) := fun a w hF hS => by
  have h0 : xs[j + 0]? = some cs[0] := hc 0 _ (List.getElem?_eq_getElem (by omega))
  obtain ⟨hjl, _⟩ := List.getElem?_eq_some_iff.1 h0
  rcases hr w hS with h | ⟨b, o, rfl, hcell⟩
  · rw [h] at hjl; simp at hjl
  · have hld : (loadCells (⟨b, o + j, none⟩ : Addr) cs.length).run P w = .ok cs.toArray w := run_loadCells_list w ⟨b, o + j, none⟩ cs (fun i u hu => by
      rw [Addr.add_lit]
      have := hcell (j + i) u (hc i u hu)
      rwa [← Nat.add_assoc] at this)
    rw [hl] at hld
    simp [execOp, hx a hF, elt, Instr.loadAt, Instr.sureAddr, loadVar, ha, hs, hld]
theorem y_ldb {b o : Nat} {cs : List Value} (i : Nat) (ha : ∀ w, (isAgg t).run P w = .ok false w) (hx : FE N F x (.pointer (some ⟨b, o, none⟩))) (hk : lget L i = some (blk b cs)) (ho : cs[o]? = some v) : Yld P N w0 F L ⟨d, .load t x, ty, pos, af, gd⟩ v := fun a w hF hS => by
  obtain ⟨T, hg⟩ := hS.holds i _ hk
  have hc : w.cell? ⟨b, o, none⟩ = some v := by rw [cell_of_row w b o _ T (0, 0) hg]; simpa using ho
  simp [execOp, hx a hF, Instr.loadAt, Instr.sureAddr, loadVar, ha, load, Sem.run, hc]
theorem y_ldbA {b o s : Nat} {cs vs : List Value} (i : Nat) (ha : ∀ w, (isAgg t).run P w = .ok true w) (hs : ∀ w, (sizeOf t).run P w = .ok s w) (hx : FE N F x (.pointer (some ⟨b, o, none⟩))) (hk : lget L i = some (blk b cs)) (hv : (cs.drop o).take s = vs) (hl : vs.length = s) : Yld P N w0 F L ⟨d, .load t x, ty, pos, af, gd⟩ (.agg vs.toArray) := fun a w hF hS => by
  obtain ⟨T, hg⟩ := hS.holds i _ hk
  have hld : (loadCells (⟨b, o, none⟩ : Addr) vs.length).run P w = .ok vs.toArray w := run_loadCells_list w ⟨b, o, none⟩ vs (fun i u hu => by
    rw [Addr.add_lit, cell_of_row w b (o + i) _ T (0, 0) hg]
    rw [← hv, List.getElem?_take] at hu
    split at hu
    · rw [List.getElem?_drop] at hu; simpa using hu
    · cases hu)
  rw [hl] at hld
  simp [execOp, hx a hF, Instr.loadAt, Instr.sureAddr, loadVar, ha, hs, hld]
theorem rok_b {b : Nat} {cs : List Value} {r s : Nat} {ty : TypeId} (i : Nat) (ha : ∀ w, (isAgg ty).run P w = .ok true w) (hs : ∀ w, (sizeOf ty).run P w = .ok s w) (hr : fget N F r = some (.pointer (some ⟨b, 0, none⟩))) (hk : lget L i = some (blk b cs)) (hl : cs.length = s) : ROK P N w0 F L (.cell r ty) (.agg cs.toArray) := fun a w hF hS => by
  obtain ⟨T, hg⟩ := hS.holds i _ hk
  have hld : (loadCells (⟨b, 0, none⟩ : Addr) cs.length).run P w = .ok cs.toArray w := run_loadCells_list w ⟨b, 0, none⟩ cs (fun i u hu => by
    rw [Addr.add_lit, Nat.zero_add, cell_of_row w b i _ T (0, 0) hg]; simpa using hu)
  rw [hl] at hld
  simp [rvSem, hF.at_ r _ hr, asAddr, loadVar, ha, hs, hld]
/-- Values of a list of operands. -/
def FEL (N : Nat) (F : Frm) (xs : List Operand) (vs : List Value) : Prop := ∀ a, Fr N a F → xs.map a.eval = vs
theorem fel_nil : FEL N F [] [] := fun _ _ => rfl
theorem fel_cons {xs : List Operand} {vs : List Value} (h : FE N F x v) (hs : FEL N F xs vs) : FEL N F (x :: xs) (v :: vs) := fun a ha => by simp [h a ha, hs a ha]

/-- A struct's value: the parts are numbered is. -/
theorem y_build {is : List Nat} {xs : List Operand} {vs cs : List Value} {parts : Array (Nat × Operand)} (hp : parts = (is.zip xs).toArray) (hx : FEL N F xs vs) (h : P.built t (is.zip vs) = some cs.toArray) : Yld P N w0 F L ⟨d, .build t parts, ty, pos, af, gd⟩ (.agg cs.toArray) := fun a w hF _ => by
  subst hp
  have h1 : (is.zip xs).map (fun p => (p.1, a.eval p.2)) = is.zip vs := by rw [← hx a hF, List.zip_map_right]; rfl
  have h2 : ((is.zip xs).toArray.map fun p => (p.1, a.eval p.2)).toList = is.zip vs := by simpa using h1
  have := run_build (P := P) w t ((is.zip xs).toArray.map fun p => (p.1, a.eval p.2)) cs.toArray (by rw [h2]; exact h)
  simp only [execOp, Sem.run_bind, Sem.run_pure, this, Result.andThen_ok]

/-! Operations that make or write. -/
variable {K : Frm → List Res → Prop}
def zc (z : Value) : List Value := match z with | .agg cs => cs.toList | v => [v]
theorem zc_cells (z : Value) : z.cells.toList = zc z := by cases z <;> rfl

theorem run_new (w : World) (o : Obj) : (Sem.new o Sem.pure).run P w = .ok w.heap.size (w.alloc o) := rfl
theorem alloc_new (w : World) (o : Obj) : Below w.heap.size w (w.alloc o) := (Below.refl _ _).alloc (Nat.le_refl _) o
theorem St.newblk {w : World} {cs : Array Value} {T : TypeId} (h : St w0 w L) : St w0 (w.alloc (.cells cs T)) (blk w.heap.size cs.toList :: L) :=
  h.add (alloc_new w _) ⟨T, by simpa using heap_alloc_new w (.cells cs T)⟩ (fun b hb => by
    simp only [blk, List.mem_singleton] at hb
    subst hb
    exact ⟨Nat.le_refl _, by simp⟩)

theorem oj_alloc {z : Value} (hz : ∀ w, (zeroValue t).run P w = .ok z w) (h : ∀ b, K (fput F d (.pointer (some ⟨b, 0, none⟩))) (blk b (zc z) :: L)) : OpJ P N w0 F L ⟨d, .alloc t, ty, pos, af, gd⟩ K := fun a w hF hS => by
  have hr : (execOp a.eval ⟨d, .alloc t, ty, pos, af, gd⟩).run P w = .ok (.value (.pointer (some ⟨w.heap.size, 0, none⟩))) (w.alloc (.cells z.cells t)) := by
    simp [execOp, Instr.alloc, hz, newVar, newRow, newObj, run_new]
  unfold Oper.wp
  rw [hr]
  refine ⟨_, _, h w.heap.size, hF.put _ _, ?_⟩
  rw [← zc_cells]
  exact hS.newblk
theorem oj_box {t : TypeId} (hx : FE N F x v) (h : ∀ b, K (fput F d (.pointer (some ⟨b, 0, none⟩))) (blk b (zc v) :: L)) : OpJ P N w0 F L ⟨d, .box t x, ty, pos, af, gd⟩ K := fun a w hF hS => by
  have hr : (execOp a.eval ⟨d, .box t x, ty, pos, af, gd⟩).run P w = .ok (.value (.pointer (some ⟨w.heap.size, 0, none⟩))) (w.alloc (.cells v.cells t)) := by
    simp [execOp, Instr.box, hx a hF, newVar, newRow, newObj, run_new]
  unfold Oper.wp
  rw [hr]
  refine ⟨_, _, h w.heap.size, hF.put _ _, ?_⟩
  rw [← zc_cells]
  exact hS.newblk

theorem turn_row {w : World} {b i : Nat} {cs old : List Value} {T : TypeId} (hS : St w0 w L) (hk : lget L i = some (blk b old)) (hg : w.heap[b]? = some (.cells old.toArray T (0, 0))) : St w0 (w.setRow b cs.toArray) (lset L i (blk b cs)) := by
  have hlt := (hS.lt i _ hk b (by simp [blk])).2
  refine hS.turn hk rfl rfl rfl (by simp [World.setRow]) (fun k hk1 hk2 => setRow_other w b k _ (fun e => hk2 (by simp [blk, e]))) ⟨T, setRow_heap w b _ _ T _ hg⟩ (fun k hk1 => ?_)
  simp only [blk, List.mem_singleton] at hk1
  subst hk1
  exact ⟨by simpa [World.setRow] using hlt, .inl (by simp [blk])⟩

/-- A store of the cells vs at cell o of a block. -/
theorem run_storeb {w : World} {b o s : Nat} {cs vs : List Value} {T : TypeId} (hs : ∀ w, (sizeOf t).run P w = .ok s w) (hv : v.cells = vs.toArray) (hl : vs.length = s) (h1 : vs.all (·.oneCell') = true) (hg : w.heap[b]? = some (.cells cs.toArray T (0, 0))) (ho : o + s ≤ cs.length) :
    (storeVar t ⟨b, o, none⟩ v).run P w = .ok () (w.setRow b (cs.take o ++ vs ++ cs.drop (o + s)).toArray) := by
  have hst := run_storeCells_at P b o T vs 0 cs.toArray w hg (by simpa [hl] using ho) (fun u hu => List.all_eq_true.1 h1 u hu)
  simp only [Nat.add_zero, hl] at hst
  have hsz : v.cells.size = s := by rw [hv]; simpa using hl
  simp only [storeVar, Sem.run_bind, hs, Result.andThen_ok, hsz, ne_eq, not_true_eq_false, if_false, hv]
  simpa [hl] using hst
theorem oj_store {b o s : Nat} {cs vs cs' : List Value} (i : Nat) (hs : ∀ w, (sizeOf t).run P w = .ok s w) (hx : FE N F x (.pointer (some ⟨b, o, none⟩))) (hy : FE N F y v) (hv : v.cells = vs.toArray) (hl : vs.length = s) (h1 : vs.all (·.oneCell') = true) (hk : lget L i = some (blk b cs)) (ho : Nat.ble (o + s) cs.length = true) (hc : cs.take o ++ vs ++ cs.drop (o + s) = cs')
    (h : K (fput F d undef) (lset L i (blk b cs'))) : OpJ P N w0 F L ⟨d, .store t x y, ty, pos, af, gd⟩ K := fun a w hF hS => by
  subst hc
  obtain ⟨T, hg⟩ := hS.holds i _ hk
  have hr : (execOp a.eval ⟨d, .store t x y, ty, pos, af, gd⟩).run P w = .ok .skip (w.setRow b (cs.take o ++ vs ++ cs.drop (o + s)).toArray) := by
    simp [execOp, Instr.storeAt, Instr.sureAddr, hx a hF, hy a hF, run_storeb hs hv hl h1 hg (Nat.le_of_ble_eq_true ho)]
  unfold Oper.wp
  rw [hr]
  exact ⟨_, _, h, hF.put _ _, turn_row hS hk hg⟩

theorem fold_set : ∀ (l : List Value) (k : Nat) (cs : Array Value), k + l.length = cs.size → (l.zipIdx k).foldl (fun cs (p : Value × Nat) => cs.setIfInBounds p.2 p.1) cs = (cs.toList.take k ++ l).toArray
  | [], k, cs, h => by
    have : cs.toList.take k = cs.toList := List.take_of_length_le (by simp at h; simp [h])
    simp [this]
  | x :: l, k, cs, h => by
    rw [List.zipIdx_cons, List.foldl_cons, fold_set l (k + 1) _ (by simp only [List.length_cons] at h; simp only [Array.size_setIfInBounds]; omega)]
    congr 1
    have hk : k < cs.toList.length := by rw [Array.length_toList]; simp only [List.length_cons] at h; omega
    rw [Array.toList_setIfInBounds, List.take_set, List.take_succ_eq_append_getElem hk, List.set_append_right _ _ (by rw [List.length_take]; omega)]
    have : (x, k).snd - (cs.toList.take k).length = 0 := by rw [List.length_take]; simp only; omega
    rw [this]
    simp

/-- A slice literal of one element. -/
theorem oj_slice1 {e s : Nat} {z : Value} (hu : P.underlying t = some (.slice e)) (hs : ∀ w, (sizeOf e).run P w = .ok s w) (hz : ∀ w, (zeroValue e).run P w = .ok z w) (hx : FE N F x v) (hs0 : 0 < s ∧ s ≤ 16777216) (hl : (zc v).length = s)
    (h : ∀ b, K (fput F d (.slice (some ⟨b, 0, none⟩) 1 1)) (blk b (zc v) :: L)) : OpJ P N w0 F L ⟨d, .buildSlice t 1 #[(0, x)], ty, pos, af, gd⟩ K := fun a w hF hS => by
  have h1 : ¬ (16777216 < s) := by omega
  have h2 : s ≠ 0 := by omega
  have hvs : v.cells.size = s := by rw [← hl, ← zc_cells]; simp
  have hfill : Instr.fill (fun i => some (i * s, s)) ((Array.range s).map (z.cells[· % z.cells.size]!)) [(0, v)] = some v.cells := by
    have h3 := fold_set v.cells.toList 0 ((Array.range s).map (z.cells[· % z.cells.size]!)) (by simp [hvs])
    simp only [List.take_zero, List.nil_append] at h3
    simp only [Instr.fill, Nat.zero_mul, hvs, Nat.zero_add, Array.size_map, Array.size_range, Nat.lt_irrefl, decide_false, bne_self_eq_false, Bool.or_self, Bool.false_eq_true, if_false, gt_iff_lt, ne_eq, not_true_eq_false]
    rw [← Array.foldl_toList, Array.toList_zipIdx]
    simpa using h3
  have hr : (execOp a.eval ⟨d, .buildSlice t 1 #[(0, x)], ty, pos, af, gd⟩).run P w = .ok (.value (.slice (some ⟨w.heap.size, 0, none⟩) 1 1)) (w.alloc (.cells v.cells e)) := by
    simp [execOp, Instr.buildSlice, hx a hF, run_underlying hu, hs, hz, h1, h2, hfill, newRow, newObj, run_new]
  unfold Oper.wp
  rw [hr]
  refine ⟨_, _, h w.heap.size, hF.put _ _, ?_⟩
  rw [← zc_cells]
  exact hS.newblk
/-- A slice literal without elements. -/
theorem oj_slice0 {e s : Nat} (hu : P.underlying t = some (.slice e)) (hs : ∀ w, (sizeOf e).run P w = .ok s w) (h : ∀ b, K (fput F d (.slice (some ⟨b, 0, none⟩) 0 0)) (vec e s (.slice (some ⟨b, 0, none⟩) 0 0) 0 [] :: L)) : OpJ P N w0 F L ⟨d, .buildSlice t 0 #[], ty, pos, af, gd⟩ K := fun a w hF hS => by
  have hr : (execOp a.eval ⟨d, .buildSlice t 0 #[], ty, pos, af, gd⟩).run P w = .ok (.value (.slice (some ⟨w.heap.size, 0, none⟩) 0 0)) (w.alloc (.cells #[] e)) := by
    simp [execOp, Instr.buildSlice, run_underlying hu, hs, Instr.fill, newRow, newObj, run_new, show Array.range 0 = #[] from rfl]
  unfold Oper.wp
  rw [hr]
  refine ⟨_, _, h w.heap.size, hF.put _ _, hS.add (alloc_new w _) ⟨by simp, .inr ⟨w.heap.size, 0, 0, #[], rfl, heap_alloc_new w _, Nat.le_refl _, Nat.zero_le _, by simp, by simp⟩⟩ (fun b hb => ?_)⟩
  simp only [vec, Value.ownBlock, Option.toList_some, List.mem_singleton] at hb
  subst hb
  exact ⟨Nat.le_refl _, by simp⟩

theorem turn_vec {w w' : World} {e s n n' : Nat} {v v' : Value} {xs xs' : List Value} {i : Nat} (hS : St w0 w L) (hk : lget L i = some (vec e s v n xs)) (ho : OwnV w' e s v' n' xs') (hg : w.grownBy w' v.ownBlock) (hf : ∀ g, v'.ownBlock = some g → g < w'.heap.size ∧ (v.ownBlock = some g ∨ w.heap.size ≤ g)) : St w0 w' (lset L i (vec e s v' n' xs')) :=
  hS.turn hk hg.os hg.tape hg.output hg.size (fun b hb hn => hg.block b hb (fun e => hn (by simp [vec, ← e]))) ho (fun b hb => by
    simp only [vec, Option.mem_toList, Option.mem_def] at hb ⊢
    exact hf b hb)

/-- append of the cells that a slice reads as. -/
theorem oj_append {e s bytes n m c i : Nat} {z : Value} {xs news : List Value} {A : Option Addr} (hu : P.underlying t = some (.slice e)) (hi : (P.info? e).map (fun i => (i.zero, i.size, i.bytes)) = some (some z, s, bytes)) (hx : FE N F x v) (hy : FE N F y (.slice A m c))
    (hk : lget L i = some (vec e s v n xs)) (hr : RdL w0 L A news) (hl : news.length = m * s) (hz : z.cells.size = s ∧ 0 < s) (h1 : ∀ u ∈ news, u.oneCell' = true) (hA : 0 < m) (hb : n + m ≤ 1000000000000 ∧ bytes ≤ 140)
    (h : ∀ A' c', n + m ≤ c' → K (fput F d (.slice A' (n + m) c')) (lset L i (vec e s (.slice A' (n + m) c') (n + m) (xs ++ news)))) : OpJ P N w0 F L ⟨d, .call ⟨.builtin .append, #[x, y], #[t, t]⟩, ty, pos, af, gd⟩ K := fun a w hF hS => by
  obtain ⟨inf, h2, h3, h4, h5⟩ := info_parts' hi
  have hbytes : (n + m) * bytes ≤ 140737488355328 := Nat.le_trans (Nat.mul_le_mul hb.1 hb.2) (by omega)
  have h0 : 0 < news.length := by rw [hl]; exact Nat.mul_pos hA hz.2
  rcases hr w hS with hn | ⟨g, o, rfl, hc⟩
  · rw [hn] at h0; simp at h0
  obtain ⟨v', w', hrun, r1, r2, r3⟩ := run_append_ownV (P := P) w t ty e inf z s bytes hu h2 h3 h4 h5 hz.1 hz.2 v n xs (hS.holds i _ hk) ⟨g, o, none⟩ m c news hl (fun j u hu => by rw [Addr.add_lit]; exact hc j u hu) h1 (by unfold maxLen; omega) hbytes
  have hrun2 : (execOp a.eval ⟨d, .call ⟨.builtin .append, #[x, y], #[t, t]⟩, ty, pos, af, gd⟩).run P w = .ok (.value v') w' := by
    simp [execOp, resolve, invoke, builtin, hx a hF, hy a hF, hrun]
  unfold Oper.wp
  rw [hrun2]
  obtain ⟨A', c', rfl, hc', _⟩ := OwnV.form r1
  exact ⟨_, _, h A' c' hc', hF.put _ _, turn_vec hS hk r1 r2 r3⟩
theorem rdl_blk {b : Nat} {cs : List Value} (i : Nat) (h : lget L i = some (blk b cs)) : RdL w0 L (some ⟨b, 0, none⟩) cs := fun w hS => by
  obtain ⟨T, hg⟩ := hS.holds i _ h
  exact .inr ⟨b, 0, rfl, fun j u hu => by rw [Nat.zero_add, cell_of_row w b j _ T (0, 0) hg]; simpa using hu⟩

/-- A call, by a contract that speaks of this world. -/
theorem oj_call {α : Type} {xs : Array Operand} {ts : Array TypeId} {f : FuncId} {vs : List Value} {p : α → Prop} {r : α → Value} {M : α → List Res} {fc : Operand} (hcall : ∀ args w, (callFunc f args).run P w = .ok (.enter f args) w) (hf : FE N F fc (.func (.func f) #[] #[])) (hx : FEL N F xs.toList vs)
    (hc : ∀ w, St w0 w L → Calls P f vs.toArray w (fun e w' => ∃ q : α, p q ∧ e = .returned (r q) ∧ St w w' (M q))) (h : ∀ q, p q → K (fput F d (r q)) (M q ++ L)) : OpJ P N w0 F L ⟨d, .call ⟨.value fc, xs, ts⟩, ty, pos, af, gd⟩ K := fun a w hF hS => by
  have hargs : xs.map a.eval = vs.toArray := by
    have := hx a hF
    apply Array.toList_inj.1
    simpa using this
  have hr : (execOp a.eval ⟨d, .call ⟨.value fc, xs, ts⟩, ty, pos, af, gd⟩).run P w = .ok (.enter f vs.toArray) w := by
    simp [execOp, resolve, hf a hF, Deferred.ofValue, invoke, hargs, hcall]
  unfold Oper.wp
  rw [hr]
  refine (hc w hS).mono fun e w' ⟨q, hp, he, hS'⟩ => ?_
  subst he
  exact ⟨_, _, h q hp, hF.put _ _, hS.call hS'⟩
/-- A call that turns what is held. -/
theorem oj_call2 {α : Type} {xs : Array Operand} {ts : Array TypeId} {f : FuncId} {vs : List Value} {p : α → Prop} {r : α → Value} {M : α → List Res} {fc : Operand} (hcall : ∀ args w, (callFunc f args).run P w = .ok (.enter f args) w) (hf : FE N F fc (.func (.func f) #[] #[])) (hx : FEL N F xs.toList vs)
    (hc : ∀ w, St w0 w L → Calls P f vs.toArray w (fun e w' => ∃ q : α, p q ∧ e = .returned (r q) ∧ St w0 w' (M q))) (h : ∀ q, p q → K (fput F d (r q)) (M q)) : OpJ P N w0 F L ⟨d, .call ⟨.value fc, xs, ts⟩, ty, pos, af, gd⟩ K := fun a w hF hS => by
  have hargs : xs.map a.eval = vs.toArray := by
    have := hx a hF
    apply Array.toList_inj.1
    simpa using this
  have hr : (execOp a.eval ⟨d, .call ⟨.value fc, xs, ts⟩, ty, pos, af, gd⟩).run P w = .ok (.enter f vs.toArray) w := by
    simp [execOp, resolve, hf a hF, Deferred.ofValue, invoke, hargs, hcall]
  unfold Oper.wp
  rw [hr]
  refine (hc w hS).mono fun e w' ⟨q, hp, he, hS'⟩ => ?_
  subst he
  exact ⟨_, _, h q hp, hF.put _ _, hS'⟩
end
end Go.Proofs.YtoibebmhfcjpfaaGreatDoor.E

namespace Go.Proofs.YtoibebmhfcjpfaaGreatDoor.E
open Go.RowKit

section
variable {P : Program} {ops : Array Oper} {C : World → Prop}

/-- Operation i comes up: no panic. -/
def cOp (P : Program) (ops : Array Oper) (i : Nat) (K : Act → World → Prop) (a : Act) (w : World) : Prop :=
  match ops[i]? with
  | none => K a w
  | some o => if Region.wanted o (yielded ops a.tmps) then o.wp P a w K NoQ else K (a.put o.dst undef) w

/-- Whatever order is picked from here on, and C throughout. -/
def wpAnyC (P : Program) (ops : Array Oper) (C : World → Prop) (R : Act → World → Prop) : Nat → Array Bool → Act → World → Prop
  | 0, listed, a, w => Region.ready .any ops listed = [] ∧ R a w
  | n + 1, listed, a, w =>
    (Region.ready .any ops listed = [] → R a w) ∧ ∀ i ∈ Region.ready .any ops listed, cOp P ops i (fun a' w' => ∀ w'', Below w'.heap.size w' w'' → C w'' ∧ wpAnyC P ops C R n (listed.setIfInBounds i true) a' w'') a w

theorem cOp_mono {i : Nat} {a : Act} {w : World} {K K' : Act → World → Prop} (h : ∀ a w, K a w → K' a w) (hh : cOp P ops i K a w) : cOp P ops i K' a w := by
  unfold cOp at *
  split
  · exact h _ _ (by simpa [*] using hh)
  · rename_i o ho
    simp only [ho] at hh
    split
    · rename_i hw; simp only [hw, if_true] at hh; exact wp_of_noQ h hh
    · rename_i hw; simp only [hw] at hh; exact h _ _ hh

theorem wpAny_of_C {R : Act → World → Prop} {Q : Exit → Act → World → Prop} (hQ : ∀ a w, R a w → Q .normal a w) : ∀ (n : Nat) (listed : Array Bool) (a : Act) (w : World), wpAnyC P ops C R n listed a w → wpAny P .any ops Q n listed a w
  | 0, _, _, _, h => ⟨h.1, hQ _ _ h.2⟩
  | n + 1, _, _, _, h => ⟨fun h0 => hQ _ _ (h.1 h0), fun i hi => by
      have h1 := h.2 i hi
      unfold cOp at h1
      unfold wpOp
      split
      · rename_i ho
        simp only [ho] at h1
        exact wpAny_of_C hQ n _ _ _ (h1 _ (Below.refl _ _)).2
      · rename_i o ho
        simp only [ho] at h1
        split
        · rename_i hw
          simp only [hw, if_true] at h1
          exact .inl (wp_of_noQ (fun a' w' h2 => wpAny_of_C hQ n _ _ _ (h2 _ (Below.refl _ _)).2) h1)
        · rename_i hw
          simp only [hw] at h1
          exact wpAny_of_C hQ n _ _ _ (h1 _ (Below.refl _ _)).2⟩

/-- In the worlds of C, operation o yields v, and makes memory at most. -/
def YIn (P : Program) (ops : Array Oper) (C : World → Prop) (o : Oper) (v : Value) (a : Act) : Prop :=
  (Region.wanted o (yielded ops a.tmps) = true ∧ ∀ w, C w → Oper.quietUpon P (fun w'' => Below w.heap.size w w'') w v ((execOp a.eval o).run P w)) ∨
  (Region.wanted o (yielded ops a.tmps) = false ∧ v = undef)
theorem YIn.of_same {o : Oper} {v : Value} {a a' : Act} (hy : YIn P ops C o v a) (he : execOp a'.eval o = execOp a.eval o)
    (hw : Region.wanted o (yielded ops a'.tmps) = Region.wanted o (yielded ops a.tmps)) : YIn P ops C o v a' := by
  unfold YIn at *
  rw [he, hw]
  exact hy

theorem cOp_of_yields {i : Nat} {oi : Oper} {v : Value} {a : Act} {w : World} {K : Act → World → Prop} (hi : ops[i]? = some oi) (hy : YIn P ops C oi v a) (hw : C w) (h : ∀ w', Below w.heap.size w w' → K (a.put oi.dst v) w') : cOp P ops i K a w := by
  unfold cOp
  simp only [hi]
  rcases hy with ⟨hw1, hv⟩ | ⟨hw1, rfl⟩
  · simp only [hw1, if_true]
    have h3 := hv w hw
    unfold Oper.wp
    generalize (execOp a.eval oi).run P w = r at *
    cases r with
    | ok n w' =>
      cases n <;> simp only [Oper.quietUpon] at h3 <;> simp only [Oper.upon]
      case value u =>
        obtain ⟨rfl, rfl⟩ := h3
        exact h _ (Below.refl _ _)
      case skip =>
        obtain ⟨rfl, e2⟩ := h3
        rw [← e2]
        exact h _ (Below.refl _ _)
      case enter f args =>
        obtain ⟨e1, hc⟩ := h3
        rw [e1]
        exact hc.mono fun e w'' ⟨he, hw''⟩ => by subst he; exact h _ hw''
    | halt x w' => simp only [Oper.quietUpon] at h3
  · simp only [hw1, Bool.false_eq_true, if_false]
    exact h w (Below.refl _ _)

/-- Another operation, apart from it, comes up in its stead. -/
theorem cOp_put {j : Nat} {oi oj : Oper} {v : Value} (hj : ops[j]? = some oj) (hap : oi.apart ops oj = true) (hsi : ∀ cs b, oi.op ≠ .select cs b) (hsj : ∀ cs b, oj.op ≠ .select cs b) {K : Act → World → Prop} {a : Act} {w : World}
    (hy : YIn P ops C oi v a) (h : cOp P ops j K (a.put oi.dst v) w) : cOp P ops j (fun a' w' => YIn P ops C oi v a' ∧ K (a'.put oi.dst v) w') a w := by
  obtain ⟨h1, h2, h3⟩ := Oper.apart_spec hap
  have keep : ∀ (a : Act), YIn P ops C oi v a → ∀ u, YIn P ops C oi v (a.put oj.dst u) := fun a hy u =>
    hy.of_same (execOp_put oi hsi a oj.dst u h3) (wanted_put oi a oj.dst u h3)
  have keepD : ∀ d, YIn P ops C oi v ({ a with defers := d :: a.defers } : Act) := fun d => by
    unfold YIn at *
    exact hy
  unfold cOp at *
  simp only [hj] at *
  rw [wanted_put oj a oi.dst v h1] at h
  split
  · rename_i hw
    simp only [hw, if_true] at h
    unfold Oper.wp at *
    rw [execOp_put oj hsj a oi.dst v h1] at h
    generalize (execOp a.eval oj).run P w = r at *
    cases r with
    | ok n w' =>
      cases n <;> simp only [Oper.upon] at h ⊢
      case value u => exact ⟨keep a hy u, by rw [← Act.put_comm a v u h2]; exact h⟩
      case skip => exact ⟨keep a hy _, by rw [← Act.put_comm a v undef h2]; exact h⟩
      case defer d =>
        refine ⟨keep _ (keepD d) _, ?_⟩
        rw [← Act.put_comm _ v undef h2, ← Act.put_defers]
        exact h
      case enter f args =>
        refine Calls.mono h fun e w'' he => ?_
        cases e with
        | returned u => exact ⟨keep a hy u, by rw [← Act.put_comm a v u h2]; exact he⟩
        | panicked c => exact he.elim
        | outgrown => obtain ⟨_, _, hf⟩ := he; exact hf.elim
      case row row args => exact Rows.mono h fun u w'' he => ⟨keep a hy u, by rw [← Act.put_comm a v u h2]; exact he⟩
    | halt x w' => cases x <;> simp only [Oper.upon] at h ⊢ <;> exact h.elim
  · rename_i hw
    simp only [hw] at h
    exact ⟨keep a hy _, by rw [← Act.put_comm a v undef h2]; exact h⟩

theorem wpAnyC_first {R : Act → World → Prop} {i : Nat} {oi : Oper} {v : Value} (hi : ops[i]? = some oi) (hsel : ∀ (j : Nat) (o : Oper) cs b, ops[j]? = some o → o.op ≠ .select cs b) (hG : ∀ w w', C w → Below w.heap.size w w' → C w') :
    ∀ (n : Nat) (listed : Array Bool) (a : Act) (w : World), C w →
      (∀ j oj, ops[j]? = some oj → j ≠ i → listed.getD j true = false → (∀ e ∈ oj.after, Region.binds .any e = true → e.on ≠ i) → oi.apart ops oj = true) →
      i ∈ Region.ready .any ops listed → YIn P ops C oi v a →
      (∀ w', Below w.heap.size w w' → wpAnyC P ops C R n (listed.setIfInBounds i true) (a.put oi.dst v) w') → wpAnyC P ops C R (n + 1) listed a w := by
  intro n
  induction n with
  | zero =>
    intro listed a w hC _ hr hy H
    refine ⟨fun h => (by rw [h] at hr; cases hr), fun j hj => ?_⟩
    by_cases hji : j = i
    · subst hji; exact cOp_of_yields hi hy hC fun w' hw' w'' hw'' => ⟨hG w _ hC (hw'.trans (hw''.mono hw'.size)), H w'' (hw'.trans (hw''.mono hw'.size))⟩
    · have := ready_mono hj hji
      rw [(H w (Below.refl _ _)).1] at this
      cases this
  | succ n ih =>
    intro listed a w hC hfree hr hy H
    refine ⟨fun h => (by rw [h] at hr; cases hr), fun j hj => ?_⟩
    by_cases hji : j = i
    · subst hji; exact cOp_of_yields hi hy hC fun w' hw' w'' hw'' => ⟨hG w _ hC (hw'.trans (hw''.mono hw'.size)), H w'' (hw'.trans (hw''.mono hw'.size))⟩
    · have h1 := (H w (Below.refl _ _)).2 j (ready_mono hj hji)
      obtain ⟨hjun, oj, hoj, hall⟩ := mem_ready.1 hj
      have hnot : ∀ e ∈ oj.after, Region.binds .any e = true → e.on ≠ i := fun e he hb heq => by
        have h1 := hall e he hb
        have h0 := (mem_ready.1 hr).1
        rw [heq] at h1
        rcases Nat.lt_or_ge i listed.size with h' | h'
        · simp [h'] at h0 h1; rw [h0] at h1; cases h1
        · simp [Array.getElem?_eq_none h'] at h1
      have h2 := cOp_put hoj (hfree j oj hoj hji hjun hnot) (fun cs b => hsel i oi cs b hi) (fun cs b => hsel j oj cs b hoj) hy h1
      have hfree' : ∀ k ok, ops[k]? = some ok → k ≠ i → (listed.setIfInBounds j true).getD k true = false →
          (∀ e ∈ ok.after, Region.binds .any e = true → e.on ≠ i) → oi.apart ops ok = true := fun k ok hk hki hun hno => by
        refine hfree k ok hk hki ?_ hno
        by_cases hjk : j = k
        · subst hjk; exact hjun
        · rw [getD_set_ne true hjk] at hun; exact hun
      refine cOp_mono (fun a' w' h3 w'' hw'' => ?_) h2
      have hC'' := (h3.2 w'' hw'').1
      refine ⟨hC'', ih (listed.setIfInBounds j true) a' w'' hC'' hfree' (ready_mono hr (Ne.symm hji)) h3.1 (fun w3 hw3 => ?_)⟩
      rw [Array.setIfInBounds_comm _ _ hji]
      exact (h3.2 w3 (hw''.trans (hw3.mono hw''.size))).2
end

section
variable {P : Program} {N : Nat} {w0 : World} {ops : Array Oper} {Q : Exit → Act → World → Prop} {F : Frm} {L S : List Res} {listed : Array Bool} {n : Nat}

/-- In a region, with these operations done. S: what the whole region leaves as it is. -/
def TA (P : Program) (N : Nat) (w0 : World) (ops : Array Oper) (Q : Exit → Act → World → Prop) (S : List Res) (n : Nat) (listed : Array Bool) (F : Frm) (L : List Res) : Prop :=
  ∀ a w, Fr N a F → St w0 w L → St w0 w S → wpAnyC P ops (fun w => St w0 w S) (Q .normal) n listed a w

theorem tr_draw {id : Nat} {l : List Oper} (S : List Res) (hL : ∀ w, St w0 w L → St w0 w S) (hm : P.follows .mixedOrders = true) (h : TA P N w0 l.toArray Q S l.length (Array.replicate l.length false) F L) : TR P N w0 Q (.region id l.toArray true) F L := fun a w hF hS => by
  have h1 : St w0 { w with drawn := w.drawn + 1 } L := hS.grow ⟨rfl, rfl, rfl, Nat.le_refl _, fun _ _ => rfl⟩
  have := h a _ hF h1 (hL _ h1)
  exact wp_region_any hm (by simpa using wpAny_of_C (fun _ _ h => h) _ _ _ _ this)

theorem ta_done (hr : Region.ready .any ops listed = []) (h : TX N w0 Q .normal F L) : TA P N w0 ops Q S n listed F L := fun a w hF hS _ => by
  cases n with
  | zero => exact ⟨hr, h a w hF hS⟩
  | succ n => exact ⟨fun _ => h a w hF hS, by rw [hr]; simp⟩

/-- An operation's value from what the region leaves as it is. -/
def Yq (P : Program) (N : Nat) (w0 : World) (F : Frm) (S : List Res) (o : Oper) (v : Value) : Prop :=
  ∀ a w, Fr N a F → St w0 w S → Oper.quietUpon P (fun w'' => Below w.heap.size w w'') w v ((execOp a.eval o).run P w)
theorem yq_of {o : Oper} {v : Value} (h : Yld P N w0 F S o v) : Yq P N w0 F S o v := fun a w hF hS => by
  rw [h a w hF hS]
  exact ⟨rfl, rfl⟩
theorem yq_call {d : Option Tmp} {fc : Operand} {xs : Array Operand} {ts : Array TypeId} {ty : TypeId} {pos : String} {af : Array Edge} {gd : Option (Nat × Bool)} {f : FuncId} {vs : List Value} {v : Value} (hcall : ∀ args w, (callFunc f args).run P w = .ok (.enter f args) w) (hf : FE N F fc (.func (.func f) #[] #[])) (hx : FEL N F xs.toList vs)
    (hc : ∀ w, St w0 w S → Calls P f vs.toArray w (fun e w' => e = .returned v ∧ St w w' [])) : Yq P N w0 F S ⟨d, .call ⟨.value fc, xs, ts⟩, ty, pos, af, gd⟩ v := fun a w hF hS => by
  have hargs : xs.map a.eval = vs.toArray := by
    have := hx a hF
    apply Array.toList_inj.1
    simpa using this
  have hr : (execOp a.eval ⟨d, .call ⟨.value fc, xs, ts⟩, ty, pos, af, gd⟩).run P w = .ok (.enter f vs.toArray) w := by
    simp [execOp, resolve, hf a hF, Deferred.ofValue, invoke, hargs, hcall]
  rw [hr]
  exact ⟨rfl, (hc w hS).mono fun e w' ⟨h1, h2⟩ => ⟨h1, h2.below⟩⟩

/-- Wanted, unwanted: by what a slot holds. -/
def Wants (N : Nat) (ops : Array Oper) (F : Frm) (o : Oper) (b : Bool) : Prop := ∀ a, Fr N a F → Region.wanted o (yielded ops a.tmps) = b
theorem wants_none {o : Oper} (h : o.guard = none) : Wants N ops F o true := fun a _ => by simp [Region.wanted, h]
theorem wants_t {o : Oper} {g d : Nat} {b : Bool} (hg : o.guard = some (g, b)) (hd : (ops[g]?).bind (·.dst) = some d) (hv : fget N F d = some (.bool b)) : Wants N ops F o true := fun a hF => by
  simp [Region.wanted, hg, yielded_of hF hd hv]
theorem wants_f {o : Oper} {g d : Nat} {b b' : Bool} (hg : o.guard = some (g, b)) (hd : (ops[g]?).bind (·.dst) = some d) (hv : fget N F d = some (.bool b')) (hb : (b' == b) = false) : Wants N ops F o false := fun a hF => by
  have : b' ≠ b := by simpa using hb
  simp [Region.wanted, hg, yielded_of hF hd hv, this]
/-- Taken first. -/
theorem ta_float {i : Nat} {o : Oper} {v : Value} (hi : ops[i]? = some o) (hb : (Region.noSelect ops && Region.free .any ops listed i && (Region.ready .any ops listed).contains i) = true) (hw : Wants N ops F o true) (hy : Yq P N w0 F S o v)
    (h : TA P N w0 ops Q S n (listed.setIfInBounds i true) (fput F o.dst v) L) : TA P N w0 ops Q S (n + 1) listed F L := fun a w hF hS hC => by
  simp only [Bool.and_eq_true] at hb
  refine wpAnyC_first (v := v) hi (Region.noSelect_spec hb.1.1) (fun w w' h1 h2 => h1.grow h2) n listed a w hC (Region.free_spec hi hb.1.2) (by simpa using hb.2) (.inl ⟨hw a hF, fun w hw => hy a w hF hw⟩) (fun w' hw' => h _ _ (hF.put _ _) (hS.grow hw') (hC.grow hw'))
/-- The one that may come up now, whatever it does. -/
theorem ta_one {i : Nat} {o : Oper} (hi : ops[i]? = some o) (hr : Region.ready .any ops listed = [i]) (hw : Wants N ops F o true) (h : OpJ P N w0 F L o (fun F' L' => (∀ w, St w0 w L' → St w0 w S) ∧ TA P N w0 ops Q S n (listed.setIfInBounds i true) F' L')) : TA P N w0 ops Q S (n + 1) listed F L := fun a w hF hS hC => by
  refine ⟨fun h0 => (by rw [hr] at h0; cases h0), fun j hj => ?_⟩
  rw [hr, List.mem_singleton] at hj
  subst hj
  unfold cOp
  simp only [hi, hw a hF, if_true]
  exact wp_of_noQ (fun a' w' ⟨F', L', ⟨h1, h2⟩, h3, h4⟩ w'' hw'' => ⟨h1 _ (h4.grow hw''), h2 a' w'' h3 (h4.grow hw'') (h1 _ (h4.grow hw''))⟩) (h a w hF hS)
end
end Go.Proofs.YtoibebmhfcjpfaaGreatDoor.E

namespace Go.Proofs.YtoibebmhfcjpfaaGreatDoor.E
open Go.RowKit

theorem getI {k : IntKind} {zs : List Int} {j : Nat} (h : j < zs.length) : (zs.map (Value.int k))[j]? = some (.int k zs[j]) := by simp [h]
theorem getF {α : Type} {c : α → List Value} {s : Nat} {l : List α} {j : Nat} (hc : ∀ x, (c x).length = s) (h : j < l.length) : ∀ i u, (c l[j])[i]? = some u → (l.flatMap c)[j * s + i]? = some u := fun i u hu => by
  have hi : i < s := by rw [← hc l[j]]; exact (List.getElem?_eq_some_iff.1 hu).1
  rw [flatMap_get l (fun x _ => hc x) j i h hi]
  exact hu
theorem lenF {α : Type} {c : α → List Value} {s n : Nat} {l : List α} (hc : ∀ x, (c x).length = s) (h : l.length = n) : (l.flatMap c).length = n * s := by
  subst h
  induction l with
  | nil => simp
  | cons x l ih => rw [List.flatMap_cons, List.length_append, hc, ih, List.length_cons, Nat.succ_mul, Nat.add_comm]
theorem oneI {k : IntKind} {zs : List Int} : ∀ u ∈ zs.map (Value.int k), u.oneCell' = true := fun u hu => by
  obtain ⟨z, _, rfl⟩ := List.mem_map.1 hu
  rfl
theorem oneF {α : Type} {c : α → List Value} {l : List α} (hc : ∀ x, (c x).all (·.oneCell') = true) : ∀ u ∈ l.flatMap c, u.oneCell' = true := fun u hu => by
  obtain ⟨x, _, h⟩ := List.mem_flatMap.1 hu
  exact List.all_eq_true.1 (hc x) u h
theorem v_int {k : IntKind} {a b : Int} (h : a = b) : some (Value.int k a) = some (.int k b) := by rw [h]
theorem v_bool {a b : Bool} (h : a = b) : some (Value.bool a) = some (.bool b) := by rw [h]

section
variable {P : Program} {N : Nat} {w0 : World} {F : Frm} {L : List Res} {d : Option Tmp} {x y z : Operand} {v u : Value} {ty t t' : TypeId} {pos : String} {af : Array Edge} {gd : Option (Nat × Bool)} {K : Frm → List Res → Prop}

theorem St.sel {w : World} (h : St w0 w L) (ks : List Nat) (hs : ks.map (lget L) = (sel L ks).map some) (hn : ks.Nodup) : St w0 w (sel L ks) := h.pick ks _ hs hn

/-- A store of a block whole. -/
theorem oj_storeW {b s : Nat} {cs vs : List Value} (i : Nat) (hs : ∀ w, (sizeOf t).run P w = .ok s w) (hx : FE N F x (.pointer (some ⟨b, 0, none⟩))) (hy : FE N F y v) (hv : v.cells = vs.toArray) (hl : vs.length = s) (h1 : vs.all (·.oneCell') = true) (hk : lget L i = some (blk b cs)) (ho : Nat.beq s cs.length = true)
    (h : K (fput F d undef) (lset L i (blk b vs))) : OpJ P N w0 F L ⟨d, .store t x y, ty, pos, af, gd⟩ K :=
  oj_store (cs := cs) i hs hx hy hv hl h1 hk (by rw [Nat.zero_add, Nat.eq_of_beq_eq_true ho]; exact Nat.ble_eq_true_of_le (Nat.le_refl _)) (by rw [List.take_zero, Nat.zero_add, Nat.eq_of_beq_eq_true ho, List.drop_length]; simp) h
/-- A store of one cell. -/
theorem oj_store1 {b o : Nat} {cs : List Value} (i : Nat) (hs : ∀ w, (sizeOf t).run P w = .ok 1 w) (hx : FE N F x (.pointer (some ⟨b, o, none⟩))) (hy : FE N F y v) (hv : v.cells = #[v]) (h1 : v.oneCell' = true) (hk : lget L i = some (blk b cs)) (ho : Nat.blt o cs.length = true)
    (h : K (fput F d undef) (lset L i (blk b (cs.set o v)))) : OpJ P N w0 F L ⟨d, .store t x y, ty, pos, af, gd⟩ K := by
  have ho' : o < cs.length := of_eq_true (by simp only [Nat.blt_eq] at ho; simp [ho])
  exact oj_store (cs := cs) i hs hx hy (vs := [v]) hv rfl (by simp [h1]) hk (Nat.ble_eq_true_of_le ho') (by rw [List.set_eq_take_append_cons_drop, if_pos ho']; simp) h

/-- A call that hands back a value, and makes memory at most. -/
theorem oj_callv {xs : Array Operand} {ts : Array TypeId} {f : FuncId} {vs : List Value} {fc : Operand} (hcall : ∀ args w, (callFunc f args).run P w = .ok (.enter f args) w) (hf : FE N F fc (.func (.func f) #[] #[])) (hx : FEL N F xs.toList vs)
    (hc : ∀ w, St w0 w L → Calls P f vs.toArray w (fun e w' => e = .returned v ∧ St w w' [])) (h : K (fput F d v) L) : OpJ P N w0 F L ⟨d, .call ⟨.value fc, xs, ts⟩, ty, pos, af, gd⟩ K :=
  oj_call (α := Unit) (p := fun _ => True) (r := fun _ => v) (M := fun _ => []) hcall hf hx (fun w hS => (hc w hS).mono fun e w' ⟨h1, h2⟩ => ⟨(), trivial, h1, h2⟩) (fun _ _ => h)

theorem of_bel {f : FuncId} {args : Array Value} {w : World} (h : Calls P f args w fun e w' => e = .returned v ∧ Below w.heap.size w w') : Calls P f args w fun e w' => e = .returned v ∧ St w w' [] := h.mono fun _ _ ⟨h1, h2⟩ => ⟨h1, St.of_below h2⟩
theorem of_eq {f : FuncId} {args : Array Value} {w : World} (h : Calls P f args w fun e w' => e = .returned v ∧ w = w') : Calls P f args w fun e w' => e = .returned v ∧ St w w' [] := h.mono fun _ _ ⟨h1, h2⟩ => ⟨h1, h2 ▸ St.refl _⟩
theorem vec_nil {e s : Nat} : ∀ w, (vec e s (.slice none 0 0) 0 []).holds w := fun w => OwnV.nil w e s
end
end Go.Proofs.YtoibebmhfcjpfaaGreatDoor.E

namespace Go.Proofs.YtoibebmhfcjpfaaGreatDoor.E
open Go.RowKit

theorem splice_mid {α : Type} (cur vs : List α) (off j t : Nat) (h1 : j + vs.length ≤ t) (h2 : off + t ≤ cur.length) :
    ((cur.take (off + j) ++ vs ++ cur.drop (off + j + vs.length)).drop off).take t = ((cur.drop off).take t).take j ++ vs ++ ((cur.drop off).take t).drop (j + vs.length) := by
  have e1 : (cur.take (off + j) ++ vs ++ cur.drop (off + j + vs.length)).drop off = (cur.drop off).take j ++ vs ++ cur.drop (off + j + vs.length) := by
    rw [List.append_assoc, List.drop_append_of_le_length (by rw [List.length_take]; omega), List.drop_take, Nat.add_sub_cancel_left, List.append_assoc]
  rw [e1, List.take_append, List.take_append]
  have l1 : ((cur.drop off).take j).length = j := by rw [List.length_take, List.length_drop]; omega
  rw [l1, List.take_take, List.take_take, Nat.min_eq_right (by omega), Nat.min_eq_left (by omega), List.take_of_length_le (l := vs) (by omega)]
  congr 1
  rw [List.drop_take, List.drop_drop]
  congr 1
  · rw [List.length_append, l1]
  · congr 1; omega

section
variable {P : Program} {N : Nat} {w0 : World} {F : Frm} {L : List Res} {d : Option Tmp} {x y z : Operand} {v u : Value} {ty t t' : TypeId} {pos : String} {af : Array Edge} {gd : Option (Nat × Bool)} {K : Frm → List Res → Prop}

/-- A slice of the call's own, all that is to be told of it. -/
structure Vs where
  A : Option Addr
  n : Nat
  c : Nat
  xs : List Value

/-- append of what a slice reads as, be it nothing. -/
theorem oj_appg {e s bytes n m c i : Nat} {z : Value} {xs news : List Value} {A : Option Addr} (hu : P.underlying t = some (.slice e)) (hi : (P.info? e).map (fun i => (i.zero, i.size, i.bytes)) = some (some z, s, bytes)) (hx : FE N F x v) (hy : FE N F y (.slice A m c))
    (hk : lget L i = some (vec e s v n xs)) (hr : RdL w0 L A news) (hl : news.length = m * s) (hz : z.cells.size = s ∧ 0 < s) (h1 : ∀ u ∈ news, u.oneCell' = true) (hb : n + m ≤ 1000000000000 ∧ bytes ≤ 140)
    (h : ∀ A' c', n + m ≤ c' → K (fput F d (.slice A' (n + m) c')) (lset L i (vec e s (.slice A' (n + m) c') (n + m) (xs ++ news)))) : OpJ P N w0 F L ⟨d, .call ⟨.builtin .append, #[x, y], #[t, t]⟩, ty, pos, af, gd⟩ K := fun a w hF hS => by
  obtain ⟨inf, h2, h3, h4, h5⟩ := info_parts' hi
  have hbytes : (n + m) * bytes ≤ 140737488355328 := Nat.le_trans (Nat.mul_le_mul hb.1 hb.2) (by omega)
  have hown := hS.holds i _ hk
  cases A with
  | none =>
    have hn : news = [] := by
      rcases hr w hS with h | ⟨_, _, h, _⟩
      · exact h
      · cases h
    subst hn
    have hm : m = 0 := by
      have : m * s = 0 := by simpa using hl.symm
      rcases Nat.mul_eq_zero.1 this with h | h
      · exact h
      · omega
    subst hm
    obtain ⟨A', c', rfl, hc', _⟩ := OwnV.form hown
    have hrun : (execOp a.eval ⟨d, .call ⟨.builtin .append, #[x, y], #[t, t]⟩, ty, pos, af, gd⟩).run P w = .ok (.value (.slice A' n c')) w := by
      have hle : n ≤ c' := hc'
      cases A' <;> simp [execOp, resolve, invoke, builtin, hx a hF, hy a hF, Builtin.append_, run_underlying hu, sizeOf, typeInfo, h2, Builtin.lenOf, hle, Builtin.firstCells, storeCells]
    unfold Oper.wp
    rw [hrun]
    refine ⟨_, _, h A' c' hc', hF.put _ _, hS.turn hk rfl rfl rfl (Nat.le_refl _) (fun _ _ _ => rfl) (by simpa [vec] using hown) (fun b hb' => ⟨(hS.lt i _ hk b hb').2, .inl hb'⟩)⟩
  | some A =>
    have hnews : ∀ j u, news[j]? = some u → w.cell? (A.add j) = some u := by
      rcases hr w hS with hn | ⟨g, o, he, hc⟩
      · intro j u hu; rw [hn] at hu; simp at hu
      · intro j u hu
        simp only [Option.some.injEq] at he
        subst he
        rw [Addr.add_lit]
        exact hc j u hu
    obtain ⟨v', w', hrun, r1, r2, r3⟩ := run_append_ownV (P := P) w t ty e inf z s bytes hu h2 h3 h4 h5 hz.1 hz.2 v n xs hown A m c news hl hnews h1 (by unfold maxLen; omega) hbytes
    have hrun2 : (execOp a.eval ⟨d, .call ⟨.builtin .append, #[x, y], #[t, t]⟩, ty, pos, af, gd⟩).run P w = .ok (.value v') w' := by
      simp [execOp, resolve, invoke, builtin, hx a hF, hy a hF, hrun]
    unfold Oper.wp
    rw [hrun2]
    obtain ⟨A', c', rfl, hc', _⟩ := OwnV.form r1
    exact ⟨_, _, h A' c' hc', hF.put _ _, turn_vec hS hk r1 r2 r3⟩

/-- make of n elements of one cell. -/
theorem oj_make {e bytes n : Nat} {z : Value} {k k' : IntKind} (hu : P.underlying t = some (.slice e)) (hi : (P.info? e).map (fun i => (i.zero, i.size, i.bytes)) = some (some z, 1, bytes)) (hx : FE N F x (.int k (n : Int))) (hy : FE N F y (.int k' (n : Int))) (hz : z.cells = #[z]) (hb : n ≤ 1000000000000 ∧ bytes ≤ 140)
    (h : ∀ b, K (fput F d (.slice (some ⟨b, 0, none⟩) n n)) (vec e 1 (.slice (some ⟨b, 0, none⟩) n n) n (List.replicate n z) :: L)) : OpJ P N w0 F L ⟨d, .makeSlice t x y, ty, pos, af, gd⟩ K := fun a w hF hS => by
  obtain ⟨inf, h2, h3, h4, h5⟩ := info_parts' hi
  have hbytes : inf.bytes * n ≤ 281474976710656 := by
    rw [h5]
    exact Nat.le_trans (Nat.mul_le_mul hb.2 hb.1) (by omega)
  have hb' : (inf.bytes : Int) * (n : Int) ≤ 281474976710656 := by
    have h : ((inf.bytes * n : Nat) : Int) ≤ 281474976710656 := by omega
    rwa [Int.natCast_mul] at h
  have hr := run_make (P := P) w t e inf z hu h2 h3 k k' n n (by omega) (Int.le_refl _) hb' (by omega)
  simp only [Int.toNat_natCast] at hr
  have hm : (madeCells z.cells (n * inf.size)).toList = List.replicate n z := by
    rw [h4, Nat.mul_one, hz]
    apply List.ext_getElem?
    intro j
    simp only [madeCells]
    by_cases hj : j < n
    · simp [hj, List.getElem?_replicate, Nat.mod_one]
    · simp [hj, List.getElem?_replicate]
  have hrun : (execOp a.eval ⟨d, .makeSlice t x y, ty, pos, af, gd⟩).run P w = .ok (.value (.slice (some ⟨w.heap.size, 0, none⟩) n n)) (w.alloc (.cells (madeCells z.cells (n * inf.size)) e)) := by
    simp [execOp, hx a hF, hy a hF, hr]
  unfold Oper.wp
  rw [hrun]
  refine ⟨_, _, h w.heap.size, hF.put _ _, hS.add (alloc_new w _) ⟨by simp, .inr ⟨w.heap.size, 0, n, _, rfl, heap_alloc_new w _, Nat.le_refl _, by unfold maxLen; omega, ?_, ?_⟩⟩ (fun b hb => ?_)⟩
  · rw [← Array.length_toList, hm]; simp
  · rw [hm]; simp
  · simp only [vec, Value.ownBlock, Option.toList_some, List.mem_singleton] at hb
    subst hb
    exact ⟨Nat.le_refl _, by simp⟩

/-- A store into a slice of the call's own. -/
theorem oj_storeE {e s sz n m c j i : Nat} {xs vs xs' : List Value} {A : Option Addr} (hs : ∀ w, (sizeOf t).run P w = .ok sz w) (hx : FE N F x (elt A j)) (hy : FE N F y v) (hv : v.cells = vs.toArray) (hl : vs.length = sz) (h1 : vs.all (·.oneCell') = true) (hk : lget L i = some (vec e s (.slice A m c) n xs)) (hj : j + sz ≤ n * s) (hp : 0 < sz) (hc : xs.take j ++ vs ++ xs.drop (j + sz) = xs')
    (h : K (fput F d undef) (lset L i (vec e s (.slice A m c) n xs'))) : OpJ P N w0 F L ⟨d, .store t x y, ty, pos, af, gd⟩ K := fun a w hF hS => by
  subst hc hl
  have hown := hS.holds i _ hk
  obtain ⟨hlen, hn | ⟨g, off, cap, cur, hv', hg, hnc, hcm, hcs, htk⟩⟩ := hown
  · exfalso
    obtain ⟨_, rfl⟩ := hn
    omega
  injection hv' with e1 e2 e3
  subst e1 e2 e3
  have hfit : off + j + vs.length ≤ cur.size := by
    have : m * s ≤ c * s := Nat.mul_le_mul_right _ hnc
    omega
  have hst := run_storeCells_at P g (off + j) e vs 0 cur w hg (by simpa using hfit) (fun u hu => List.all_eq_true.1 h1 u hu)
  simp only [Nat.add_zero] at hst
  have hsz : v.cells.size = vs.length := by rw [hv]; simp
  have hrun : (execOp a.eval ⟨d, .store t x y, ty, pos, af, gd⟩).run P w = .ok .skip (w.setRow g (cur.toList.take (off + j) ++ vs ++ cur.toList.drop (off + j + vs.length)).toArray) := by
    simp only [execOp, hx a hF, hy a hF, elt, Instr.storeAt, Instr.sureAddr, storeVar, Sem.run_bind, Sem.run_pure, Result.andThen_ok, hs, hsz, ne_eq, not_true_eq_false, if_false, hv]
    simp [hst]
  unfold Oper.wp
  rw [hrun]
  have hgl : g < w.heap.size := (Array.getElem?_eq_some_iff.1 hg).1
  refine ⟨_, _, h, hF.put _ _, turn_vec hS hk ⟨?_, .inr ⟨g, off, c, _, rfl, setRow_heap w g cur _ e _ hg, hnc, hcm, ?_, ?_⟩⟩ ⟨rfl, rfl, rfl, by simp [World.setRow], fun k _ hk => setRow_other w g k _ (fun e => hk (by simp [Value.ownBlock, e]))⟩ (fun g' hg' => ?_)⟩
  · rw [List.length_append, List.length_append, List.length_take, List.length_drop, hlen]; omega
  · simp only [List.size_toArray, List.length_append, List.length_take, List.length_drop, Array.length_toList]; omega
  · have := splice_mid cur.toList vs off j (m * s) hj (by rw [Array.length_toList]; have : m * s ≤ c * s := Nat.mul_le_mul_right _ hnc; omega)
    rw [htk] at this
    simpa using this
  · have : g = g' := by simpa [Value.ownBlock] using hg'
    subst this
    exact ⟨by simpa [World.setRow] using hgl, .inl (by simp [Value.ownBlock])⟩
theorem oj_storeE1 {e n m c j i : Nat} {xs : List Value} {A : Option Addr} (hs : ∀ w, (sizeOf t).run P w = .ok 1 w) (hx : FE N F x (elt A j)) (hy : FE N F y v) (hv : v.cells = #[v]) (h1 : v.oneCell' = true) (hk : lget L i = some (vec e 1 (.slice A m c) n xs)) (hj : j < n)
    (h : K (fput F d undef) (lset L i (vec e 1 (.slice A m c) n (xs.set j v)))) : OpJ P N w0 F L ⟨d, .store t x y, ty, pos, af, gd⟩ K := fun a w hF hS => by
  have hlen : xs.length = n := by have := (hS.holds i _ hk).1; omega
  exact oj_storeE (vs := [v]) (xs := xs) hs hx hy hv rfl (by simp [h1]) hk (by omega) (by omega) (by rw [List.set_eq_take_append_cons_drop, if_pos (by omega)]; simp) h a w hF hS

/-- The address of a slice cut at l. -/
def cutA (A : Option Addr) (l c s : Nat) : Option Addr := if c = l then A else A.map (·.add (l * s))
theorem rd_cut {w : World} {A : Option Addr} {xs : List Value} {n c s a b : Nat} (h : Rd w A xs) (hl : xs.length = n * s) (h1 : a ≤ b) (h2 : b ≤ n) (hc : n ≤ c) : Rd w (cutA A a c s) ((xs.drop (a * s)).take ((b - a) * s)) := by
  unfold cutA
  by_cases hca : c = a
  · refine .inl ?_
    rw [show b - a = 0 by omega]; simp
  · rw [if_neg hca]
    rcases h with h | ⟨g, off, rfl, hcell⟩
    · exact .inl (by simp [h])
    · refine .inr ⟨g, off + a * s, by simp [Addr.add_lit], fun j u hu => ?_⟩
      rw [List.getElem?_take] at hu
      split at hu
      · rw [List.getElem?_drop] at hu
        have := hcell _ u hu
        rwa [← Nat.add_assoc] at this
      · cases hu
theorem rd_dropI {w : World} {A : Option Addr} {k : IntKind} {zs : List Int} {n c l : Nat} (h : Rd w A (zs.map (.int k))) (hl : zs.length = n) (h1 : l ≤ n) (hc : n ≤ c) : Rd w (cutA A l c 1) ((zs.drop l).map (.int k)) := by
  have := rd_cut (s := 1) (a := l) (b := n) h (by simp [hl]) h1 (Nat.le_refl _) hc
  rw [List.take_of_length_le (by simp [hl])] at this
  simpa [List.map_drop] using this
theorem cutA_zero {A : Option Addr} {c s : Nat} : cutA A 0 c s = A := by
  unfold cutA
  split
  · rfl
  · cases A <;> simp [Addr.add]

theorem y_cutL {e s n c l : Nat} {A : Option Addr} {k : IntKind} (hu : P.underlying t = some (.slice e)) (hs : ∀ w, (sizeOf e).run P w = .ok s w) (hx : FE N F x (.slice A n c)) (hy : FE N F y (.int k (l : Int))) (h1 : l ≤ n) : Yld P N w0 F L ⟨d, .slice t x (some y) none none, ty, pos, af, gd⟩ (.slice (cutA A l c s) (n - l) (c - l)) := fun a w hF _ => by
  have hE : P.elem t = e := by simp [Program.elem, hu]
  have ht' : P.underlying t = some (.slice (P.elem t)) := by rw [hE]; exact hu
  have hr : (Instr.sliceAt t (.slice A n c) (some (.int k l)) none none).run P w = .ok (.slice (cutA A l c s) (n - l) (c - l)) w := by
    rw [run_sliceAt_slice w t _ _ _ _ ht', run_slice_l w t A n c ht' k (l : Int) (by omega) (by omega), hE]
    simp [hs, Result.andThen, sliced, cutA]
  simp [execOp, hx a hF, hy a hF, hr]
theorem y_cutH {e s n c l : Nat} {A : Option Addr} {k : IntKind} (hu : P.underlying t = some (.slice e)) (hs : ∀ w, (sizeOf e).run P w = .ok s w) (hx : FE N F x (.slice A n c)) (hy : FE N F y (.int k (l : Int))) (h1 : l ≤ c) : Yld P N w0 F L ⟨d, .slice t x none (some y) none, ty, pos, af, gd⟩ (.slice A l c) := fun a w hF _ => by
  have hE : P.elem t = e := by simp [Program.elem, hu]
  have ht' : P.underlying t = some (.slice (P.elem t)) := by rw [hE]; exact hu
  have hr : (Instr.sliceAt t (.slice A n c) none (some (.int k l)) none).run P w = .ok (.slice A l c) w := by
    rw [run_sliceAt_slice w t _ _ _ _ ht', run_slice_h w t A n c ht' k (l : Int) (by omega) (by omega), hE]
    have := cutA_zero (A := A) (c := c) (s := s)
    unfold cutA at this
    simp [hs, Result.andThen, sliced]
    intro h
    cases A <;> simp [Addr.add]
  simp [execOp, hx a hF, hy a hF, hr]

/-- Slices of the call's own that are only read from now on. -/
def rows (e s : Nat) (hs : List Value) (xss : List (List Value)) : Res where
  foot := hs.flatMap fun h => h.ownBlock.toList
  holds w := hs.length = xss.length ∧ ∀ i h xs, hs[i]? = some h → xss[i]? = some xs → ∃ n, OwnV w e s h n xs
  stable w w' hf hh := ⟨hh.1, fun i h xs hi hx => by
    obtain ⟨n, ho⟩ := hh.2 i h xs hi hx
    refine ⟨n, (vec e s h n xs).stable w w' (fun b hb => hf b ?_) ho⟩
    exact List.mem_flatMap.2 ⟨h, List.mem_of_getElem? hi, hb⟩⟩
theorem rows_nil {e s : Nat} : ∀ w, (rows e s [] []).holds w := fun w => ⟨rfl, fun i h xs hi => by simp at hi⟩
/-- One slice goes to those that are only read. -/
theorem St.absorb {w : World} {e s n i j : Nat} {xs : List Value} {hs : List Value} {xss : List (List Value)} (h : St w0 w L) (hi : lget L i = some (vec e s v n xs)) (hj : lget L j = some (rows e s hs xss)) (hne : i ≠ j) : St w0 w (lset (lset L j (rows e s (hs ++ [v]) (xss ++ [xs]))) i (vec e s (.slice none 0 0) 0 [])) := by
  have hv := h.holds i _ hi
  have hr := h.holds j _ hj
  have key : ∀ k r, lget (lset (lset L j (rows e s (hs ++ [v]) (xss ++ [xs]))) i (vec e s (.slice none 0 0) 0 [])) k = some r → (k = i ∧ r = vec e s (.slice none 0 0) 0 []) ∨ (k = j ∧ r = rows e s (hs ++ [v]) (xss ++ [xs])) ∨ (k ≠ i ∧ k ≠ j ∧ lget L k = some r) := by
    intro k r hk
    rw [lget_lset] at hk
    split at hk
    · rename_i e1
      subst e1
      rw [lget_lset, if_neg hne, hi] at hk
      exact .inl ⟨rfl, by simpa using hk.symm⟩
    · rename_i e1
      rw [lget_lset] at hk
      split at hk
      · rename_i e2
        subst e2
        rw [hj] at hk
        exact .inr (.inl ⟨rfl, by simpa using hk.symm⟩)
      · rename_i e2
        exact .inr (.inr ⟨e1, e2, hk⟩)
  have hfoot : ∀ b, b ∈ (rows e s (hs ++ [v]) (xss ++ [xs])).foot → b ∈ (rows e s hs xss).foot ∨ b ∈ (vec e s v n xs).foot := by
    intro b hb
    simp only [rows, List.flatMap_append, List.mem_append, List.flatMap_cons, List.flatMap_nil, List.append_nil] at hb
    exact hb
  refine ⟨h.below, fun k r hk => ?_, fun k r hk b hb => ?_, fun k l r t hk hl hkl b hb hb' => ?_⟩
  · rcases key k r hk with ⟨_, rfl⟩ | ⟨_, rfl⟩ | ⟨_, _, h1⟩
    · exact OwnV.nil w e s
    · refine ⟨by simp [hr.1], fun q h' ys hq hy => ?_⟩
      rw [List.getElem?_append] at hq hy
      split at hq
      · rename_i hlt
        rw [if_pos (by rw [← hr.1]; exact hlt)] at hy
        exact hr.2 q h' ys hq hy
      · rename_i hlt
        rw [if_neg (by rw [← hr.1]; exact hlt)] at hy
        have hq0 : q - hs.length = 0 := by
          have := (List.getElem?_eq_some_iff.1 hq).1
          simpa using this
        rw [hq0] at hq
        rw [← hr.1, hq0] at hy
        simp only [List.getElem?_cons_zero, Option.some.injEq] at hq hy
        subst hq hy
        exact ⟨n, hv⟩
    · exact h.holds k r h1
  · rcases key k r hk with ⟨_, rfl⟩ | ⟨_, rfl⟩ | ⟨_, _, h1⟩
    · simp [vec, Value.ownBlock] at hb
    · rcases hfoot b hb with h2 | h2
      · exact h.lt j _ hj b h2
      · exact h.lt i _ hi b h2
    · exact h.lt k r h1 b hb
  · rcases key k r hk with ⟨_, rfl⟩ | ⟨rfl, rfl⟩ | ⟨k1, k2, h1⟩
    · simp [vec, Value.ownBlock] at hb
    · rcases key l t hl with ⟨_, rfl⟩ | ⟨rfl, rfl⟩ | ⟨l1, l2, h3⟩
      · simp [vec, Value.ownBlock] at hb'
      · exact hkl rfl
      · rcases hfoot b hb with h2 | h2
        · exact h.sep k l _ _ hj h3 (Ne.symm l2) b h2 hb'
        · exact h.sep i l _ _ hi h3 (Ne.symm l1) b h2 hb'
    · rcases key l t hl with ⟨_, rfl⟩ | ⟨rfl, rfl⟩ | ⟨l1, l2, h3⟩
      · simp [vec, Value.ownBlock] at hb'
      · rcases hfoot b hb' with h2 | h2
        · exact h.sep k l _ _ h1 hj k2 b hb h2
        · exact h.sep k i _ _ h1 hi k1 b hb h2
      · exact h.sep k l _ _ h1 h3 hkl b hb hb'
theorem tr_absorb {Q : Exit → Act → World → Prop} {c : Code} {e s n : Nat} {xs : List Value} {hs : List Value} {xss : List (List Value)} (i j : Nat) (hi : lget L i = some (vec e s v n xs)) (hj : lget L j = some (rows e s hs xss)) (hne : Nat.beq i j = false)
    (h : TR P N w0 Q c F (lset (lset L j (rows e s (hs ++ [v]) (xss ++ [xs]))) i (vec e s (.slice none 0 0) 0 []))) : TR P N w0 Q c F L := fun a w hF hS => h a w hF (hS.absorb hi hj (Nat.ne_of_beq_eq_false hne))
end
end Go.Proofs.YtoibebmhfcjpfaaGreatDoor.E
