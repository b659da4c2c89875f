/- A call's own memory as a list of things that it holds, beside a world that stays as it was. -/
import Derived.Test.YtpknjfeiiaopgaaMem
import Derived.Laws.AppendOwn
namespace Go.Proofs.Ytpknjfeiiaopgaa.E
open Go.RowKit

/-- Something that a call holds: its blocks, and what is in them. -/
structure Res where
  foot : List Nat
  holds : World → Prop
  stable : ∀ w w', (∀ b ∈ foot, w'.heap[b]? = w.heap[b]?) → holds w → holds w'

def lget : List Res → Nat → Option Res
  | [], _ => none
  | r :: _, 0 => some r
  | _ :: l, i + 1 => lget l i
def lset : List Res → Nat → Res → List Res
  | [], _, _ => []
  | _ :: l, 0, r => r :: l
  | x :: l, i + 1, r => x :: lset l i r
def ldrop : Nat → List Res → List Res
  | 0, L => L
  | _, [] => []
  | n + 1, _ :: l => ldrop n l
def lsets (L : List Res) : List (Nat × Res) → List Res
  | [] => L
  | (k, r) :: l => lsets (lset L k r) l
theorem lget_lset : ∀ (L : List Res) (k i : Nat) (r : Res), lget (lset L k r) i = if i = k then (lget L k).map (fun _ => r) else lget L i
  | [], k, i, r => by simp [lset, lget]
  | x :: l, 0, 0, r => by simp [lset, lget]
  | x :: l, 0, i + 1, r => by simp [lset, lget]
  | x :: l, k + 1, 0, r => by simp [lset, lget]
  | x :: l, k + 1, i + 1, r => by
    simp only [lset, lget, lget_lset l k i r]
    by_cases h : i = k
    · simp [h]
    · simp [h]
theorem lget_append : ∀ (M L : List Res) (i : Nat), lget (M ++ L) i = if i < M.length then lget M i else lget L (i - M.length)
  | [], L, i => by simp [lget]
  | x :: M, L, 0 => by simp [lget]
  | x :: M, L, i + 1 => by simp [lget, lget_append M L i]

/-- The world w, begun from w0: nothing of w0 has turned; what is held is there, and new. -/
structure St (w0 w : World) (L : List Res) : Prop where
  below : Below w0.heap.size w0 w
  holds : ∀ i r, lget L i = some r → r.holds w
  lt : ∀ i r, lget L i = some r → ∀ b ∈ r.foot, w0.heap.size ≤ b ∧ b < w.heap.size
  sep : ∀ i j r s, lget L i = some r → lget L j = some s → i ≠ j → ∀ b ∈ r.foot, b ∉ s.foot

section
variable {w0 w w' : World} {L M : List Res}

theorem St.refl (w : World) : St w w [] := ⟨Below.refl _ _, fun _ _ h => by simp [lget] at h, fun _ _ h => by simp [lget] at h, fun _ _ _ _ h => by simp [lget] at h⟩
theorem St.size (h : St w0 w L) : w0.heap.size ≤ w.heap.size := h.below.size
theorem St.of_below (h : Below w.heap.size w w') : St w w' [] := ⟨h, fun _ _ h => by simp [lget] at h, fun _ _ h => by simp [lget] at h, fun _ _ _ _ h => by simp [lget] at h⟩

/-- More memory. -/
theorem St.grow (h : St w0 w L) (hb : Below w.heap.size w w') : St w0 w' L := by
  refine ⟨h.below.trans (hb.mono h.size), fun i r hi => ?_, fun i r hi b hb' => ?_, h.sep⟩
  · exact r.stable w w' (fun b hb' => hb.block b (h.lt i r hi b hb').2) (h.holds i r hi)
  · have := h.lt i r hi b hb'
    exact ⟨this.1, Nat.lt_of_lt_of_le this.2 hb.size⟩
theorem St.drew (h : St w0 w L) : St w0 w.drew L := h.grow (Below.refl _ _).drew
theorem St.drewN (h : St w0 w L) (n : Nat) : St w0 (w.drewN n) L := h.grow (below_drewN (Below.refl _ _) n)

/-- What a call has made in the meantime comes in front. -/
theorem St.call (h : St w0 w L) (hc : St w w' M) : St w0 w' (M ++ L) := by
  have hg := h.grow hc.below
  refine ⟨hg.below, fun i r hi => ?_, fun i r hi b hb => ?_, fun i j r s hi hj hne b hb hb' => ?_⟩
  · rw [lget_append] at hi
    split at hi
    · exact hc.holds i r hi
    · exact hg.holds _ r hi
  · rw [lget_append] at hi
    split at hi
    · have := hc.lt i r hi b hb
      exact ⟨Nat.le_trans h.size this.1, this.2⟩
    · exact hg.lt _ r hi b hb
  · rw [lget_append] at hi hj
    split at hi
    · split at hj
      · exact hc.sep i j r s hi hj hne b hb hb'
      · have h1 := hc.lt i r hi b hb
        have h2 := h.lt _ s hj b hb'
        omega
    · split at hj
      · have h1 := hc.lt j s hj b hb'
        have h2 := h.lt _ r hi b hb
        omega
      · exact h.sep _ _ r s hi hj (by omega) b hb hb'

/-- A thing more, of new blocks. -/
theorem St.add {r : Res} (h : St w0 w L) (hb : Below w.heap.size w w') (hr : r.holds w') (hf : ∀ b ∈ r.foot, w.heap.size ≤ b ∧ b < w'.heap.size) : St w0 w' (r :: L) := by
  have : St w w' [r] := ⟨hb, fun i s hi => by
      match i with
      | 0 => simp only [lget, Option.some.injEq] at hi; subst hi; exact hr
      | i + 1 => simp [lget] at hi, fun i s hi => by
      match i with
      | 0 => simp only [lget, Option.some.injEq] at hi; subst hi; exact hf
      | i + 1 => simp [lget] at hi, fun i j s t hi hj hne => by
      match i, j with
      | 0, 0 => exact absurd rfl hne
      | i + 1, _ => simp [lget] at hi
      | 0, j + 1 => simp [lget] at hj⟩
  simpa using h.call this

/-- One thing turned, at its own blocks or at new ones. -/
theorem St.turn {k : Nat} {r r' : Res} (h : St w0 w L) (hk : lget L k = some r) (hos : w'.os = w.os) (htp : w'.tape = w.tape) (hout : w'.output = w.output) (hsz : w.heap.size ≤ w'.heap.size)
    (hbl : ∀ b, b < w.heap.size → b ∉ r.foot → w'.heap[b]? = w.heap[b]?) (hr : r'.holds w') (hf : ∀ b ∈ r'.foot, b < w'.heap.size ∧ (b ∈ r.foot ∨ w.heap.size ≤ b)) : St w0 w' (lset L k r') := by
  have hold := h.lt k r hk
  refine ⟨⟨hos.trans h.below.os, htp.trans h.below.tape, hout.trans h.below.output, Nat.le_trans h.size hsz, fun b hb => ?_⟩, fun i s hi => ?_, fun i s hi b hb => ?_, fun i j s t hi hj hne b hb hb' => ?_⟩
  · rw [hbl b (Nat.lt_of_lt_of_le hb h.size) (fun hm => by have := (hold b hm).1; omega)]
    exact h.below.block b hb
  · rw [lget_lset] at hi
    split at hi
    · simp only [hk, Option.map_some, Option.some.injEq] at hi
      subst hi
      exact hr
    · rename_i hne
      refine s.stable w w' (fun b hb => ?_) (h.holds i s hi)
      exact hbl b (h.lt i s hi b hb).2 (fun hm => h.sep i k s r hi hk hne b hb hm)
  · rw [lget_lset] at hi
    split at hi
    · simp only [hk, Option.map_some, Option.some.injEq] at hi
      subst hi
      obtain ⟨h1, h2 | h2⟩ := hf b hb
      · exact ⟨(hold b h2).1, h1⟩
      · exact ⟨Nat.le_trans h.size h2, h1⟩
    · have := h.lt i s hi b hb
      exact ⟨this.1, Nat.lt_of_lt_of_le this.2 hsz⟩
  · rw [lget_lset] at hi hj
    split at hi
    · simp only [hk, Option.map_some, Option.some.injEq] at hi
      subst hi
      split at hj
      · omega
      · rename_i h2
        obtain ⟨_, h3 | h3⟩ := hf b hb
        · exact h.sep k j r t hk hj (fun e => h2 e.symm) b h3 hb'
        · have := (h.lt j t hj b hb').2
          omega
    · rename_i h2
      split at hj
      · simp only [hk, Option.map_some, Option.some.injEq] at hj
        subst hj
        obtain ⟨_, h3 | h3⟩ := hf b hb'
        · exact h.sep i k s r hi hk h2 b hb h3
        · have := (h.lt i s hi b hb).2
          omega
      · exact h.sep i j s t hi hj hne b hb hb'

/-- Some of what is held, in another order. -/
def sel (L : List Res) : List Nat → List Res
  | [] => []
  | k :: ks => match lget L k with | some r => r :: sel L ks | none => sel L ks
theorem St.pick (h : St w0 w L) (ks : List Nat) (S : List Res) (hs : ks.map (lget L) = S.map some) (hn : ks.Nodup) : St w0 w S := by
  have key : ∀ (ks : List Nat) (S : List Res), ks.map (lget L) = S.map some → ∀ i r, lget S i = some r → ∃ k, ks[i]? = some k ∧ lget L k = some r := by
    intro ks
    induction ks with
    | nil => intro S hs i r hi; cases S with
      | nil => simp [lget] at hi
      | cons x S => simp at hs
    | cons k ks ih =>
      intro S hs i r hi
      cases S with
      | nil => simp at hs
      | cons x S =>
        simp only [List.map_cons, List.cons.injEq] at hs
        cases i with
        | zero => simp only [lget, Option.some.injEq] at hi; subst hi; exact ⟨k, by simp, hs.1⟩
        | succ i => exact ih S hs.2 i r hi
  refine ⟨h.below, fun i r hi => ?_, fun i r hi => ?_, fun i j r s hi hj hne => ?_⟩
  · obtain ⟨k, _, hk⟩ := key ks S hs i r hi
    exact h.holds k r hk
  · obtain ⟨k, _, hk⟩ := key ks S hs i r hi
    exact h.lt k r hk
  · obtain ⟨k, h1, hk⟩ := key ks S hs i r hi
    obtain ⟨l, h2, hl⟩ := key ks S hs j s hj
    refine h.sep k l r s hk hl (fun e => hne ?_)
    subst e
    obtain ⟨l1, e1⟩ := List.getElem?_eq_some_iff.1 h1
    obtain ⟨l2, e2⟩ := List.getElem?_eq_some_iff.1 h2
    exact (List.getElem_inj hn).1 (e1.trans e2.symm)
theorem St.tail {r : Res} (h : St w0 w (r :: L)) : St w0 w L :=
  ⟨h.below, fun i s hi => h.holds (i + 1) s hi, fun i s hi => h.lt (i + 1) s hi, fun i j s t hi hj hne => h.sep (i + 1) (j + 1) s t hi hj (by omega)⟩
end

/-- A block with these cells. -/
def blk (b : Nat) (cs : List Value) : Res where
  foot := [b]
  holds w := ∃ T, w.heap[b]? = some (.cells cs.toArray T (0, 0))
  stable w w' h := fun ⟨T, h1⟩ => ⟨T, (h b (by simp)).trans h1⟩

/-- v is nil, or n elements of `size` cells each, xs, in an array of the call's own. -/
def OwnV (w : World) (e : TypeId) (size : Nat) (v : Value) (n : Nat) (xs : List Value) : Prop :=
  xs.length = n * size ∧
  ((v = .slice none 0 0 ∧ n = 0) ∨
   ∃ g off cap cur, v = .slice (some ⟨g, off, none⟩) n cap ∧ w.heap[g]? = some (.cells cur e (0, 0)) ∧ n ≤ cap ∧ cap ≤ maxLen ∧ off + cap * size ≤ cur.size ∧ (cur.toList.drop off).take (n * size) = xs)

/-- A slice of the call's own: nil, or n elements of `size` cells. -/
def vec (e : TypeId) (size : Nat) (v : Value) (n : Nat) (xs : List Value) : Res where
  foot := v.ownBlock.toList
  holds w := OwnV w e size v n xs
  stable w w' h := by
    rintro ⟨h1, h2 | ⟨g, off, cap, cur, rfl, hg, rest⟩⟩
    · exact ⟨h1, .inl h2⟩
    · exact ⟨h1, .inr ⟨g, off, cap, cur, rfl, (h g (by simp [Value.ownBlock])).trans hg, rest⟩⟩

section
variable {w w' : World} {e : TypeId} {size : Nat} {v : Value} {n : Nat} {xs : List Value}

theorem OwnV.nil (w : World) (e : TypeId) (size : Nat) : OwnV w e size (.slice none 0 0) 0 [] := ⟨by simp, .inl ⟨rfl, rfl⟩⟩
theorem OwnV.of_own {base : Nat} (h : w.ownsRow base e size v n xs) : OwnV w e size v n xs := by
  refine ⟨h.1, ?_⟩
  rcases h.2 with h1 | ⟨g, cap, cur, h1, h2, h3, h4, h5, h6, h7⟩
  · exact .inl h1
  · exact .inr ⟨g, 0, cap, cur, h1, h3, h4, h5, by omega, by simpa using h7⟩
theorem OwnV.form (h : OwnV w e size v n xs) : ∃ (A : Option Addr) (c : Nat), v = .slice A n c ∧ n ≤ c ∧ Rd w A xs := by
  rcases h.2 with ⟨hv, hn⟩ | ⟨g, off, cap, cur, hv, hh, hl, hm, hs, ht⟩
  · have : xs = [] := List.eq_nil_of_length_eq_zero (by rw [h.1, hn, Nat.zero_mul])
    subst this
    exact ⟨none, 0, by rw [hv, hn], by omega, .inl rfl⟩
  · refine ⟨some ⟨g, off, none⟩, cap, hv, hl, .inr ⟨g, off, rfl, fun j u hu => ?_⟩⟩
    rw [← ht, List.getElem?_take] at hu
    split at hu
    · rw [cell_of_row w g (off + j) cur e (0, 0) hh]
      rw [List.getElem?_drop] at hu
      simpa using hu
    · cases hu
theorem OwnV.rd {A : Option Addr} {m c : Nat} (h : OwnV w e size (.slice A m c) n xs) : m = n ∧ n ≤ c ∧ Rd w A xs := by
  obtain ⟨A', c', he, hc, hr⟩ := h.form
  injection he with h1 h2 h3
  subst h1 h2 h3
  exact ⟨rfl, hc, hr⟩

variable {P : Program}
theorem run_append_roomV (w : World) (t ty e : TypeId) (i : TypeInfo) (ht : P.underlying t = some (.slice e)) (hi : P.info? e = some i)
    (g off sLen sCap : Nat) (cur : Array Value) (hg : w.heap[g]? = some (.cells cur e (0, 0)))
    (a : Addr) (m c : Nat) (news : List Value) (hl : news.length = m * i.size) (hnews : ∀ j u, news[j]? = some u → w.cell? (a.add j) = some u) (h1 : ∀ u ∈ news, u.oneCell' = true)
    (hroom : sLen + m ≤ sCap) (hfit : off + sLen * i.size + news.length ≤ cur.size) :
    (Builtin.append_ #[t, t] ty #[.slice (some ⟨g, off, none⟩) sLen sCap, .slice (some a) m c]).run P w =
      .ok (.slice (some ⟨g, off, none⟩) (sLen + m) sCap) (w.setRow g (cur.toList.take (off + sLen * i.size) ++ news ++ cur.toList.drop (off + sLen * i.size + news.length)).toArray) := by
  have hf := run_firstCells_some (P := P) w i.size m a m c news hl hnews
  have hst := run_storeCells_at P g (off + sLen * i.size) e news 0 cur w hg (by simpa using hfit) h1
  simp only [Nat.add_zero] at hst
  simp [Builtin.append_, run_underlying ht, sizeOf, typeInfo, hi, Builtin.lenOf, hroom, hf, Addr.add_lit, hst]

theorem run_append_ownV (w : World) (t ty e : TypeId) (i : TypeInfo) (z : Value) (size bytes : Nat) (ht : P.underlying t = some (.slice e)) (hi : P.info? e = some i) (hz : i.zero = some z)
    (hsize : i.size = size) (hby : i.bytes = bytes) (hzs : z.cells.size = size) (hsz : 0 < size)
    (v : Value) (n : Nat) (xs : List Value) (hown : OwnV w e size v n xs)
    (a : Addr) (m c : Nat) (news : List Value) (hl : news.length = m * size) (hnews : ∀ j u, news[j]? = some u → w.cell? (a.add j) = some u) (h1 : ∀ u ∈ news, u.oneCell' = true)
    (h63 : n + m ≤ maxLen) (hbytes : (n + m) * bytes ≤ 140737488355328) :
    ∃ v' w', (Builtin.append_ #[t, t] ty #[v, .slice (some a) m c]).run P w = .ok v' w' ∧ OwnV w' e size v' (n + m) (xs ++ news) ∧ w.grownBy w' v.ownBlock ∧ (∀ g, v'.ownBlock = some g → g < w'.heap.size ∧ (v.ownBlock = some g ∨ w.heap.size ≤ g)) := by
  subst hsize
  subst hby
  have hlen : (xs ++ news).length = (n + m) * i.size := by rw [List.length_append, hown.1, hl, Nat.add_mul]
  rcases hown.2 with ⟨rfl, rfl⟩ | ⟨g, off, cap, cur, rfl, hg, hnc, hcm, hcs, htake⟩
  · have hx : xs = [] := List.eq_nil_of_length_eq_zero (by simpa using hown.1)
    subst hx
    obtain ⟨v', w', r1, r2, r3, _⟩ := run_append_own (P := P) w w.heap.size t ty e i z i.size i.bytes ht hi hz rfl rfl hzs hsz (.slice none 0 0) 0 [] (World.ownsRow_nil w w.heap.size e i.size) a m c news hl hnews h1 h63 hbytes (Nat.le_refl _)
    exact ⟨v', w', r1, OwnV.of_own r2, r3, fun g hg => ⟨(World.ownsRow.lt r2 g hg).2, .inr (World.ownsRow.lt r2 g hg).1⟩⟩
  · have hgl : g < w.heap.size := (Array.getElem?_eq_some_iff.1 hg).1
    by_cases hroom : n + m ≤ cap
    · have hfit : off + n * i.size + news.length ≤ cur.size := by
        have : (n + m) * i.size ≤ cap * i.size := Nat.mul_le_mul_right _ hroom
        rw [hl]
        rw [Nat.add_mul] at this
        omega
      have hr := run_append_roomV (P := P) w t ty e i ht hi g off n cap cur hg a m c news hl hnews h1 hroom hfit
      refine ⟨_, _, hr, ⟨hlen, .inr ⟨g, off, cap, _, rfl, setRow_heap w g cur _ e _ hg, hroom, hcm, ?_, ?_⟩⟩, ⟨rfl, rfl, rfl, by simp, fun k _ hk => setRow_other w g k _ (fun e => hk (by simp [Value.ownBlock, e]))⟩, fun g' hg' => ?_⟩
      · simp only [List.size_toArray, List.length_append, List.length_take, List.length_drop, Array.length_toList]
        omega
      · have e1 : (cur.toList.take (off + n * i.size) ++ news ++ cur.toList.drop (off + n * i.size + news.length)).drop off = xs ++ news ++ cur.toList.drop (off + n * i.size + news.length) := by
          rw [List.append_assoc, List.drop_append_of_le_length (by simp; omega), List.drop_take, Nat.add_sub_cancel_left, htake, List.append_assoc]
        simp only [e1, ← hlen]
        exact List.take_left
      · have : g = g' := by simpa [Value.ownBlock] using hg'
        subst this
        exact ⟨by simpa [World.setRow] using hgl, .inl (by simp [Value.ownBlock])⟩
    · have holds : ∀ j u, xs[j]? = some u → w.cell? ((⟨g, off, none⟩ : Addr).add j) = some u := fun j u hu => by
        rw [Addr.add_lit, cell_of_row w g (off + j) cur e (0, 0) hg]
        rw [← htake, List.getElem?_take] at hu
        split at hu
        · rw [List.getElem?_drop] at hu
          simpa using hu
        · cases hu
      have hge := grownCap_ge w (n + m) cap e
      have hr := run_append_grow (P := P) w t ty e i z ht hi hz ⟨g, off, none⟩ n cap xs hown.1 holds a m c news hl hnews (by omega) (by simp only [maxLen] at h63; omega) (growslice_fits (by omega) hbytes)
      refine ⟨_, _, hr, ⟨hlen, .inr ⟨w.heap.size, 0, _, _, rfl, heap_alloc_new w.drew _, hge, grownCap_le_maxLen w (n + m) cap e h63, ?_, ?_⟩⟩, ⟨rfl, rfl, rfl, by simp, fun k hk _ => Go.heap_alloc_old _ _ hk⟩, fun g' hg' => ?_⟩
      · simp only [Array.size_append, List.size_toArray, size_zeroCells, hzs, hown.1, hl, ← Nat.add_mul, Nat.zero_add]
        exact Nat.mul_le_mul_right _ (by omega)
      · simp only [Array.toList_append, List.append_assoc, List.drop_zero]
        rw [← List.append_assoc, ← hlen]
        exact List.take_left
      · have : w.heap.size = g' := by simpa [Value.ownBlock] using hg'
        subst this
        exact ⟨by simp, .inr (Nat.le_refl _)⟩
end
end Go.Proofs.Ytpknjfeiiaopgaa.E
