/- More rules: any append, make, a store into a slice, a cut, rows of rows. -/
import Derived.Test.YtpknjfeiiaopgaaE4
namespace Go.Proofs.Ytpknjfeiiaopgaa.E
open Go.RowKit

theorem splice_mid {α : Type} (cur vs : List α) (off j t : Nat) (h1 : j + vs.length ≤ t) (h2 : off + t ≤ cur.length) :
    ((cur.take (off + j) ++ vs ++ cur.drop (off + j + vs.length)).drop off).take t = ((cur.drop off).take t).take j ++ vs ++ ((cur.drop off).take t).drop (j + vs.length) := by
  have e1 : (cur.take (off + j) ++ vs ++ cur.drop (off + j + vs.length)).drop off = (cur.drop off).take j ++ vs ++ cur.drop (off + j + vs.length) := by
    rw [List.append_assoc, List.drop_append_of_le_length (by rw [List.length_take]; omega), List.drop_take, Nat.add_sub_cancel_left, List.append_assoc]
  rw [e1, List.take_append, List.take_append]
  have l1 : ((cur.drop off).take j).length = j := by rw [List.length_take, List.length_drop]; omega
  rw [l1, List.take_take, List.take_take, Nat.min_eq_right (by omega), Nat.min_eq_left (by omega), List.take_of_length_le (l := vs) (by omega)]
  congr 1
  rw [List.drop_take, List.drop_drop]
  congr 1
  · rw [List.length_append, l1]
  · congr 1; omega

section
variable {P : Program} {N : Nat} {w0 : World} {F : Frm} {L : List Res} {d : Option Tmp} {x y z : Operand} {v u : Value} {ty t t' : TypeId} {pos : String} {af : Array Edge} {gd : Option (Nat × Bool)} {K : Frm → List Res → Prop}

/-- A slice of the call's own, all that is to be told of it. -/
structure Vs where
  A : Option Addr
  n : Nat
  c : Nat
  xs : List Value

/-- append of what a slice reads as, be it nothing. -/
theorem oj_appg {e s bytes n m c i : Nat} {z : Value} {xs news : List Value} {A : Option Addr} (hu : P.underlying t = some (.slice e)) (hi : (P.info? e).map (fun i => (i.zero, i.size, i.bytes)) = some (some z, s, bytes)) (hx : FE N F x v) (hy : FE N F y (.slice A m c))
    (hk : lget L i = some (vec e s v n xs)) (hr : RdL w0 L A news) (hl : news.length = m * s) (hz : z.cells.size = s ∧ 0 < s) (h1 : ∀ u ∈ news, u.oneCell' = true) (hb : n + m ≤ 1000000000000 ∧ bytes ≤ 140)
    (h : ∀ A' c', n + m ≤ c' → K (fput F d (.slice A' (n + m) c')) (lset L i (vec e s (.slice A' (n + m) c') (n + m) (xs ++ news)))) : OpJ P N w0 F L ⟨d, .call ⟨.builtin .append, #[x, y], #[t, t]⟩, ty, pos, af, gd⟩ K := fun a w hF hS => by
  obtain ⟨inf, h2, h3, h4, h5⟩ := info_parts' hi
  have hbytes : (n + m) * bytes ≤ 140737488355328 := Nat.le_trans (Nat.mul_le_mul hb.1 hb.2) (by omega)
  have hown := hS.holds i _ hk
  cases A with
  | none =>
    have hn : news = [] := by
      rcases hr w hS with h | ⟨_, _, h, _⟩
      · exact h
      · cases h
    subst hn
    have hm : m = 0 := by
      have : m * s = 0 := by simpa using hl.symm
      rcases Nat.mul_eq_zero.1 this with h | h
      · exact h
      · omega
    subst hm
    obtain ⟨A', c', rfl, hc', _⟩ := OwnV.form hown
    have hrun : (execOp a.eval ⟨d, .call ⟨.builtin .append, #[x, y], #[t, t]⟩, ty, pos, af, gd⟩).run P w = .ok (.value (.slice A' n c')) w := by
      have hle : n ≤ c' := hc'
      cases A' <;> simp [execOp, resolve, invoke, builtin, hx a hF, hy a hF, Builtin.append_, run_underlying hu, sizeOf, typeInfo, h2, Builtin.lenOf, hle, Builtin.firstCells, storeCells]
    unfold Oper.wp
    rw [hrun]
    refine ⟨_, _, h A' c' hc', hF.put _ _, hS.turn hk rfl rfl rfl (Nat.le_refl _) (fun _ _ _ => rfl) (by simpa [vec] using hown) (fun b hb' => ⟨(hS.lt i _ hk b hb').2, .inl hb'⟩)⟩
  | some A =>
    have hnews : ∀ j u, news[j]? = some u → w.cell? (A.add j) = some u := by
      rcases hr w hS with hn | ⟨g, o, he, hc⟩
      · intro j u hu; rw [hn] at hu; simp at hu
      · intro j u hu
        simp only [Option.some.injEq] at he
        subst he
        rw [Addr.add_lit]
        exact hc j u hu
    obtain ⟨v', w', hrun, r1, r2, r3⟩ := run_append_ownV (P := P) w t ty e inf z s bytes hu h2 h3 h4 h5 hz.1 hz.2 v n xs hown A m c news hl hnews h1 (by unfold maxLen; omega) hbytes
    have hrun2 : (execOp a.eval ⟨d, .call ⟨.builtin .append, #[x, y], #[t, t]⟩, ty, pos, af, gd⟩).run P w = .ok (.value v') w' := by
      simp [execOp, resolve, invoke, builtin, hx a hF, hy a hF, hrun]
    unfold Oper.wp
    rw [hrun2]
    obtain ⟨A', c', rfl, hc', _⟩ := OwnV.form r1
    exact ⟨_, _, h A' c' hc', hF.put _ _, turn_vec hS hk r1 r2 r3⟩

/-- make of n elements of one cell. -/
theorem oj_make {e bytes n : Nat} {z : Value} {k k' : IntKind} (hu : P.underlying t = some (.slice e)) (hi : (P.info? e).map (fun i => (i.zero, i.size, i.bytes)) = some (some z, 1, bytes)) (hx : FE N F x (.int k (n : Int))) (hy : FE N F y (.int k' (n : Int))) (hz : z.cells = #[z]) (hb : n ≤ 1000000000000 ∧ bytes ≤ 140)
    (h : ∀ b, K (fput F d (.slice (some ⟨b, 0, none⟩) n n)) (vec e 1 (.slice (some ⟨b, 0, none⟩) n n) n (List.replicate n z) :: L)) : OpJ P N w0 F L ⟨d, .makeSlice t x y, ty, pos, af, gd⟩ K := fun a w hF hS => by
  obtain ⟨inf, h2, h3, h4, h5⟩ := info_parts' hi
  have hbytes : inf.bytes * n ≤ 281474976710656 := by
    rw [h5]
    exact Nat.le_trans (Nat.mul_le_mul hb.2 hb.1) (by omega)
  have hb' : (inf.bytes : Int) * (n : Int) ≤ 281474976710656 := by
    have h : ((inf.bytes * n : Nat) : Int) ≤ 281474976710656 := by omega
    rwa [Int.natCast_mul] at h
  have hr := run_make (P := P) w t e inf z hu h2 h3 k k' n n (by omega) (Int.le_refl _) hb' (by omega)
  simp only [Int.toNat_natCast] at hr
  have hm : (madeCells z.cells (n * inf.size)).toList = List.replicate n z := by
    rw [h4, Nat.mul_one, hz]
    apply List.ext_getElem?
    intro j
    simp only [madeCells]
    by_cases hj : j < n
    · simp [hj, List.getElem?_replicate, Nat.mod_one]
    · simp [hj, List.getElem?_replicate]
  have hrun : (execOp a.eval ⟨d, .makeSlice t x y, ty, pos, af, gd⟩).run P w = .ok (.value (.slice (some ⟨w.heap.size, 0, none⟩) n n)) (w.alloc (.cells (madeCells z.cells (n * inf.size)) e)) := by
    simp [execOp, hx a hF, hy a hF, hr]
  unfold Oper.wp
  rw [hrun]
  refine ⟨_, _, h w.heap.size, hF.put _ _, hS.add (alloc_new w _) ⟨by simp, .inr ⟨w.heap.size, 0, n, _, rfl, heap_alloc_new w _, Nat.le_refl _, by unfold maxLen; omega, ?_, ?_⟩⟩ (fun b hb => ?_)⟩
  · rw [← Array.length_toList, hm]; simp
  · rw [hm]; simp
  · simp only [vec, Value.ownBlock, Option.toList_some, List.mem_singleton] at hb
    subst hb
    exact ⟨Nat.le_refl _, by simp⟩

/-- A store into a slice of the call's own. -/
theorem oj_storeE {e s sz n m c j i : Nat} {xs vs xs' : List Value} {A : Option Addr} (hs : ∀ w, (sizeOf t).run P w = .ok sz w) (hx : FE N F x (elt A j)) (hy : FE N F y v) (hv : v.cells = vs.toArray) (hl : vs.length = sz) (h1 : vs.all (·.oneCell') = true) (hk : lget L i = some (vec e s (.slice A m c) n xs)) (hj : j + sz ≤ n * s) (hp : 0 < sz) (hc : xs.take j ++ vs ++ xs.drop (j + sz) = xs')
    (h : K (fput F d undef) (lset L i (vec e s (.slice A m c) n xs'))) : OpJ P N w0 F L ⟨d, .store t x y, ty, pos, af, gd⟩ K := fun a w hF hS => by
  subst hc hl
  have hown := hS.holds i _ hk
  obtain ⟨hlen, hn | ⟨g, off, cap, cur, hv', hg, hnc, hcm, hcs, htk⟩⟩ := hown
  · exfalso
    obtain ⟨_, rfl⟩ := hn
    omega
  injection hv' with e1 e2 e3
  subst e1 e2 e3
  have hfit : off + j + vs.length ≤ cur.size := by
    have : m * s ≤ c * s := Nat.mul_le_mul_right _ hnc
    omega
  have hst := run_storeCells_at P g (off + j) e vs 0 cur w hg (by simpa using hfit) (fun u hu => List.all_eq_true.1 h1 u hu)
  simp only [Nat.add_zero] at hst
  have hsz : v.cells.size = vs.length := by rw [hv]; simp
  have hrun : (execOp a.eval ⟨d, .store t x y, ty, pos, af, gd⟩).run P w = .ok .skip (w.setRow g (cur.toList.take (off + j) ++ vs ++ cur.toList.drop (off + j + vs.length)).toArray) := by
    simp only [execOp, hx a hF, hy a hF, elt, Instr.storeAt, Instr.sureAddr, storeVar, Sem.run_bind, Sem.run_pure, Result.andThen_ok, hs, hsz, ne_eq, not_true_eq_false, if_false, hv]
    simp [hst]
  unfold Oper.wp
  rw [hrun]
  have hgl : g < w.heap.size := (Array.getElem?_eq_some_iff.1 hg).1
  refine ⟨_, _, h, hF.put _ _, turn_vec hS hk ⟨?_, .inr ⟨g, off, c, _, rfl, setRow_heap w g cur _ e _ hg, hnc, hcm, ?_, ?_⟩⟩ ⟨rfl, rfl, rfl, by simp [World.setRow], fun k _ hk => setRow_other w g k _ (fun e => hk (by simp [Value.ownBlock, e]))⟩ (fun g' hg' => ?_)⟩
  · rw [List.length_append, List.length_append, List.length_take, List.length_drop, hlen]; omega
  · simp only [List.size_toArray, List.length_append, List.length_take, List.length_drop, Array.length_toList]; omega
  · have := splice_mid cur.toList vs off j (m * s) hj (by rw [Array.length_toList]; have : m * s ≤ c * s := Nat.mul_le_mul_right _ hnc; omega)
    rw [htk] at this
    simpa using this
  · have : g = g' := by simpa [Value.ownBlock] using hg'
    subst this
    exact ⟨by simpa [World.setRow] using hgl, .inl (by simp [Value.ownBlock])⟩
theorem oj_storeE1 {e n m c j i : Nat} {xs : List Value} {A : Option Addr} (hs : ∀ w, (sizeOf t).run P w = .ok 1 w) (hx : FE N F x (elt A j)) (hy : FE N F y v) (hv : v.cells = #[v]) (h1 : v.oneCell' = true) (hk : lget L i = some (vec e 1 (.slice A m c) n xs)) (hj : j < n)
    (h : K (fput F d undef) (lset L i (vec e 1 (.slice A m c) n (xs.set j v)))) : OpJ P N w0 F L ⟨d, .store t x y, ty, pos, af, gd⟩ K := fun a w hF hS => by
  have hlen : xs.length = n := by have := (hS.holds i _ hk).1; omega
  exact oj_storeE (vs := [v]) (xs := xs) hs hx hy hv rfl (by simp [h1]) hk (by omega) (by omega) (by rw [List.set_eq_take_append_cons_drop, if_pos (by omega)]; simp) h a w hF hS

/-- The address of a slice cut at l. -/
def cutA (A : Option Addr) (l c s : Nat) : Option Addr := if c = l then A else A.map (·.add (l * s))
theorem rd_cut {w : World} {A : Option Addr} {xs : List Value} {n c s a b : Nat} (h : Rd w A xs) (hl : xs.length = n * s) (h1 : a ≤ b) (h2 : b ≤ n) (hc : n ≤ c) : Rd w (cutA A a c s) ((xs.drop (a * s)).take ((b - a) * s)) := by
  unfold cutA
  by_cases hca : c = a
  · refine .inl ?_
    rw [show b - a = 0 by omega]; simp
  · rw [if_neg hca]
    rcases h with h | ⟨g, off, rfl, hcell⟩
    · exact .inl (by simp [h])
    · refine .inr ⟨g, off + a * s, by simp [Addr.add_lit], fun j u hu => ?_⟩
      rw [List.getElem?_take] at hu
      split at hu
      · rw [List.getElem?_drop] at hu
        have := hcell _ u hu
        rwa [← Nat.add_assoc] at this
      · cases hu
theorem rd_dropI {w : World} {A : Option Addr} {k : IntKind} {zs : List Int} {n c l : Nat} (h : Rd w A (zs.map (.int k))) (hl : zs.length = n) (h1 : l ≤ n) (hc : n ≤ c) : Rd w (cutA A l c 1) ((zs.drop l).map (.int k)) := by
  have := rd_cut (s := 1) (a := l) (b := n) h (by simp [hl]) h1 (Nat.le_refl _) hc
  rw [List.take_of_length_le (by simp [hl])] at this
  simpa [List.map_drop] using this
theorem rd_takeI {w : World} {A : Option Addr} {k : IntKind} {zs : List Int} {n c l : Nat} (h : Rd w A (zs.map (.int k))) (hl : zs.length = n) (h1 : l ≤ n) (hc : n ≤ c) : Rd w (cutA A 0 c 1) ((zs.take l).map (.int k)) := by
  have := rd_cut (s := 1) (a := 0) (b := l) h (by simp [hl]) (Nat.zero_le _) h1 hc
  simpa [List.map_take] using this
theorem cutA_zero {A : Option Addr} {c s : Nat} : cutA A 0 c s = A := by
  unfold cutA
  split
  · rfl
  · cases A <;> simp [Addr.add]

theorem y_cutL {e s n c l : Nat} {A : Option Addr} {k : IntKind} (hu : P.underlying t = some (.slice e)) (hs : ∀ w, (sizeOf e).run P w = .ok s w) (hx : FE N F x (.slice A n c)) (hy : FE N F y (.int k (l : Int))) (h1 : l ≤ n) : Yld P N w0 F L ⟨d, .slice t x (some y) none none, ty, pos, af, gd⟩ (.slice (cutA A l c s) (n - l) (c - l)) := fun a w hF _ => by
  have hE : P.elem t = e := by simp [Program.elem, hu]
  have ht' : P.underlying t = some (.slice (P.elem t)) := by rw [hE]; exact hu
  have hr : (Instr.sliceAt t (.slice A n c) (some (.int k l)) none none).run P w = .ok (.slice (cutA A l c s) (n - l) (c - l)) w := by
    rw [run_sliceAt_slice w t _ _ _ _ ht', run_slice_l w t A n c ht' k (l : Int) (by omega) (by omega), hE]
    simp [hs, Result.andThen, sliced, cutA]
  simp [execOp, hx a hF, hy a hF, hr]
theorem y_cutH {e s n c l : Nat} {A : Option Addr} {k : IntKind} (hu : P.underlying t = some (.slice e)) (hs : ∀ w, (sizeOf e).run P w = .ok s w) (hx : FE N F x (.slice A n c)) (hy : FE N F y (.int k (l : Int))) (h1 : l ≤ c) : Yld P N w0 F L ⟨d, .slice t x none (some y) none, ty, pos, af, gd⟩ (.slice A l c) := fun a w hF _ => by
  have hE : P.elem t = e := by simp [Program.elem, hu]
  have ht' : P.underlying t = some (.slice (P.elem t)) := by rw [hE]; exact hu
  have hr : (Instr.sliceAt t (.slice A n c) none (some (.int k l)) none).run P w = .ok (.slice A l c) w := by
    rw [run_sliceAt_slice w t _ _ _ _ ht', run_slice_h w t A n c ht' k (l : Int) (by omega) (by omega), hE]
    have := cutA_zero (A := A) (c := c) (s := s)
    unfold cutA at this
    simp [hs, Result.andThen, sliced]
    intro h
    cases A <;> simp [Addr.add]
  simp [execOp, hx a hF, hy a hF, hr]

/-- Slices of the call's own that are only read from now on. -/
def rows (e s : Nat) (hs : List Value) (xss : List (List Value)) : Res where
  foot := hs.flatMap fun h => h.ownBlock.toList
  holds w := hs.length = xss.length ∧ ∀ i h xs, hs[i]? = some h → xss[i]? = some xs → ∃ n, OwnV w e s h n xs
  stable w w' hf hh := ⟨hh.1, fun i h xs hi hx => by
    obtain ⟨n, ho⟩ := hh.2 i h xs hi hx
    refine ⟨n, (vec e s h n xs).stable w w' (fun b hb => hf b ?_) ho⟩
    exact List.mem_flatMap.2 ⟨h, List.mem_of_getElem? hi, hb⟩⟩
theorem rows_nil {e s : Nat} : ∀ w, (rows e s [] []).holds w := fun w => ⟨rfl, fun i h xs hi => by simp at hi⟩
/-- One slice goes to those that are only read. -/
theorem St.absorb {w : World} {e s n i j : Nat} {xs : List Value} {hs : List Value} {xss : List (List Value)} (h : St w0 w L) (hi : lget L i = some (vec e s v n xs)) (hj : lget L j = some (rows e s hs xss)) (hne : i ≠ j) : St w0 w (lset (lset L j (rows e s (hs ++ [v]) (xss ++ [xs]))) i (vec e s (.slice none 0 0) 0 [])) := by
  have hv := h.holds i _ hi
  have hr := h.holds j _ hj
  have key : ∀ k r, lget (lset (lset L j (rows e s (hs ++ [v]) (xss ++ [xs]))) i (vec e s (.slice none 0 0) 0 [])) k = some r → (k = i ∧ r = vec e s (.slice none 0 0) 0 []) ∨ (k = j ∧ r = rows e s (hs ++ [v]) (xss ++ [xs])) ∨ (k ≠ i ∧ k ≠ j ∧ lget L k = some r) := by
    intro k r hk
    rw [lget_lset] at hk
    split at hk
    · rename_i e1
      subst e1
      rw [lget_lset, if_neg hne, hi] at hk
      exact .inl ⟨rfl, by simpa using hk.symm⟩
    · rename_i e1
      rw [lget_lset] at hk
      split at hk
      · rename_i e2
        subst e2
        rw [hj] at hk
        exact .inr (.inl ⟨rfl, by simpa using hk.symm⟩)
      · rename_i e2
        exact .inr (.inr ⟨e1, e2, hk⟩)
  have hfoot : ∀ b, b ∈ (rows e s (hs ++ [v]) (xss ++ [xs])).foot → b ∈ (rows e s hs xss).foot ∨ b ∈ (vec e s v n xs).foot := by
    intro b hb
    simp only [rows, List.flatMap_append, List.mem_append, List.flatMap_cons, List.flatMap_nil, List.append_nil] at hb
    exact hb
  refine ⟨h.below, fun k r hk => ?_, fun k r hk b hb => ?_, fun k l r t hk hl hkl b hb hb' => ?_⟩
  · rcases key k r hk with ⟨_, rfl⟩ | ⟨_, rfl⟩ | ⟨_, _, h1⟩
    · exact OwnV.nil w e s
    · refine ⟨by simp [hr.1], fun q h' ys hq hy => ?_⟩
      rw [List.getElem?_append] at hq hy
      split at hq
      · rename_i hlt
        rw [if_pos (by rw [← hr.1]; exact hlt)] at hy
        exact hr.2 q h' ys hq hy
      · rename_i hlt
        rw [if_neg (by rw [← hr.1]; exact hlt)] at hy
        have hq0 : q - hs.length = 0 := by
          have := (List.getElem?_eq_some_iff.1 hq).1
          simpa using this
        rw [hq0] at hq
        rw [← hr.1, hq0] at hy
        simp only [List.getElem?_cons_zero, Option.some.injEq] at hq hy
        subst hq hy
        exact ⟨n, hv⟩
    · exact h.holds k r h1
  · rcases key k r hk with ⟨_, rfl⟩ | ⟨_, rfl⟩ | ⟨_, _, h1⟩
    · simp [vec, Value.ownBlock] at hb
    · rcases hfoot b hb with h2 | h2
      · exact h.lt j _ hj b h2
      · exact h.lt i _ hi b h2
    · exact h.lt k r h1 b hb
  · rcases key k r hk with ⟨_, rfl⟩ | ⟨rfl, rfl⟩ | ⟨k1, k2, h1⟩
    · simp [vec, Value.ownBlock] at hb
    · rcases key l t hl with ⟨_, rfl⟩ | ⟨rfl, rfl⟩ | ⟨l1, l2, h3⟩
      · simp [vec, Value.ownBlock] at hb'
      · exact hkl rfl
      · rcases hfoot b hb with h2 | h2
        · exact h.sep k l _ _ hj h3 (Ne.symm l2) b h2 hb'
        · exact h.sep i l _ _ hi h3 (Ne.symm l1) b h2 hb'
    · rcases key l t hl with ⟨_, rfl⟩ | ⟨rfl, rfl⟩ | ⟨l1, l2, h3⟩
      · simp [vec, Value.ownBlock] at hb'
      · rcases hfoot b hb' with h2 | h2
        · exact h.sep k l _ _ h1 hj k2 b hb h2
        · exact h.sep k i _ _ h1 hi k1 b hb h2
      · exact h.sep k l _ _ h1 h3 hkl b hb hb'
theorem tl_absorb {ops : Array Oper} {Q : Exit → Act → World → Prop} {l : List Oper} {e s n : Nat} {xs : List Value} {hs : List Value} {xss : List (List Value)} (i j : Nat) (hi : lget L i = some (vec e s v n xs)) (hj : lget L j = some (rows e s hs xss)) (hne : Nat.beq i j = false)
    (h : TL P N w0 ops Q l F (lset (lset L j (rows e s (hs ++ [v]) (xss ++ [xs]))) i (vec e s (.slice none 0 0) 0 []))) : TL P N w0 ops Q l F L := fun a w hF hS => h a w hF (hS.absorb hi hj (Nat.ne_of_beq_eq_false hne))
theorem tr_absorb {Q : Exit → Act → World → Prop} {c : Code} {e s n : Nat} {xs : List Value} {hs : List Value} {xss : List (List Value)} (i j : Nat) (hi : lget L i = some (vec e s v n xs)) (hj : lget L j = some (rows e s hs xss)) (hne : Nat.beq i j = false)
    (h : TR P N w0 Q c F (lset (lset L j (rows e s (hs ++ [v]) (xss ++ [xs]))) i (vec e s (.slice none 0 0) 0 []))) : TR P N w0 Q c F L := fun a w hF hS => h a w hF (hS.absorb hi hj (Nat.ne_of_beq_eq_false hne))
theorem rdl_rows {e s : Nat} {hs : List Value} {xss : List (List Value)} {A : Option Addr} {m c : Nat} {xs : List Value} (i q : Nat) (hi : lget L i = some (rows e s hs xss)) (hq : hs[q]? = some (.slice A m c)) (hx : xss[q]? = some xs) : RdL w0 L A xs := fun w hS => by
  obtain ⟨n, ho⟩ := (hS.holds i _ hi).2 q _ _ hq hx
  exact (OwnV.rd ho).2.2
end
end Go.Proofs.Ytpknjfeiiaopgaa.E
