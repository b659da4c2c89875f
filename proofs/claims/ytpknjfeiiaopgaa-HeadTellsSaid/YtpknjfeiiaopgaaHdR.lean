/- Rules for bytes. -/
import Derived.Test.YtpknjfeiiaopgaaHdM
import Derived.Test.YtpknjfeiiaopgaaEU
import Derived.Test.YtpknjfeiiaopgaaEF
import Derived.Test.YtpknjfeiiaopgaaEqArr
namespace Go.Proofs.Ytpknjfeiiaopgaa.E
open Go.RowKit
section
variable {P : Program} {N : Nat} {w0 : World} {F : Frm} {L : List Res} {d : Option Tmp} {x y : Operand} {v : Value} {ty t t' : TypeId} {pos : String} {af : Array Edge} {gd : Option (Nat × Bool)} {k : IntKind} {a b : Int} {K : Frm → List Res → Prop}
theorem y_andq {c : Int} (hx : FE N F x (.int k a)) (hy : FE N F y (.int k b)) (h : bits .and k a b = c) : Yld P N w0 F L ⟨d, .binOp .and t x y t', ty, pos, af, gd⟩ (.int k c) := fun q w hF _ => by
  subst h
  simp [execOp, hx q hF, hy q hF, eqGuard, binOp, Op.intArith, Op.intBits, bits]
theorem y_orq {c : Int} (hx : FE N F x (.int k a)) (hy : FE N F y (.int k b)) (h : bits .or k a b = c) : Yld P N w0 F L ⟨d, .binOp .or t x y t', ty, pos, af, gd⟩ (.int k c) := fun q w hF _ => by
  subst h
  simp [execOp, hx q hF, hy q hF, eqGuard, binOp, Op.intArith, Op.intBits, bits]
theorem y_shlq {k' : IntKind} {c : Int} (hx : FE N F x (.int k a)) (hy : FE N F y (.int k' b)) (h : 0 ≤ b) (hc : k.wrap (a * 2 ^ (min b.toNat k.bits)) = c) : Yld P N w0 F L ⟨d, .binOp .shl t x y t', ty, pos, af, gd⟩ (.int k c) := hc ▸ y_shl hx hy h
theorem y_shrq {k' : IntKind} {c : Int} (hx : FE N F x (.int k a)) (hy : FE N F y (.int k' b)) (h : 0 ≤ b) (hc : a.fdiv (2 ^ (min b.toNat k.bits)) = c) : Yld P N w0 F L ⟨d, .binOp .shr t x y t', ty, pos, af, gd⟩ (.int k c) := hc ▸ y_shr hx hy h
theorem y_convq {k' : IntKind} {c : Int} (h1 : P.underlying t = some (.int k)) (h2 : P.underlying t' = some (.int k')) (hx : FE N F x (.int k a)) (hc : k'.wrap a = c) : Yld P N w0 F L ⟨d, .convert t t' x, ty, pos, af, gd⟩ (.int k' c) := hc ▸ y_conv h1 h2 hx
/-- An array whole as a slice. -/
theorem y_sliceArr {q o len e : Nat} (hu : P.underlying t = some (.array len e)) (hs : ∀ w, (sizeOf e).run P w = .ok 1 w) (hx : FE N F x (.pointer (some ⟨q, o, none⟩))) (h0 : 0 < len) : Yld P N w0 F L ⟨d, .slice t x none none none, ty, pos, af, gd⟩ (.slice (some ⟨q, o, none⟩) len len) := fun c w hF _ => by
  have : ¬ len = 0 := by omega
  simp [execOp, hx c hF, Instr.sliceAt, Instr.sureAddr, run_underlying hu, hs, Instr.sliceBounds, Addr.add]
/-- A slice as an array's address. -/
theorem y_toArr {n len c e : Nat} {A : Option Addr} (hu : P.underlying t = some (.array n e)) (hx : FE N F x (.slice A len c)) (h0 : n ≤ len) : Yld P N w0 F L ⟨d, .sliceToArrayPointer t x, ty, pos, af, gd⟩ (.pointer A) := fun q w hF _ => by
  have : ¬ len < n := by omega
  simp [execOp, hx q hF, Instr.arrayAt, run_underlying hu, this]
theorem y_cutB {e s n c l m : Nat} {A : Option Addr} {k k' : IntKind} (hu : P.underlying t = some (.slice e)) (hs : ∀ w, (sizeOf e).run P w = .ok s w) (hx : FE N F x (.slice A n c)) (hy : FE N F y (.int k (l : Int))) {z : Operand} (hz : FE N F z (.int k' (m : Int))) (h1 : l ≤ m) (h2 : m ≤ c) : Yld P N w0 F L ⟨d, .slice t x (some y) (some z) none, ty, pos, af, gd⟩ (.slice (cutA A l c s) (m - l) (c - l)) := fun q w hF _ => by
  have hE : P.elem t = e := by simp [Program.elem, hu]
  have ht' : P.underlying t = some (.slice (P.elem t)) := by rw [hE]; exact hu
  have hr : (Instr.sliceAt t (.slice A n c) (some (.int k l)) (some (.int k' m)) none).run P w = .ok (.slice (cutA A l c s) (m - l) (c - l)) w := by
    rw [run_sliceAt_slice w t _ _ _ _ ht', run_slice_lh w t A n c ht' k k' (l : Int) (m : Int) (by omega) (by omega) (by omega), hE]
    simp [hs, Result.andThen, sliced, cutA]
  simp [execOp, hx q hF, hy q hF, hz q hF, hr]
theorem y_ldPA {A : Option Addr} {s : Nat} {xs cs : List Value} (ha : ∀ w, (isAgg t).run P w = .ok true w) (hs : ∀ w, (sizeOf t).run P w = .ok s w) (hx : FE N F x (.pointer A)) (hr : RdL w0 L A xs) (hl : cs.length = s) (hs0 : 0 < s) (hc : ∀ (i : Nat) (u : Value), cs[i]? = some u → xs[i]? = some u) : Yld P N w0 F L ⟨d, .load t x, ty, pos, af, gd⟩ (.agg cs.toArray) := fun a w hF hS => by
  have h0 : xs[0]? = some cs[0] := hc 0 _ (List.getElem?_eq_getElem (by omega))
  obtain ⟨hjl, _⟩ := List.getElem?_eq_some_iff.1 h0
  rcases hr w hS with h | ⟨b, o, rfl, hcell⟩
  · rw [h] at hjl; simp at hjl
  · have hld : (loadCells (⟨b, o, none⟩ : Addr) cs.length).run P w = .ok cs.toArray w := run_loadCells_list w ⟨b, o, none⟩ cs (fun i u hu => by
      rw [Addr.add_lit]
      exact hcell i u (hc i u hu))
    rw [hl] at hld
    simp [execOp, hx a hF, Instr.loadAt, Instr.sureAddr, loadVar, ha, hs, hld]
/-- Bytes as a string. -/
def cB (l : List Int) : List Value := l.map (Value.int .u8)
def strOf (l : List Int) : ByteArray := l.foldl (fun r n => r.push (UInt8.ofNat n.toNat)) ByteArray.empty
theorem y_bstr {e n c : Nat} {A : Option Addr} {zs : List Int} {xs : List Value} (hs : P.underlying t = some (.slice e)) (he : P.underlying e = some (.int .u8)) (hd : P.underlying t' = some .string) (hx : FE N F x (.slice A n c)) (hr : RdL w0 L A xs) (hxs : xs = cB zs) (hn : n = zs.length) : Yld P N w0 F L ⟨d, .convert t t' x, ty, pos, af, gd⟩ (.string (strOf zs)) := fun a w hF hS => by
  subst hxs hn
  have h1 := run_convert_bytes_string (P := P) w t t' e A zs.length c hs he hd
  have h2 : (Conv.bytesToString (.slice A zs.length c)).run P w = .ok (.string (strOf zs)) w := by
    cases A with
    | none =>
      rcases hr w hS with h | ⟨b, o, h, _⟩
      · have : zs = [] := by simpa [cB] using h
        subst this
        simp [Conv.bytesToString, strOf]
      · cases h
    | some q =>
      refine run_bytesToString w q zs.length c zs ?_
      rcases hr w hS with h | ⟨b, o, h, hcell⟩
      · have : zs = [] := by simpa [cB] using h
        subst this
        exact run_loadCells_list w q [] (fun i u hu => by simp at hu)
      · injection h with h
        subst h
        have := run_loadCells_list (P := P) w ⟨b, o, none⟩ (cB zs) (fun i u hu => by rw [Addr.add_lit]; exact hcell i u hu)
        simpa [cB] using this
  simp [execOp, hx a hF, h1, h2]
theorem y_eqstr {s : ByteArray} (hu : P.underlying t = some .string) (hx : FE N F x (.string s)) (hy : FE N F y (.string s)) : Yld P N w0 F L ⟨d, .binOp .eql t x y t', ty, pos, af, gd⟩ (.bool true) :=
  y_binop hx hy fun w => by
    have e1 : ∀ x y, Op.equal t x y = Op.equalIn (9998 + 1 + 1) t x y := fun _ _ => rfl
    simp [eqGuard, binOp, Op.stringOp, e1, Op.equalIn, run_underlying hu]
/-- A literal of two or six numbers. -/
theorem oj_litB6 {e : Nat} {a b : Int} {x0 x1 x2 x3 x4 x5 : Operand} {v0 v1 v2 v3 v4 v5 z : Value} (hu : P.underlying t = some (.slice e)) (hs : ∀ w, (sizeOf e).run P w = .ok 1 w) (hz : ∀ w, (zeroValue e).run P w = .ok z w) (hzc : z.cells = #[z]) (h0 : FE N F x0 v0) (h1 : FE N F x1 v1) (h2 : FE N F x2 v2) (h3 : FE N F x3 v3) (h4 : FE N F x4 v4) (h5 : FE N F x5 v5)
    (c0 : v0.cells = #[v0]) (c1 : v1.cells = #[v1]) (c2 : v2.cells = #[v2]) (c3 : v3.cells = #[v3]) (c4 : v4.cells = #[v4]) (c5 : v5.cells = #[v5])
    (h : ∀ g, K (fput F d (.slice (some ⟨g, 0, none⟩) 6 6)) (vec e 1 (.slice (some ⟨g, 0, none⟩) 6 6) 6 [v0, v1, v2, v3, v4, v5] :: L)) : OpJ P N w0 F L ⟨d, .buildSlice t 6 #[(0, x0), (1, x1), (2, x2), (3, x3), (4, x4), (5, x5)], ty, pos, af, gd⟩ K := fun ac w hF hS => by
  have hfill : Instr.fill (fun i => some (i, 1)) ((Array.range 6).map (z.cells[· % z.cells.size]!)) [(0, v0), (1, v1), (2, v2), (3, v3), (4, v4), (5, v5)] = some #[v0, v1, v2, v3, v4, v5] := by
    have h1 : (Array.range 6).map (z.cells[· % z.cells.size]!) = #[z, z, z, z, z, z] := by
      rw [hzc]
      simp [show Array.range 6 = #[0, 1, 2, 3, 4, 5] from rfl]
    rw [h1]
    simp [Instr.fill, c0, c1, c2, c3, c4, c5]
    try rfl
  have hr : (execOp ac.eval ⟨d, .buildSlice t 6 #[(0, x0), (1, x1), (2, x2), (3, x3), (4, x4), (5, x5)], ty, pos, af, gd⟩).run P w = .ok (.value (.slice (some ⟨w.heap.size, 0, none⟩) 6 6)) (w.alloc (.cells #[v0, v1, v2, v3, v4, v5] e)) := by
    simp [execOp, Instr.buildSlice, h0 ac hF, h1 ac hF, h2 ac hF, h3 ac hF, h4 ac hF, h5 ac hF, run_underlying hu, hs, hz, hfill, newRow, newObj, run_new]
  unfold Oper.wp
  rw [hr]
  refine ⟨_, _, h w.heap.size, hF.put _ _, hS.add (alloc_new w _) ⟨rfl, .inr ⟨w.heap.size, 0, 6, #[v0, v1, v2, v3, v4, v5], rfl, heap_alloc_new w _, Nat.le_refl _, by decide, by simp, by simp⟩⟩ (fun b hb => ?_)⟩
  simp only [vec, Value.ownBlock, Option.toList_some, List.mem_singleton] at hb
  subst hb
  exact ⟨Nat.le_refl _, by simp⟩
theorem rdl_pre {A : Option Addr} {xs ys zs : List Value} (h : RdL w0 L A zs) (e : zs = xs ++ ys) : RdL w0 L A xs := fun w hS => by
  subst e
  rcases h w hS with h | ⟨b, o, hA, hc⟩
  · exact .inl (List.append_eq_nil_iff.1 h).1
  · exact .inr ⟨b, o, hA, fun j u hu => hc j u (by rw [List.getElem?_append_left (List.getElem?_eq_some_iff.1 hu).1]; exact hu)⟩
theorem rdl_blkAt {b : Nat} {cs xs ys zs : List Value} {o : Nat} (i : Nat) (hi : lget L i = some (blk b cs)) (e : cs = xs ++ ys ++ zs) (ho : xs.length = o) : RdL w0 L (some ⟨b, o, none⟩) ys := fun w hS => by
  subst e ho
  obtain ⟨T, hg⟩ := hS.holds i _ hi
  refine .inr ⟨b, xs.length, rfl, fun j u hu => ?_⟩
  have hj := (List.getElem?_eq_some_iff.1 hu).1
  rw [cell_of_row w b (xs.length + j) _ T (0, 0) hg]
  simp only [List.getElem?_toArray]
  rw [List.append_assoc, List.getElem?_append_right (by omega), Nat.add_sub_cancel_left, List.getElem?_append_left hj]
  exact hu
end
section
variable {P : Program} {N : Nat} {w0 : World} {ops : Array Oper} {Q : Exit → Act → World → Prop} {F : Frm} {L S : List Res} {n : Nat} {listed : Array Bool}
/-- Three that no order binds. -/
theorem ta_three {i j m : Nat} {o u q : Oper} (hi : ops[i]? = some o) (hj : ops[j]? = some u) (hm : ops[m]? = some q) (hr : Region.ready .any ops listed = [i, j, m]) (hw : Wants N ops F o true) (hw2 : Wants N ops F u true) (hw3 : Wants N ops F q true)
    (h : OpJ P N w0 F L o (fun F' L' => (∀ w, St w0 w L' → St w0 w S) ∧ TA P N w0 ops Q S n (listed.setIfInBounds i true) F' L'))
    (h' : OpJ P N w0 F L u (fun F' L' => (∀ w, St w0 w L' → St w0 w S) ∧ TA P N w0 ops Q S n (listed.setIfInBounds j true) F' L'))
    (h'' : OpJ P N w0 F L q (fun F' L' => (∀ w, St w0 w L' → St w0 w S) ∧ TA P N w0 ops Q S n (listed.setIfInBounds m true) F' L')) : TA P N w0 ops Q S (n + 1) listed F L := fun a w hF hS hC => by
  refine ⟨fun h0 => (by rw [hr] at h0; cases h0), fun k hk => ?_⟩
  rw [hr] at hk
  simp only [List.mem_cons, List.not_mem_nil, or_false] at hk
  unfold cOp
  rcases hk with rfl | rfl | rfl
  · simp only [hi, hw a hF, if_true]
    exact wp_of_noQ (fun a' w' ⟨F', L', ⟨h1, h2⟩, h3, h4⟩ w'' hw'' => ⟨h1 _ (h4.grow hw''), h2 a' w'' h3 (h4.grow hw'') (h1 _ (h4.grow hw''))⟩) (h a w hF hS)
  · simp only [hj, hw2 a hF, if_true]
    exact wp_of_noQ (fun a' w' ⟨F', L', ⟨h1, h2⟩, h3, h4⟩ w'' hw'' => ⟨h1 _ (h4.grow hw''), h2 a' w'' h3 (h4.grow hw'') (h1 _ (h4.grow hw''))⟩) (h' a w hF hS)
  · simp only [hm, hw3 a hF, if_true]
    exact wp_of_noQ (fun a' w' ⟨F', L', ⟨h1, h2⟩, h3, h4⟩ w'' hw'' => ⟨h1 _ (h4.grow hw''), h2 a' w'' h3 (h4.grow hw'') (h1 _ (h4.grow hw''))⟩) (h'' a w hF hS)
end
end Go.Proofs.Ytpknjfeiiaopgaa.E
