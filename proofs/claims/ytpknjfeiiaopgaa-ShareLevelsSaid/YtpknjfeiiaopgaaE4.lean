/- Small words for the walks: elements of slices, blocks written whole, calls that hand back a value. -/
import Derived.Test.YtpknjfeiiaopgaaE3
namespace Go.Proofs.Ytpknjfeiiaopgaa.E
open Go.RowKit

theorem getI {k : IntKind} {zs : List Int} {j : Nat} (h : j < zs.length) : (zs.map (Value.int k))[j]? = some (.int k zs[j]) := by simp [h]
theorem lenI {k : IntKind} {zs : List Int} {n : Nat} (h : zs.length = n) : (zs.map (Value.int k)).length = n * 1 := by simp [h]
theorem getF {α : Type} {c : α → List Value} {s : Nat} {l : List α} {j : Nat} (hc : ∀ x, (c x).length = s) (h : j < l.length) : ∀ i u, (c l[j])[i]? = some u → (l.flatMap c)[j * s + i]? = some u := fun i u hu => by
  have hi : i < s := by rw [← hc l[j]]; exact (List.getElem?_eq_some_iff.1 hu).1
  rw [flatMap_get l (fun x _ => hc x) j i h hi]
  exact hu
theorem lenF {α : Type} {c : α → List Value} {s n : Nat} {l : List α} (hc : ∀ x, (c x).length = s) (h : l.length = n) : (l.flatMap c).length = n * s := by
  subst h
  induction l with
  | nil => simp
  | cons x l ih => rw [List.flatMap_cons, List.length_append, hc, ih, List.length_cons, Nat.succ_mul, Nat.add_comm]
theorem oneI {k : IntKind} {zs : List Int} : ∀ u ∈ zs.map (Value.int k), u.oneCell' = true := fun u hu => by
  obtain ⟨z, _, rfl⟩ := List.mem_map.1 hu
  rfl
theorem oneF {α : Type} {c : α → List Value} {l : List α} (hc : ∀ x, (c x).all (·.oneCell') = true) : ∀ u ∈ l.flatMap c, u.oneCell' = true := fun u hu => by
  obtain ⟨x, _, h⟩ := List.mem_flatMap.1 hu
  exact List.all_eq_true.1 (hc x) u h
theorem v_int {k : IntKind} {a b : Int} (h : a = b) : some (Value.int k a) = some (.int k b) := by rw [h]
theorem v_bool {a b : Bool} (h : a = b) : some (Value.bool a) = some (.bool b) := by rw [h]

section
variable {P : Program} {N : Nat} {w0 : World} {F : Frm} {L : List Res} {d : Option Tmp} {x y z : Operand} {v u : Value} {ty t t' : TypeId} {pos : String} {af : Array Edge} {gd : Option (Nat × Bool)} {K : Frm → List Res → Prop}

theorem St.sel {w : World} (h : St w0 w L) (ks : List Nat) (hs : ks.map (lget L) = (sel L ks).map some) (hn : ks.Nodup) : St w0 w (sel L ks) := h.pick ks _ hs hn

/-- A store of a block whole. -/
theorem oj_storeW {b s : Nat} {cs vs : List Value} (i : Nat) (hs : ∀ w, (sizeOf t).run P w = .ok s w) (hx : FE N F x (.pointer (some ⟨b, 0, none⟩))) (hy : FE N F y v) (hv : v.cells = vs.toArray) (hl : vs.length = s) (h1 : vs.all (·.oneCell') = true) (hk : lget L i = some (blk b cs)) (ho : Nat.beq s cs.length = true)
    (h : K (fput F d undef) (lset L i (blk b vs))) : OpJ P N w0 F L ⟨d, .store t x y, ty, pos, af, gd⟩ K :=
  oj_store (cs := cs) i hs hx hy hv hl h1 hk (by rw [Nat.zero_add, Nat.eq_of_beq_eq_true ho]; exact Nat.ble_eq_true_of_le (Nat.le_refl _)) (by rw [List.take_zero, Nat.zero_add, Nat.eq_of_beq_eq_true ho, List.drop_length]; simp) h
/-- A store of one cell. -/
theorem oj_store1 {b o : Nat} {cs : List Value} (i : Nat) (hs : ∀ w, (sizeOf t).run P w = .ok 1 w) (hx : FE N F x (.pointer (some ⟨b, o, none⟩))) (hy : FE N F y v) (hv : v.cells = #[v]) (h1 : v.oneCell' = true) (hk : lget L i = some (blk b cs)) (ho : Nat.blt o cs.length = true)
    (h : K (fput F d undef) (lset L i (blk b (cs.set o v)))) : OpJ P N w0 F L ⟨d, .store t x y, ty, pos, af, gd⟩ K := by
  have ho' : o < cs.length := of_eq_true (by simp only [Nat.blt_eq] at ho; simp [ho])
  exact oj_store (cs := cs) i hs hx hy (vs := [v]) hv rfl (by simp [h1]) hk (Nat.ble_eq_true_of_le ho') (by rw [List.set_eq_take_append_cons_drop, if_pos ho']; simp) h

/-- A call that hands back a value, and makes memory at most. -/
theorem oj_callv {xs : Array Operand} {ts : Array TypeId} {f : FuncId} {vs : List Value} {fc : Operand} (hcall : ∀ args w, (callFunc f args).run P w = .ok (.enter f args) w) (hf : FE N F fc (.func (.func f) #[] #[])) (hx : FEL N F xs.toList vs)
    (hc : ∀ w, St w0 w L → Calls P f vs.toArray w (fun e w' => e = .returned v ∧ St w w' [])) (h : K (fput F d v) L) : OpJ P N w0 F L ⟨d, .call ⟨.value fc, xs, ts⟩, ty, pos, af, gd⟩ K :=
  oj_call (α := Unit) (p := fun _ => True) (r := fun _ => v) (M := fun _ => []) hcall hf hx (fun w hS => (hc w hS).mono fun e w' ⟨h1, h2⟩ => ⟨(), trivial, h1, h2⟩) (fun _ _ => h)

theorem of_bel {f : FuncId} {args : Array Value} {w : World} (h : Calls P f args w fun e w' => e = .returned v ∧ Below w.heap.size w w') : Calls P f args w fun e w' => e = .returned v ∧ St w w' [] := h.mono fun _ _ ⟨h1, h2⟩ => ⟨h1, St.of_below h2⟩
theorem of_eq {f : FuncId} {args : Array Value} {w : World} (h : Calls P f args w fun e w' => e = .returned v ∧ w = w') : Calls P f args w fun e w' => e = .returned v ∧ St w w' [] := h.mono fun _ _ ⟨h1, h2⟩ => ⟨h1, h2 ▸ St.refl _⟩
theorem of_drn {f : FuncId} {args : Array Value} {w : World} (h : Calls P f args w fun e w' => e = .returned v ∧ ∃ q, w' = w.drewN q) : Calls P f args w fun e w' => e = .returned v ∧ St w w' [] := h.mono fun _ _ ⟨h1, q, h2⟩ => ⟨h1, h2 ▸ (St.refl w).drewN q⟩
theorem to_bel {f : FuncId} {args : Array Value} {w : World} (h : Calls P f args w fun e w' => e = .returned v ∧ St w w' []) : Calls P f args w fun e w' => e = .returned v ∧ Below w.heap.size w w' := h.mono fun _ _ ⟨h1, h2⟩ => ⟨h1, h2.below⟩

theorem vec_nil {e s : Nat} : ∀ w, (vec e s (.slice none 0 0) 0 []).holds w := fun w => OwnV.nil w e s
end
end Go.Proofs.Ytpknjfeiiaopgaa.E
