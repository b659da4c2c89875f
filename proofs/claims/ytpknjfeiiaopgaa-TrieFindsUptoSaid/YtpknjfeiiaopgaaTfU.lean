/- Rules for the tree of nodes; what its nodes say of the prefixes. -/
import Derived.Test.YtpknjfeiiaopgaaTfT
namespace Go.Proofs.Ytpknjfeiiaopgaa.Trie
open Go.RowKit Go.Proofs.Ytpknjfeiiaopgaa.E

section
variable {P : Program} {N : Nat} {w0 : World} {ops : Array Oper} {Q : Exit → Act → World → Prop} {F : Frm} {L : List Res} {c : Code} {l : List Oper} {M : List Nd} {e : Nd} {d : Option Tmp} {x y : Operand} {v : Value} {ty t t' : TypeId} {pos : String} {af : Array Edge} {gd : Option (Nat × Bool)} {K : Frm → List Res → Prop}
theorem tl_ndOut (i : Nat) (hi : lget L i = some (nds M)) (he : e ∈ M) (h : TL P N w0 ops Q l F (E.blk e.b (ndC M e) :: lset L i (ndsH M (some e.b)))) : TL P N w0 ops Q l F L := fun a w hF hS => h a w hF (St.ndOut hS hi he)
theorem St.ndIn {w : World} {i j k : Nat} {x' : Int} {b' : Nat} {cs : List Value} (h : St w0 w L) (hi : lget L i = some (ndsH M (some e.b))) (hj : lget L j = some (E.blk b' [.pointer none, .pointer none, .pointer none])) (hk : lget L k = some (E.blk e.b cs)) (hij : i ≠ j) (hjk : j ≠ k) (hik : i ≠ k)
    (he : e ∈ M) (hno : node M (e.k + 1) x' = none) (hx : x' = 2 * e.x ∨ x' = 2 * e.x + 1) (hcs : cs = ndC (⟨e.k + 1, x', b', none⟩ :: M) e) : St w0 w (lset (lset (lset (lset L j emp) i (ndsH (⟨e.k + 1, x', b', none⟩ :: M) (some e.b))) k emp) i (nds (⟨e.k + 1, x', b', none⟩ :: M))) := by
  have h1 := St.ndNew h hi hj hk hij hjk he hno hx
  refine St.ndBack h1 (i := i) (k := k) ?_ ?_ hik (List.mem_cons_of_mem _ he) hcs
  · rw [lget_lset, if_pos rfl, lget_lset, if_neg hij, hi]; rfl
  · rw [lget_lset, if_neg (Ne.symm hik), lget_lset, if_neg (Ne.symm hjk)]; exact hk
theorem tr_ndIn (i j k : Nat) {x' : Int} {b' : Nat} {cs : List Value} (hi : lget L i = some (ndsH M (some e.b))) (hj : lget L j = some (E.blk b' [.pointer none, .pointer none, .pointer none])) (hk : lget L k = some (E.blk e.b cs)) (hij : i ≠ j) (hjk : j ≠ k) (hik : i ≠ k)
    (he : e ∈ M) (hno : node M (e.k + 1) x' = none) (hx : x' = 2 * e.x ∨ x' = 2 * e.x + 1) (hcs : cs = ndC (⟨e.k + 1, x', b', none⟩ :: M) e) (h : TR P N w0 Q c F (lset (lset (lset (lset L j emp) i (ndsH (⟨e.k + 1, x', b', none⟩ :: M) (some e.b))) k emp) i (nds (⟨e.k + 1, x', b', none⟩ :: M)))) : TR P N w0 Q c F L :=
  fun a w hF hS => h a w hF (St.ndIn hS hi hj hk hij hjk hik he hno hx hcs)
theorem St.ndToIn {w : World} {i j k t : Nat} {v : Int} {cs : List Value} (h : St w0 w L) (hi : lget L i = some (ndsH M (some e.b))) (hj : lget L j = some (E.blk t [(.int .i64 v)])) (hk : lget L k = some (E.blk e.b cs)) (hij : i ≠ j) (hjk : j ≠ k) (hik : i ≠ k)
    (he : e ∈ M) (hcs : cs = ndC (setTo M e.b t v) ⟨e.k, e.x, e.b, some (t, v)⟩) : St w0 w (lset (lset (lset (lset L j emp) i (ndsH (setTo M e.b t v) (some e.b))) k emp) i (nds (setTo M e.b t v))) := by
  have h1 := St.ndTo h hi hj hk hij hjk he
  refine St.ndBack h1 (e := ⟨e.k, e.x, e.b, some (t, v)⟩) (i := i) (k := k) ?_ ?_ hik (mem_set.2 ⟨e, he, by rw [if_pos rfl]⟩) hcs
  · rw [lget_lset, if_pos rfl, lget_lset, if_neg hij, hi]; rfl
  · rw [lget_lset, if_neg (Ne.symm hik), lget_lset, if_neg (Ne.symm hjk)]; exact hk
theorem tr_ndToIn (i j k : Nat) {t : Nat} {v : Int} {cs : List Value} (hi : lget L i = some (ndsH M (some e.b))) (hj : lget L j = some (E.blk t [(.int .i64 v)])) (hk : lget L k = some (E.blk e.b cs)) (hij : i ≠ j) (hjk : j ≠ k) (hik : i ≠ k)
    (he : e ∈ M) (hcs : cs = ndC (setTo M e.b t v) ⟨e.k, e.x, e.b, some (t, v)⟩) (h : TR P N w0 Q c F (lset (lset (lset (lset L j emp) i (ndsH (setTo M e.b t v) (some e.b))) k emp) i (nds (setTo M e.b t v)))) : TR P N w0 Q c F L :=
  fun a w hF hS => h a w hF (St.ndToIn hS hi hj hk hij hjk hik he hcs)
theorem rd_blk {w : World} {b : Nat} {cs : List Value} {T : TypeId} (h : w.heap[b]? = some (.cells cs.toArray T (0, 0))) : Rd w (some ⟨b, 0, none⟩) cs := .inr ⟨b, 0, rfl, fun j u hu => by
  rw [cell_of_row w b (0 + j) _ T (0, 0) h]
  simpa using hu⟩
theorem rdl_nd (i : Nat) (hi : lget L i = some (nds M)) (he : e ∈ M) : RdL w0 L (some ⟨e.b, 0, none⟩) (ndC M e) := fun w hS => by
  obtain ⟨T, h⟩ := (hS.holds i _ hi).2.1 e he (by simp)
  exact rd_blk h
theorem rdl_ndto {t : Nat} {v : Int} (i : Nat) (hi : lget L i = some (nds M)) (he : e ∈ M) (ht : e.to = some (t, v)) : RdL w0 L (some ⟨t, 0, none⟩) [(.int .i64 v)] := fun w hS => by
  obtain ⟨T, h⟩ := (hS.holds i _ hi).2.2 e he t v ht
  exact rd_blk h
/-- The tree begins: one block. -/
theorem nds_root {b : Nat} : nds [⟨0, 0, b, none⟩] = nds [⟨0, 0, b, none⟩] := rfl
theorem dis_root {b : Nat} : Dis [⟨0, 0, b, none⟩] := ⟨fun a ha c hc _ => (by rw [List.mem_singleton.1 ha, List.mem_singleton.1 hc]), fun a ha c hc _ _ => (by rw [List.mem_singleton.1 ha, List.mem_singleton.1 hc]), fun a _ c hc t v hv => (by rw [List.mem_singleton.1 hc] at hv; cases hv), fun a ha h0 => (by rw [List.mem_singleton.1 ha] at h0; exact absurd rfl h0)⟩
theorem ndC_root {b : Nat} : ndC [⟨0, 0, b, none⟩] ⟨0, 0, b, none⟩ = [.pointer none, .pointer none, .pointer none] := by
  unfold ndC kid node
  rw [List.find?_cons_of_neg (by simp), List.find?_cons_of_neg (by simp)]
  rfl
theorem St.root {w : World} {i b : Nat} (h : St w0 w L) (hi : lget L i = some (E.blk b [.pointer none, .pointer none, .pointer none])) : St w0 w (lset L i (nds [⟨0, 0, b, none⟩])) :=
  h.turn hi rfl rfl rfl (Nat.le_refl _) (fun _ _ _ => rfl) ⟨dis_root, fun e he _ => by
    rw [List.mem_singleton.1 he, ndC_root]
    exact h.holds i _ hi, fun e he t v hv => (by rw [List.mem_singleton.1 he] at hv; cases hv)⟩ (fun b' hb => by
    obtain ⟨e, he, h3 | ⟨v, hv⟩⟩ := mem_nds.1 hb
    · rw [List.mem_singleton.1 he] at h3
      rw [h3.1]
      exact ⟨(h.lt i _ hi b (by simp [E.blk])).2, .inl (by simp [E.blk])⟩
    · rw [List.mem_singleton.1 he] at hv; cases hv)
theorem tr_root (i : Nat) {b : Nat} (hi : lget L i = some (E.blk b [.pointer none, .pointer none, .pointer none])) (h : TR P N w0 Q c F (lset L i (nds [⟨0, 0, b, none⟩]))) : TR P N w0 Q c F L := fun a w hF hS => h a w hF (St.root hS hi)
/-- An array's element by its address. -/
theorem y_indexPA {b len e : Nat} {z : Int} {k : IntKind} (hu : P.underlying t = some (.array len e)) (hs : ∀ w, (sizeOf e).run P w = .ok 1 w) (hx : FE N F x (.pointer (some ⟨b, 0, none⟩))) (hi : FE N F y (.int k z)) (h0 : 0 ≤ z) (h1 : z < len) :
    Yld P N w0 F L ⟨d, .indexAddr t x y, ty, pos, af, gd⟩ (elt (some ⟨b, 0, none⟩) z.toNat) := fun a w hF hS => by
  simp [execOp, hx a hF, hi a hF, elt, Instr.indexAt, asIntOf, Instr.sureAddr, run_underlying hu, hs, h0, h1]
  unfold Addr.add
  split
  · rename_i h; simp [h]
  · simp
theorem y_eqptr {e : TypeId} {o : Option Nat} (hu : P.underlying t = some (.pointer e)) (hx : FE N F x (ptr o)) (hy : FE N F y (.pointer none)) : Yld P N w0 F L ⟨d, .binOp .eql t x y t', ty, pos, af, gd⟩ (.bool o.isNone) :=
  y_binop hx hy fun w => by
    have hp : P.pointee t = e := by simp [Program.pointee, hu]
    rw [← hp] at hu
    cases o <;> simp [ptr, eqGuard, binOp, run_equal_pointer_nil w t _ hu]
theorem y_neptr {e : TypeId} {o : Option Nat} (hu : P.underlying t = some (.pointer e)) (hx : FE N F x (ptr o)) (hy : FE N F y (.pointer none)) : Yld P N w0 F L ⟨d, .binOp .neq t x y t', ty, pos, af, gd⟩ (.bool (!o.isNone)) :=
  y_binop hx hy fun w => by
    have hp : P.pointee t = e := by simp [Program.pointee, hu]
    rw [← hp] at hu
    cases o <;> simp [ptr, eqGuard, binOp, run_equal_pointer_nil w t _ hu]
/-- A store into a block at a place that is known by its bound. -/
theorem oj_storeQ {b q : Nat} {cs : List Value} (i : Nat) (hs : ∀ w, (sizeOf t).run P w = .ok 1 w) (hx : FE N F x (elt (some ⟨b, 0, none⟩) q)) (hy : FE N F y v) (hv : v.cells = #[v]) (h1 : v.oneCell' = true) (hk : lget L i = some (E.blk b cs)) (ho : q < cs.length)
    (h : K (fput F d undef) (lset L i (E.blk b (cs.set q v)))) : OpJ P N w0 F L ⟨d, .store t x y, ty, pos, af, gd⟩ K :=
  oj_store1 (o := q) i hs (by have : elt (some ⟨b, 0, none⟩) q = .pointer (some ⟨b, q, none⟩) := by simp [elt]
                              rw [← this]; exact hx) hy hv h1 hk (by simpa [Nat.blt_eq] using ho) h
theorem ndC_kid {z : Int} (hz : z = 0 ∨ z = 1) : (ndC M e)[z.toNat]? = some (ptr (kid M (e.k + 1) (2 * e.x + z))) := by
  rcases hz with rfl | rfl
  · simp [ndC]
  · simp [ndC]
theorem ndC_set {z : Int} {b' : Nat} (hz : z = 0 ∨ z = 1) (hd : Dis M) (he : e ∈ M) (hno : node M (e.k + 1) (2 * e.x + z) = none) : (ndC M e).set z.toNat (.pointer (some ⟨b', 0, none⟩)) = ndC (⟨e.k + 1, 2 * e.x + z, b', none⟩ :: M) e := by
  have h1 : kid (⟨e.k + 1, 2 * e.x + z, b', none⟩ :: M) (e.k + 1) (2 * e.x + z) = some b' := by
    unfold kid node
    rw [List.find?_cons_of_pos (by simp)]
    rfl
  have h2 : ∀ y, 2 * e.x + z ≠ y → kid (⟨e.k + 1, 2 * e.x + z, b', none⟩ :: M) (e.k + 1) y = kid M (e.k + 1) y := fun y hy => kid_new (fun h => hy h.2)
  rcases hz with rfl | rfl
  · unfold ndC
    rw [Int.add_zero] at h1 h2
    rw [Int.add_zero, h1, h2 _ (by omega)]
    rfl
  · unfold ndC
    rw [h1, h2 _ (by omega)]
    rfl
theorem ndC_to {t : Nat} {v : Int} : (ndC M e).set 2 (.pointer (some ⟨t, 0, none⟩)) = ndC (setTo M e.b t v) ⟨e.k, e.x, e.b, some (t, v)⟩ := by
  unfold ndC
  rw [node_set, node_set]
  rfl
end

/-- What the nodes say of the prefixes l. -/
structure Rel (M : List Nd) (l : List Pfx) : Prop where
  root : ∃ e ∈ M, e.k = 0 ∧ e.x = 0
  has : ∀ p ∈ l, ∀ k, k ≤ p.n.toNat → ∃ e ∈ M, e.k = k ∧ e.x = pre p.v k
  src : ∀ e ∈ M, e.k = 0 ∨ ∃ p ∈ l, e.k ≤ p.n.toNat ∧ e.x = pre p.v e.k
  val : ∀ p ∈ l, ∀ e ∈ M, e.k = p.n.toNat → e.x = pre p.v e.k → ∃ t, e.to = some (t, p.to)
  own : ∀ e ∈ M, ∀ t v, e.to = some (t, v) → ∃ p ∈ l, e.k = p.n.toNat ∧ e.x = pre p.v e.k ∧ p.to = v
/-- On the way along p, k bits down. -/
structure Mid (M : List Nd) (l : List Pfx) (p : Pfx) (k : Nat) : Prop where
  root : ∃ e ∈ M, e.k = 0 ∧ e.x = 0
  has : ∀ p ∈ l, ∀ k, k ≤ p.n.toNat → ∃ e ∈ M, e.k = k ∧ e.x = pre p.v k
  src : ∀ e ∈ M, e.k = 0 ∨ (∃ p ∈ l, e.k ≤ p.n.toNat ∧ e.x = pre p.v e.k) ∨ (e.k ≤ k ∧ e.x = pre p.v e.k)
  val : ∀ p ∈ l, ∀ e ∈ M, e.k = p.n.toNat → e.x = pre p.v e.k → ∃ t, e.to = some (t, p.to)
  own : ∀ e ∈ M, ∀ t v, e.to = some (t, v) → ∃ p ∈ l, e.k = p.n.toNat ∧ e.x = pre p.v e.k ∧ p.to = v
  pth : ∀ j, j ≤ k → ∃ e ∈ M, e.k = j ∧ e.x = pre p.v j
theorem Mid.zero {M : List Nd} {l : List Pfx} {p : Pfx} (h : Rel M l) (h0 : pre p.v 0 = 0) : Mid M l p 0 :=
  ⟨h.root, h.has, fun e he => (h.src e he).imp id .inl, h.val, h.own, fun j hj => by
    obtain ⟨e, he, h1, h2⟩ := h.root
    obtain rfl : j = 0 := by omega
    exact ⟨e, he, h1, by rw [h0]; exact h2⟩⟩
theorem Mid.old {M : List Nd} {l : List Pfx} {p : Pfx} {k : Nat} (h : Mid M l p k) {e : Nd} (he : e ∈ M) (hk : e.k = k + 1) (hx : e.x = pre p.v (k + 1)) : Mid M l p (k + 1) :=
  ⟨h.root, h.has, fun e he => (h.src e he).imp id (Or.imp id fun h => ⟨by omega, h.2⟩), h.val, h.own, fun j hj => by
    rcases Nat.lt_or_ge k j with h1 | h1
    · obtain rfl : j = k + 1 := by omega
      exact ⟨e, he, hk, hx⟩
    · exact h.pth j h1⟩
theorem Mid.new {M : List Nd} {l : List Pfx} {p : Pfx} {k b : Nat} {x : Int} (h : Mid M l p k) (hno : node M (k + 1) x = none) (hx : x = pre p.v (k + 1)) : Mid (⟨k + 1, x, b, none⟩ :: M) l p (k + 1) := by
  have up : ∀ {j : Nat} {y : Int}, (∃ e ∈ M, e.k = j ∧ e.x = y) → ∃ e ∈ (⟨k + 1, x, b, none⟩ : Nd) :: M, e.k = j ∧ e.x = y := fun ⟨e, he, h⟩ => ⟨e, List.mem_cons_of_mem _ he, h⟩
  refine ⟨up h.root, fun q hq j hj => up (h.has q hq j hj), fun e he => ?_, fun q hq e he hk hxx => ?_, fun e he t v hv => ?_, fun j hj => ?_⟩
  · rcases List.mem_cons.1 he with rfl | he
    · exact .inr (.inr ⟨Nat.le_refl _, hx⟩)
    · exact (h.src e he).imp id (Or.imp id fun h => ⟨by omega, h.2⟩)
  · rcases List.mem_cons.1 he with rfl | he
    · dsimp only at hk hxx
      obtain ⟨e2, he2, h1, h2⟩ := h.has q hq (k + 1) (by omega)
      exact absurd ⟨h1, by rw [h2, hxx]⟩ (node_none hno e2 he2)
    · exact h.val q hq e he hk hxx
  · rcases List.mem_cons.1 he with rfl | he
    · cases hv
    · exact h.own e he t v hv
  · rcases Nat.lt_or_ge k j with h1 | h1
    · obtain rfl : j = k + 1 := by omega
      exact ⟨_, List.mem_cons_self .., rfl, hx⟩
    · exact up (h.pth j h1)
theorem Mid.done {M : List Nd} {l : List Pfx} {p : Pfx} {k t : Nat} {e : Nd} (h : Mid M l p k) (hd : Dis M) (he : e ∈ M) (hk : e.k = k) (hx : e.x = pre p.v k) (hn : p.n.toNat = k) (hone : ∀ q ∈ l, q.n.toNat = k → pre q.v k ≠ pre p.v k) : Rel (setTo M e.b t p.to) (l ++ [p]) := by
  have up : ∀ {j : Nat} {y : Int}, (∃ e ∈ M, e.k = j ∧ e.x = y) → ∃ e' ∈ setTo M e.b t p.to, e'.k = j ∧ e'.x = y := fun ⟨a, ha, h1, h2⟩ => ⟨_, mem_set.2 ⟨a, ha, rfl⟩, by rw [(set_parts a).1]; exact h1, by rw [(set_parts a).2.1]; exact h2⟩
  refine ⟨up h.root, fun q hq j hj => ?_, fun a ha => ?_, fun q hq a ha h1 h2 => ?_, fun a ha t' v hv => ?_⟩
  · rcases List.mem_append.1 hq with hq | hq
    · exact up (h.has q hq j hj)
    · rw [List.mem_singleton.1 hq] at hj ⊢
      exact up (h.pth j (by omega))
  · obtain ⟨a', ha', rfl⟩ := mem_set.1 ha
    rw [(set_parts a').1, (set_parts a').2.1]
    rcases h.src a' ha' with h1 | ⟨q, hq, h1⟩ | h1
    · exact .inl h1
    · exact .inr ⟨q, List.mem_append_left _ hq, h1⟩
    · exact .inr ⟨p, by simp, by omega, h1.2⟩
  · obtain ⟨a', ha', rfl⟩ := mem_set.1 ha
    rw [(set_parts a').1] at h1 h2
    rw [(set_parts a').2.1] at h2
    rw [(set_parts a').2.2.2]
    rcases List.mem_append.1 hq with hq | hq
    · by_cases hb : a'.b = e.b
      · have : a' = e := hd.blk a' ha' e he hb
        subst this
        exact absurd (by rw [← hx, h2, hk]) (hone q hq (by omega))
      · rw [if_neg hb]
        exact h.val q hq a' ha' h1 h2
    · rw [List.mem_singleton.1 hq] at h1 h2 ⊢
      have : a' = e := hd.key a' ha' e he (by omega) (by rw [h2, hx, h1, hn])
      subst this
      rw [if_pos rfl]
      exact ⟨t, rfl⟩
  · obtain ⟨a', ha', rfl⟩ := mem_set.1 ha
    rw [(set_parts a').2.2.2] at hv
    rw [(set_parts a').1, (set_parts a').2.1]
    split at hv
    · rename_i hb
      have : a' = e := hd.blk a' ha' e he hb
      subst this
      simp only [Option.some.injEq, Prod.mk.injEq] at hv
      exact ⟨p, by simp, by omega, by rw [hx, hk], hv.2⟩
    · obtain ⟨q, hq, h1⟩ := h.own a' ha' t' v hv
      exact ⟨q, List.mem_append_left _ hq, h1⟩
theorem Rel.start {b : Nat} : Rel [⟨0, 0, b, none⟩] [] :=
  ⟨⟨_, List.mem_singleton.2 rfl, rfl, rfl⟩, fun p hp => (by cases hp), fun e he => .inl (by rw [List.mem_singleton.1 he]), fun p hp => (by cases hp), fun e he t v hv => (by rw [List.mem_singleton.1 he] at hv; cases hv)⟩
theorem Fine.one {l : List Pfx} (h : Fine l) {i : Nat} (hi : i < l.length) : ∀ q ∈ l.take i, q.n.toNat = l[i].n.toNat → pre q.v l[i].n.toNat ≠ pre l[i].v l[i].n.toNat := fun q hq hn hx => by
  have hm := List.mem_of_mem_take hq
  have h1 := h.bits q hm
  have h2 := h.bits _ (List.getElem_mem hi)
  have hnn : q.n = l[i].n := by omega
  have he := h.eq (v := l[i].v) hm (List.getElem_mem hi) hnn (by unfold Fits; rw [hn]; exact hx) rfl
  obtain ⟨j, hj, hjq⟩ := List.mem_iff_getElem.1 hq
  rw [List.length_take] at hj
  rw [List.getElem_take] at hjq
  exact h.once j i (by omega) hi ⟨by rw [hjq, hnn], by rw [hjq, he]⟩

/-- The walk along an address: what stands at a node. -/
theorem Best.at_ {M : List Nd} {l : List Pfx} (hf : Fine l) (hr : Rel M l) {v : Int} {k : Nat} {bt : Int} {ok : Bool} (h : Best l v k bt ok) {e : Nd} (he : e ∈ M) (hk : e.k = k) (hx : e.x = pre v k) :
    (∀ t u, e.to = some (t, u) → Best l v (k + 1 : Nat) u true) ∧ (e.to = none → Best l v (k + 1 : Nat) bt ok) := by
  refine ⟨fun t u ht => ?_, fun ht => ?_⟩
  · obtain ⟨p, hp, h1, h2, h3⟩ := hr.own e he t u ht
    have hb := hf.bits p hp
    have h4 := h.hit hp (by omega) (show Fits p v by unfold Fits; rw [← h1, ← h2, hk]; exact hx)
    rw [h3] at h4
    exact_mod_cast h4
  · have h4 := h.miss (fun p hp hpk fp => by
      have hb := hf.bits p hp
      have hpn : p.n.toNat = k := by omega
      unfold Fits at fp
      rw [hpn] at fp
      obtain ⟨t, h5⟩ := hr.val p hp e he (by omega) (by rw [hx, hk, fp])
      rw [ht] at h5
      cases h5)
    exact_mod_cast h4
theorem Best.none_ {M : List Nd} {l : List Pfx} (hf : Fine l) (hr : Rel M l) {v : Int} {k : Nat} {bt : Int} {ok : Bool} (h : Best l v k bt ok) (hno : kid M k (pre v k) = none) : Best l v 33 bt ok :=
  h.stop hf (fun p hp hk hx => by
    have hb := hf.bits p hp
    obtain ⟨e, he, h1, h2⟩ := hr.has p hp k (by omega)
    exact node_none (kid_none hno) e he ⟨h1, by rw [h2, hx]⟩)
end Go.Proofs.Ytpknjfeiiaopgaa.Trie
