/- Drawn regions where some of what is held turns ahead of the first writer; two that no order binds; a slice goes back to the others from any place. -/
import Derived.Test.YtpknjfeiiaopgaaEJ
import Derived.Test.YtpknjfeiiaopgaaES
namespace Go.Proofs.Ytpknjfeiiaopgaa.E
open Go.RowKit

section
variable {P : Program} {N : Nat} {w0 : World} {ops : Array Oper} {Q : Exit → Act → World → Prop} {F : Frm} {L S1 S2 : List Res} {listed : Array Bool} {n k0 : Nat}
theorem tb_draw1 {id : Nat} {l : List Oper} (k0 : Nat) (S1 S2 : List Res) (h01 : ∀ w, St w0 w L → St w0 w S1) (h12 : ∀ w, St w0 w S1 → St w0 w S2) (hm : P.follows .mixedOrders = true) (h : TB P N w0 l.toArray Q k0 S1 S2 l.length (Array.replicate l.length false) F L) : TR P N w0 Q (.region id l.toArray true) F L := fun a w hF hS => by
  have h1 : St w0 { w with drawn := w.drawn + 1 } L := hS.grow ⟨rfl, rfl, rfl, Nat.le_refl _, fun _ _ => rfl⟩
  have hc : CC w0 k0 S1 S2 (Array.replicate l.length false) { w with drawn := w.drawn + 1 } := by
    unfold CC
    cases (Array.replicate l.length false).getD k0 true
    · exact h01 _ h1
    · exact h12 _ (h01 _ h1)
  have := h h12 a _ hF h1 hc
  exact wp_region_any hm (by simpa using wpAny_of_D (fun _ _ h => h) _ _ _ _ this)
/-- Two that no order binds, ahead of the first writer. -/
theorem tb_two1 {i j : Nat} {o u : Oper} (hi : ops[i]? = some o) (hj : ops[j]? = some u) (hr : Region.ready .any ops listed = [i, j]) (hb : (listed.setIfInBounds i true).getD k0 true = false) (hb2 : (listed.setIfInBounds j true).getD k0 true = false) (hw : Wants N ops F o true) (hw2 : Wants N ops F u true)
    (h : OpJ P N w0 F L o (fun F' L' => (∀ w, St w0 w L' → St w0 w S1) ∧ TB P N w0 ops Q k0 S1 S2 n (listed.setIfInBounds i true) F' L'))
    (h' : OpJ P N w0 F L u (fun F' L' => (∀ w, St w0 w L' → St w0 w S1) ∧ TB P N w0 ops Q k0 S1 S2 n (listed.setIfInBounds j true) F' L')) : TB P N w0 ops Q k0 S1 S2 (n + 1) listed F L := fun h12 a w hF hS hC => by
  refine ⟨fun h0 => (by rw [hr] at h0; cases h0), fun m hm => ?_⟩
  rw [hr] at hm
  simp only [List.mem_cons, List.not_mem_nil, or_false] at hm
  unfold cOp
  rcases hm with rfl | rfl
  · simp only [hi, hw a hF, if_true]
    refine wp_of_noQ (fun a' w' ⟨F', L', ⟨h1, h2⟩, h3, h4⟩ w'' hw'' => ?_) (h a w hF hS)
    have hc : CC w0 k0 S1 S2 (listed.setIfInBounds m true) w'' := by unfold CC; rw [hb]; exact h1 _ (h4.grow hw'')
    exact ⟨hc, h2 h12 a' w'' h3 (h4.grow hw'') hc⟩
  · simp only [hj, hw2 a hF, if_true]
    refine wp_of_noQ (fun a' w' ⟨F', L', ⟨h1, h2⟩, h3, h4⟩ w'' hw'' => ?_) (h' a w hF hS)
    have hc : CC w0 k0 S1 S2 (listed.setIfInBounds m true) w'' := by unfold CC; rw [hb2]; exact h1 _ (h4.grow hw'')
    exact ⟨hc, h2 h12 a' w'' h3 (h4.grow hw'') hc⟩
theorem tb_as {r r' : Res} (i : Nat) (hi : lget L i = some r) (he : r = r') (h : TB P N w0 ops Q k0 S1 S2 n listed F (lset L i r')) : TB P N w0 ops Q k0 S1 S2 n listed F L := by
  subst he
  have hl : lset L i r = L := by
    clear h
    induction L generalizing i with
    | nil => rfl
    | cons a L ih => cases i with
      | zero => simp only [lget, Option.some.injEq] at hi; simp [lset, hi]
      | succ i => simp only [lset]; rw [ih i hi]
  rwa [hl] at h
end

section
variable {P : Program} {N : Nat} {w0 : World} {Q : Exit → Act → World → Prop} {F : Frm} {L : List Res} {c : Code}
theorem St.front2 {w : World} {j : Nat} {r : Res} (h : St w0 w L) (hj : lget L j = some r) : St w0 w (r :: lset L j emp) := by
  have key : ∀ k t, lget (lset L j emp) k = some t → (k = j ∧ t = emp) ∨ (k ≠ j ∧ lget L k = some t) := fun k t hk => by
    rw [lget_lset] at hk
    split at hk
    · rename_i e1
      rw [hj] at hk
      exact .inl ⟨e1, by simpa using hk.symm⟩
    · rename_i e1
      exact .inr ⟨e1, hk⟩
  refine ⟨h.below, fun k t hk => ?_, fun k t hk b hb => ?_, fun k m t u hk hm hkm b hb hb' => ?_⟩
  · match k with
    | 0 => simp only [lget, Option.some.injEq] at hk; subst hk; exact h.holds j _ hj
    | k + 1 => rcases key k t hk with ⟨_, rfl⟩ | ⟨_, h1⟩
               · trivial
               · exact h.holds k t h1
  · match k with
    | 0 => simp only [lget, Option.some.injEq] at hk; subst hk; exact h.lt j _ hj b hb
    | k + 1 => rcases key k t hk with ⟨_, rfl⟩ | ⟨_, h1⟩
               · simp [emp] at hb
               · exact h.lt k t h1 b hb
  · match k, m with
    | 0, 0 => exact hkm rfl
    | 0, m + 1 =>
      simp only [lget, Option.some.injEq] at hk
      subst hk
      rcases key m u hm with ⟨_, rfl⟩ | ⟨h2, h1⟩
      · simp [emp] at hb'
      · exact h.sep j m _ _ hj h1 (Ne.symm h2) b hb hb'
    | k + 1, 0 =>
      simp only [lget, Option.some.injEq] at hm
      subst hm
      rcases key k t hk with ⟨_, rfl⟩ | ⟨h2, h1⟩
      · simp [emp] at hb
      · exact h.sep k j _ _ h1 hj h2 b hb hb'
    | k + 1, m + 1 =>
      rcases key k t hk with ⟨_, rfl⟩ | ⟨h2, h1⟩
      · simp [emp] at hb
      · rcases key m u hm with ⟨_, rfl⟩ | ⟨h4, h3⟩
        · simp [emp] at hb'
        · exact h.sep k m _ _ h1 h3 (fun e => hkm (by rw [e])) b hb hb'
theorem tr_norm {L' : List Res} (h01 : ∀ w, St w0 w L → St w0 w L') (h : TR P N w0 Q c F L') : TR P N w0 Q c F L := fun a w hF hS => h a w hF (h01 w hS)
theorem tr_subInJ {e s n cp : Nat} {vs vs' : List Vs} {A : Option Addr} {xs : List Value} (j i q : Nat) (hj : lget L j = some (vec e s (.slice A n cp) n xs)) (hi : lget L i = some (subs e s vs)) (hne : Nat.beq i j = false) (hq : vs[q]? = some Vs.nil) (hv : vs.set q ⟨A, n, cp, xs⟩ = vs')
    (h : TR P N w0 Q c F (lset (lset L j emp) i (subs e s vs'))) : TR P N w0 Q c F L := fun a w hF hS => by
  have h1 := hS.front2 hj
  have hi2 : lget (lset L j emp) i = some (subs e s vs) := by rw [lget_lset, if_neg (Nat.ne_of_beq_eq_false hne)]; exact hi
  exact h a w hF (h1.subIn hi2 hq hv)
end
section
variable {P : Program} {N : Nat} {w0 : World} {F : Frm} {L : List Res} {d : Option Tmp} {x y z : Operand} {v u : Value} {ty t t' : TypeId} {pos : String} {af : Array Edge} {gd : Option (Nat × Bool)} {K : Frm → List Res → Prop}
variable {α : Type} {c : α → List Value} {s : Nat}
theorem y_nilCheckR {A : Option Addr} {j : Nat} (hx : FE N F x (elt A j)) (hr : Rch w0 L A) : Yld P N w0 F L ⟨d, .nilCheck x, ty, pos, af, gd⟩ (elt A j) := fun c w hF hS => by
  obtain ⟨b, o, rfl⟩ := hr w hS
  simp [execOp, hx c hF, elt]
theorem y_fieldAddrR {fs : Array Field} {f : Field} {i j m j' td : Nat} {A : Option Addr} (hu : P.underlying t = some (.struct fs)) (hf : fs[i]? = some f) (ht : f.type = td) (hz : ∀ w, (sizeOf td).run P w = .ok (m + 1) w) (ho : j + f.offset = j') (hx : FE N F x (elt A j)) (hr : Rch w0 L A) :
    Yld P N w0 F L ⟨d, .fieldAddr t x i, ty, pos, af, gd⟩ (elt A j') := fun a w hF hS => by
  subst ho ht
  obtain ⟨b, o, rfl⟩ := hr w hS
  simp [execOp, hx a hF, elt, Instr.fieldAt, run_underlying hu, hf, Instr.sureAddr, fieldPlace, hz]
  unfold Addr.add
  split
  · rename_i h; simp [h]
  · simp [Nat.add_assoc]
theorem oj_storeG {e n m cp k o i : Nat} {al : List α} {A : Option Addr} (d0 x1 : α) (hc : ∀ a, (c a).length = s) (hs : ∀ w, (sizeOf t).run P w = .ok 1 w) (hx : FE N F x (elt A (k * s + o))) (hy : FE N F y v) (hv : v.cells = #[v]) (h1 : v.oneCell' = true) (hk : lget L i = some (vec e s (.slice A m cp) n (al.flatMap c)))
    (hkl : k < al.length) (ho : Nat.blt o s = true) (hnew : c x1 = (c (al.getD k d0)).set o v) (h : K (fput F d undef) (lset L i (vec e s (.slice A m cp) n ((al.set k x1).flatMap c)))) : OpJ P N w0 F L ⟨d, .store t x y, ty, pos, af, gd⟩ K :=
  oj_storeF x1 hc hs hx hy hv h1 hk hkl ho (by rw [hnew, show al.getD k d0 = al[k] by simp [List.getD_eq_getElem?_getD, hkl]]) h
end
end Go.Proofs.Ytpknjfeiiaopgaa.E
