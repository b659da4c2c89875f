/- An entry of a map that is found first and stored then. -/
import Derived.Test.YtpknjfeiiaopgaaEM
import Derived.Test.YtpknjfeiiaopgaaEU
namespace Go.Proofs.Ytpknjfeiiaopgaa.E
open Go.RowKit Go.MapKept
open Go.ChangeMaps (setBlock)
section
variable {P : Program} {N : Nat} {w0 : World} {F : Frm} {L : List Res} {d : Option Tmp} {x y z : Operand} {v : Value} {t ty kt et : TypeId} {pos : String} {af : Array Edge} {gd : Option (Nat × Bool)} {K : Frm → List Res → Prop} {b : Nat} {m : List (Int × Value)}
/-- A map of which the entry of k has the stamp q. -/
def mpE (b : Nat) (m : List (Int × Value)) (k q : Int) : Res where
  foot := [b]
  holds w := ∃ (es : Array MapEntry) (clock j : Nat) (e : MapEntry), MapIs w b m es clock ∧ es.toList[j]? = some e ∧ e.key = .int .i64 k ∧ (e.born : Int) = q
  stable w w' hf := by
    rintro ⟨es, clock, j, e, ⟨h1, h2, h3⟩, h4⟩
    exact ⟨es, clock, j, e, ⟨(hf b (by simp)).trans h1, h2, h3⟩, h4⟩
theorem modify_same {l : List MapEntry} {j : Nat} {f g : MapEntry → MapEntry} (h : ∀ e, l[j]? = some e → f e = g e) : l.modify j f = l.modify j g := by
  apply List.ext_getElem?
  intro i
  rw [List.getElem?_modify, List.getElem?_modify]
  by_cases hij : j = i
  · subst hij
    cases he : l[j]? with
    | none => rfl
    | some e => simp [h e he]
  · simp [hij]
theorem modify_id {l : List MapEntry} {j : Nat} {f : MapEntry → MapEntry} (h : ∀ e, l[j]? = some e → f e = e) : l.modify j f = l := by
  apply List.ext_getElem?
  intro i
  rw [List.getElem?_modify]
  by_cases hij : j = i
  · subst hij
    cases he : l[j]? with
    | none => rfl
    | some e => simp [h e he]
  · simp [hij]
theorem oj_mapEntry {k : Int} (i : Nat) (hm : P.underlying t = some (.map kt et)) (hkt : P.underlying kt = some (.int .i64)) (hx : FE N F x (.map (some b))) (hy : FE N F y (.int .i64 k)) (hk : lget L i = some (mpR b m [])) (hg : mget m k = some v)
    (h : ∀ q : Int, K (fput F d (.tuple #[v, .int .i64 q])) (lset L i (mpE b m k q))) : OpJ P N w0 F L ⟨d, .mapEntry t x y, ty, pos, af, gd⟩ K := fun a w hF hS => by
  obtain ⟨es, clock, ⟨h1, h2, h3⟩, _, _⟩ := hS.holds i _ hk
  have hb : b < w.heap.size := (Array.getElem?_eq_some_iff.1 h1).1
  rcases find_view k v es.toList m 0 h3 with ⟨g1, g2, g3⟩ | ⟨j, e, g1, g2, g3, g4, _⟩
  · rw [g3] at hg; cases hg
  · have hv : e.val = v := Option.some.inj (g4.symm.trans hg)
    have hj : es[j]? = some e := by simpa using g2
    have hes : es.modify j (fun e => { e with key := .int .i64 k }) = es := by
      apply Array.toList_inj.1
      rw [Array.toList_modify]
      refine modify_id (fun e' he' => ?_)
      rw [g2] at he'
      cases he'
      rw [← g3]
    have hr : (execOp a.eval ⟨d, .mapEntry t x y, ty, pos, af, gd⟩).run P w = .ok (.value (.tuple #[v, .int .i64 e.born])) (setBlock w b (.map es clock)) := by
      simp [execOp, Instr.mapEntry, hx a hF, hy a hF, run_underlying hm, MapKept.run_getObj_map h1, run_checkKey (k := .int .i64 k) hkt rfl, run_findKey hkt g1, hj, g3, run_keyThatStays (d := .int .i64) (k := .int .i64 k) rfl, MapKept.run_setObj_map _ h1, Result.andThen, setBlock, hes, hv, goInt]
    unfold Oper.wp
    rw [hr]
    refine ⟨_, _, h e.born, hF.put _ _, hS.turn hk rfl rfl rfl (by simp [setBlock]) (fun c _ hc => ?_) ⟨es, clock, j, e, ⟨by simp [setBlock, hb], h2, h3⟩, g2, g3, rfl⟩ (fun c hc => ?_)⟩
    · have : b ≠ c := fun e => hc (by subst e; exact List.mem_cons_self ..)
      simp [setBlock, this]
    · have hcb : c = b := by simpa [mpE] using hc
      subst hcb
      exact ⟨by simpa [setBlock] using hb, .inl (List.mem_cons_self ..)⟩
theorem oj_entryStore {k q : Int} (i : Nat) (hx : FE N F x (.map (some b))) (hy : FE N F y (.int .i64 q)) (hz : FE N F z v) (hk : lget L i = some (mpE b m k q))
    (h : K (fput F d undef) (lset L i (mpR b (mput m k v) []))) : OpJ P N w0 F L ⟨d, .entryStore t x y z, ty, pos, af, gd⟩ K := fun a w hF hS => by
  obtain ⟨es, clock, j, e, ⟨h1, h2, h3⟩, h4, h5, h6⟩ := hS.holds i _ hk
  have hb : b < w.heap.size := (Array.getElem?_eq_some_iff.1 h1).1
  have hjl : j < es.size := by have := (List.getElem?_eq_some_iff.1 h4).1; simpa using this
  have hje : es[j] = e := by have := (List.getElem?_eq_some_iff.1 h4).2; simpa using this
  have uniq : ∀ i' (hi' : i' < es.size), (es[i'].born : Int) = q → i' = j := fun i' hi' hq => by
    refine (List.getElem?_inj (l := es.toList.map (·.born)) (by simpa using hi') h2.2.1).1 ?_
    rw [List.getElem?_map, List.getElem?_map, h4, List.getElem?_eq_getElem (by simpa using hi')]
    simp only [Option.map_some, Option.some.injEq, Array.getElem_toList]
    omega
  have hfi : es.findIdx? (fun x => ((x.born : Int) == q)) = some j := by
    rw [Array.findIdx?_eq_some_iff_getElem]
    refine ⟨hjl, by rw [hje]; simpa using h6, fun i' hi' => ?_⟩
    intro hp
    have := uniq i' (by omega) (by simpa using hp)
    omega
  rcases find_view k v es.toList m 0 h3 with ⟨g1, g2, g3⟩ | ⟨j2, e2, g1, g2, g3, g4, g5, _⟩
  · exact absurd h5 (g2 e (List.mem_of_getElem? h4))
  · have hj2 : j2 = j := by
      refine (List.getElem?_inj (l := es.toList.map (·.key)) ?_ h2.2.2).1 ?_
      · rw [List.length_map]; exact (List.getElem?_eq_some_iff.1 g2).1
      · rw [List.getElem?_map, List.getElem?_map, g2, h4]
        simp [g3, h5]
    subst hj2
    have hr : (execOp a.eval ⟨d, .entryStore t x y z, ty, pos, af, gd⟩).run P w = .ok .skip (setBlock w b (.map (es.modify j2 fun e => { e with val := v }) clock)) := by
      simp [execOp, Instr.entryStore, hx a hF, hy a hF, hz a hF, MapKept.run_getObj_map h1, asInt, asIntOf, hfi, MapKept.run_setObj_map _ h1, Result.andThen, setBlock]
    unfold Oper.wp
    rw [hr]
    refine ⟨_, _, h, hF.put _ _, hS.turn hk rfl rfl rfl (by simp [setBlock]) (fun c _ hc => ?_) ⟨es.modify j2 fun e => { e with val := v }, clock, ⟨by simp [setBlock, hb], stamped_modify h2 _ _ (fun _ _ => rfl) (fun _ _ _ => rfl), ?_⟩, fun _ h => by simp at h, by simp⟩ (fun c hc => ?_)⟩
    · have : b ≠ c := fun e => hc (by simp [mpE, e])
      simp [setBlock, this]
    · rw [Array.toList_modify, ← g5]
      congr 1
      refine modify_same (fun e' he' => ?_)
      rw [h4] at he'
      cases he'
      rw [← h5]
    · have hcb : c = b := by simpa [mpR] using hc
      subst hcb
      exact ⟨by simpa [setBlock] using hb, .inl (by simp [mpE])⟩
end
end Go.Proofs.Ytpknjfeiiaopgaa.E
