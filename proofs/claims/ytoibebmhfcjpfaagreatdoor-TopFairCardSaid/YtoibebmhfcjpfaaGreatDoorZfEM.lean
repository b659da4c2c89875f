/- Maps keyed by int64 that the call holds, with those that range over them. -/
import Derived.Test.YtoibebmhfcjpfaaGreatDoorZfEA
import Derived.Maps.RangeRun
namespace Go.Proofs.YtoibebmhfcjpfaaGreatDoor.E
open Go.RowKit Go.MapKept
open Go.ChangeMaps (setBlock)

/-- A map as its keys and elements, in the order in which they came. -/
def mget : List (Int × Value) → Int → Option Value
  | [], _ => none
  | (j, v) :: l, k => if j = k then some v else mget l k
def keys (m : List (Int × Value)) : List Int := m.map (·.1)

theorem mget_of_mem {m : List (Int × Value)} {k : Int} {v : Value} (hn : (keys m).Nodup) (h : (k, v) ∈ m) : mget m k = some v := by
  induction m with
  | nil => cases h
  | cons p l ih =>
    obtain ⟨j, u⟩ := p
    simp only [keys, List.map_cons, List.nodup_cons] at hn
    simp only [mget]
    rcases List.mem_cons.1 h with e | h2
    · cases e
      simp
    · have : j ≠ k := fun e => hn.1 (by rw [e]; exact List.mem_map.2 ⟨_, h2, rfl⟩)
      rw [if_neg this]
      exact ih hn.2 h2
def vw (e : MapEntry) : Value × Value := (e.key, e.val)
def kv (p : Int × Value) : Value × Value := (.int .i64 p.1, p.2)
/-- The map lies in block b. -/
structure MapIs (w : World) (b : Nat) (m : List (Int × Value)) (es : Array MapEntry) (clock : Nat) : Prop where
  at_ : w.heap[b]? = some (.map es clock)
  st : Stamped es clock
  view : es.toList.map vw = m.map kv
/-- One that ranges over a map: its block, the keys still to come, the last one that came. -/
structure It where
  r : Nat
  left : List Int
  last : Option Int
def ItIs (w : World) (b : Nat) (es : Array MapEntry) (clock : Nat) (t : It) : Prop :=
  ∃ seen, w.heap[t.r]? = some (.mapIter (some b) clock seen clock) ∧ (leftOf es seen).toList.map (·.key) = t.left.map (.int .i64) ∧
    ∀ k, t.last = some k → ∃ e seen', e ∈ es.toList ∧ seen = Array.push seen' e.born ∧ e.key = .int .i64 k

/-- A map with those that range over it. -/
def mpR (b : Nat) (m : List (Int × Value)) (its : List It) : Res where
  foot := b :: its.map (·.r)
  holds w := ∃ es clock, MapIs w b m es clock ∧ (∀ t ∈ its, ItIs w b es clock t) ∧ (b :: its.map (·.r)).Nodup
  stable w w' hf hh := by
    obtain ⟨es, clock, ⟨h1, h2, h3⟩, h4, h5⟩ := hh
    refine ⟨es, clock, ⟨(hf b (List.mem_cons_self ..)).trans h1, h2, h3⟩, fun t ht => ?_, h5⟩
    obtain ⟨seen, g1, g2, g3⟩ := h4 t ht
    exact ⟨seen, (hf t.r (List.mem_cons_of_mem _ (List.mem_map.2 ⟨t, ht, rfl⟩))).trans g1, g2, g3⟩

theorem MapIs.nodup {w : World} {b : Nat} {m : List (Int × Value)} {es : Array MapEntry} {clock : Nat} (h : MapIs w b m es clock) : (keys m).Nodup := by
  have h1 := h.st.2.2
  have h2 : es.toList.map (·.key) = (keys m).map (.int .i64) := by
    have := congrArg (List.map (·.1)) h.view
    simpa [List.map_map, vw, kv, keys, Function.comp_def] using this
  rw [h2] at h1
  exact List.Pairwise.of_map (S := (· ≠ ·)) _ (fun a b hab e => hab (by rw [e])) h1
theorem MapIs.get {w : World} {b : Nat} {m : List (Int × Value)} {es : Array MapEntry} {clock : Nat} (h : MapIs w b m es clock) {e : MapEntry} (he : e ∈ es.toList) : ∃ k, e.key = .int .i64 k ∧ mget m k = some e.val := by
  have h1 : vw e ∈ m.map kv := by rw [← h.view]; exact List.mem_map.2 ⟨e, he, rfl⟩
  obtain ⟨⟨k, v⟩, h2, h3⟩ := List.mem_map.1 h1
  simp only [vw, kv, Prod.mk.injEq] at h3
  exact ⟨k, h3.1.symm, by rw [← h3.2]; exact mget_of_mem h.nodup h2⟩

section
variable {P : Program} {N : Nat} {w0 : World} {F : Frm} {L : List Res} {d : Option Tmp} {x y z : Operand} {v u : Value} {ty t kt et : TypeId} {pos : String} {af : Array Edge} {gd : Option (Nat × Bool)} {K : Frm → List Res → Prop} {b k' : Nat} {m : List (Int × Value)} {its : List It}

/-- Each key once. -/
theorem St.nodup {w : World} {i : Nat} (h : St w0 w L) (hk : lget L i = some (mpR b m its)) : (keys m).Nodup := by
  obtain ⟨es, clock, hM, _⟩ := h.holds i _ hk
  exact hM.nodup
end
end Go.Proofs.YtoibebmhfcjpfaaGreatDoor.E
