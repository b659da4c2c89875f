/- What an operation says, plain. -/
import Derived.Test.YtpknjfeiiaopgaaHpN
namespace Go.Proofs.Ytpknjfeiiaopgaa.Heap
open Go.RowKit Go.Proofs.Ytpknjfeiiaopgaa.E Go.Proofs.Ytpknjfeiiaopgaa.Big

/-- The heap and the table are one. -/
structure Gd (n : Nat) (l : List I3) (m : Mp) (f : Tb) : Prop where
  len : l.length = n
  hp : Hp l
  inj : Inj l
  map : MapOk l m
  rf : Rf l f
/-- What the queue holds: its slice, its items, where they are. -/
structure Hd where
  A : Option Addr
  n : Nat
  c : Nat
  l : List I3
  m : Mp
open Classical in
/-- Who is popped. -/
noncomputable def pop (f : Tb) (o : Op4) : Int := if err f o = 0 ∧ o.kind = 2 then amin f else 0
variable {n : Nat} {l : List I3} {m : Mp} {f : Tb} {o : Op4}
theorem Gd.no (h : Gd n l m f) {i : Int} (hm : mget m i = none) : f i = none := h.rf.no.2 fun x hx e => by
  obtain ⟨q, hq, hg⟩ := mem_gl.1 hx
  have := h.map.1 q hq
  rw [hg, e, hm] at this
  cases this
theorem Gd.at (h : Gd n l m f) (i : Int) : mget m i = none ∨ ∃ k, k < n ∧ mget m i = some (.int .i64 ((k : Int))) ∧ (gl l k).1 = i := by
  cases hm : mget m i with
  | none => exact .inl rfl
  | some v =>
    obtain ⟨k, hk, e⟩ := h.map.2 i v hm
    have := h.map.1 k hk
    rw [e, hm] at this
    exact .inr ⟨k, by rw [← h.len]; exact hk, this, e⟩
theorem Gd.yes (h : Gd n l m f) {i : Int} {k : Nat} (hk : k < n) (e : (gl l k).1 = i) : f i = some (gl l k).2 := (h.rf _ _).2 (mem_gl.2 ⟨k, by rw [h.len]; exact hk, by rw [← e]⟩)
theorem err_k (h : o.kind < 1 ∨ 4 < o.kind) : err f o = 5 := by unfold err; rw [if_pos h]
theorem err_1 (h : o.kind = 1) (hf : f o.id = none) : err f o = 0 := by unfold err; rw [if_neg (by omega), if_pos h, if_pos hf]
theorem err_1d (h : o.kind = 1) (hf : f o.id ≠ none) : err f o = 6 := by unfold err; rw [if_neg (by omega), if_pos h, if_neg hf]
theorem err_2 (h : o.kind = 2) (hf : ¬ Emp f) : err f o = 0 := by unfold err; rw [if_neg (by omega), if_neg (by omega), if_pos h, if_neg hf]
theorem err_2e (h : o.kind = 2) (hf : Emp f) : err f o = 3 := by unfold err; rw [if_neg (by omega), if_neg (by omega), if_pos h, if_pos hf]
theorem err_3 (h : o.kind = 3 ∨ o.kind = 4) (hf : f o.id ≠ none) : err f o = 0 := by unfold err; rw [if_neg (by omega), if_neg (by omega), if_neg (by omega), if_neg hf]
theorem err_3n (h : o.kind = 3 ∨ o.kind = 4) (hf : f o.id = none) : err f o = 3 := by unfold err; rw [if_neg (by omega), if_neg (by omega), if_neg (by omega), if_pos hf]
/-- What was wrong has no effect. -/
theorem bad {e : Int} (h : err f o = e) (h0 : e ≠ 0) : pop f o = 0 ∧ e = err f o ∧ nxt f o = f := by
  unfold pop nxt
  rw [h, if_neg (fun h1 => h0 h1.1), if_pos h0]
  exact ⟨rfl, rfl, rfl⟩
theorem good_2 (h : o.kind = 2) (hf : ¬ Emp f) : pop f o = amin f ∧ 0 = err f o ∧ nxt f o = upd f (amin f) none := by
  have he := err_2 h hf
  unfold pop nxt
  rw [he, if_pos ⟨rfl, h⟩, if_neg (fun h1 => h1 rfl), if_pos h]
  exact ⟨rfl, rfl, rfl⟩
theorem good_1 (h : o.kind = 1) (hf : f o.id = none) : pop f o = 0 ∧ 0 = err f o ∧ nxt f o = upd f o.id (some (o.hi, o.lo)) := by
  have he := err_1 h hf
  unfold pop nxt
  rw [he, if_neg (fun h1 => by omega), if_neg (fun h1 => h1 rfl), if_neg (by omega), if_neg (by omega)]
  exact ⟨rfl, rfl, rfl⟩
theorem good_3 (h : o.kind = 3) (hf : f o.id ≠ none) : pop f o = 0 ∧ 0 = err f o ∧ nxt f o = upd f o.id none := by
  have he := err_3 (.inl h) hf
  unfold pop nxt
  rw [he, if_neg (fun h1 => by omega), if_neg (fun h1 => h1 rfl), if_neg (by omega), if_pos h]
  exact ⟨rfl, rfl, rfl⟩
theorem good_4 (h : o.kind = 4) (hf : f o.id ≠ none) : pop f o = 0 ∧ 0 = err f o ∧ nxt f o = upd f o.id (some (o.hi, o.lo)) := by
  have he := err_3 (.inr h) hf
  unfold pop nxt
  rw [he, if_neg (fun h1 => by omega), if_neg (fun h1 => h1 rfl), if_neg (by omega), if_neg (by omega)]
  exact ⟨rfl, rfl, rfl⟩
/-- The item at k is taken. -/
theorem Gd.cut (h : Gd (n + 1) l m f) {k : Nat} (hk : k ≤ n) {q : List I3 × Mp} (hq : Hp q.1 ∧ q.1.length = n ∧ Inj q.1 ∧ MapOk q.1 q.2 ∧ ∀ x, x ∈ q.1 ↔ x ∈ l ∧ x ≠ gl l k) : Gd n q.1 q.2 (upd f (gl l k).1 none) :=
  ⟨hq.2.1, hq.1, hq.2.2.1, hq.2.2.2.1, h.rf.del (mem_gl.2 ⟨k, by have := h.len; omega, rfl⟩) hq.2.2.2.2⟩
theorem Gd.top (h : Gd n l m f) (h0 : 0 < n) : amin f = (gl l 0).1 := amin_eq (h.rf.root h.hp (by rw [h.len]; exact h0))
theorem Gd.emp (h : Gd n l m f) : Emp f ↔ n = 0 := by rw [h.rf.emp, h.len]
theorem Gd.push (h : Gd n l m f) {x : I3} (hn : f x.1 = none) {q : List I3 × Mp} (hq : Hp q.1 ∧ Same (n + 1) (l ++ [x]) q.1 q.2) : Gd (n + 1) q.1 q.2 (upd f x.1 (some x.2)) :=
  ⟨hq.2.len, hq.1, hq.2.inj, hq.2.map, h.rf.add hn fun y => (hq.2.mem y).trans (by simp)⟩
theorem Gd.put (h : Gd n l m f) {k : Nat} (hk : k < n) {x : I3} (hx : x.1 = (gl l k).1) {q : List I3 × Mp} (hq : Hp q.1 ∧ Same n (l.set k x) q.1 q.2) : Gd n q.1 q.2 (upd f x.1 (some x.2)) :=
  ⟨hq.2.len, hq.1, hq.2.inj, hq.2.map, h.rf.put (k0 := (gl l k).2) (mem_gl.2 ⟨k, by rw [h.len]; exact hk, by rw [hx]⟩) fun y => (hq.2.mem y).trans (by
    have := (put_facts h.len hk h.inj h.map hx).2.2 y
    rw [show (x.1, (gl l k).2) = gl l k by rw [hx]]
    exact this)⟩
theorem Gd.nil : Gd 0 [] [] (fun _ => none) := ⟨rfl, fun i _ h => by simp at h, fun i j h => by simp at h, ⟨fun i h => by simp at h, fun k v h => by cases h⟩, fun i k => by simp⟩
end Go.Proofs.Ytpknjfeiiaopgaa.Heap
