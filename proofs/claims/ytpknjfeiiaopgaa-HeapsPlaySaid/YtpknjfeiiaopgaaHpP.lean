/- The reference's map as a table; who is first among those that were seen. -/
import Derived.Test.YtpknjfeiiaopgaaHpO
import Derived.Test.YtpknjfeiiaopgaaEF
namespace Go.Proofs.Ytpknjfeiiaopgaa.E
open Go.RowKit
theorem y_lookupA {P : Program} {N : Nat} {w0 : World} {F : Frm} {L : List Res} {d : Option Tmp} {x y : Operand} {v u : Value} {ty t kt et : TypeId} {pos : String} {af : Array Edge} {gd : Option (Nat × Bool)} {b : Nat} {m : List (Int × Value)} {its : List It} {k : Int} (i : Nat) (hm : P.underlying t = some (.map kt et)) (hkt : P.underlying kt = some (.int .i64)) (hz : ∀ w, (zeroValue et).run P w = .ok v w) (hx : FE N F x (.map (some b))) (hy : FE N F y (.int .i64 k)) (hk : lget L i = some (mpR b m its)) (hg : (mget m k).getD v = u) :
    Yld P N w0 F L ⟨d, .lookup t x y false, ty, pos, af, gd⟩ u := by
  have h := y_lookup (d := d) (ty := ty) (pos := pos) (af := af) (gd := gd) (w0 := w0) i hm hkt hz hx hy hk
  rwa [hg] at h
end Go.Proofs.Ytpknjfeiiaopgaa.E
namespace Go.Proofs.Ytpknjfeiiaopgaa.Heap
open Go.RowKit Go.Proofs.Ytpknjfeiiaopgaa.E Go.Proofs.Ytpknjfeiiaopgaa.Big

abbrev wv (k : Int × Int) : Value := .agg #[.int .u64 k.1, .int .u64 k.2]
def Mr (m : Mp) (f : Tb) : Prop := ∀ i, mget m i = (f i).map wv
variable {m : Mp} {f : Tb}
theorem Mr.nil : Mr [] (fun _ => none) := fun _ => rfl
theorem Mr.put (h : Mr m f) (i : Int) (k : Int × Int) : Mr (mput m i (wv k)) (upd f i (some k)) := fun j => by
  rw [mput_get]
  unfold upd
  split
  · rfl
  · exact h j
theorem Mr.del (h : Mr m f) (hn : (keys m).Nodup) (i : Int) : Mr (mdel m i) (upd f i none) := fun j => by
  rw [mdel_get hn]
  unfold upd
  split
  · rfl
  · exact h j
theorem Mr.emp (h : Mr m f) : Emp f ↔ m.length = 0 := by
  constructor
  · intro he
    cases m with
    | nil => rfl
    | cons p l =>
      obtain ⟨j, u⟩ := p
      have := h j
      rw [he j] at this
      simp [mget] at this
  · intro hl i
    have : m = [] := List.eq_nil_of_length_eq_zero hl
    subst this
    have := h i
    cases hf : f i with
    | none => rfl
    | some k => rw [hf] at this; cases this
theorem Mr.no (h : Mr m f) {i : Int} : mget m i = none ↔ f i = none := by
  rw [h i]
  cases f i <;> simp
theorem Mr.at (h : Mr m f) {i : Int} {v : Value} (hg : mget m i = some v) : ∃ k : Int × Int, f i = some k ∧ v = .agg #[.int .u64 k.1, .int .u64 k.2] := by
  have := h i
  rw [hg] at this
  cases hf : f i with
  | none => rw [hf] at this; cases this
  | some k => rw [hf] at this; exact ⟨k, rfl, Option.some.inj this⟩
theorem Mr.val (h : Mr m f) (b : Int) : ∃ c : Int × Int, (mget m b).getD (.agg #[.int .u64 0, .int .u64 0]) = .agg #[.int .u64 c.1, .int .u64 c.2] ∧ ∀ k, f b = some k → k = c := by
  rw [h b]
  cases hf : f b with
  | none => exact ⟨(0, 0), rfl, fun k hk => by cases hk⟩
  | some k => exact ⟨k, rfl, fun k' hk => by cases hk; rfl⟩
theorem lt3_mk {a b c a' b' c' : Int} : lt3 (a, b, c) (a', b', c') ↔ (b < b' ∨ (b = b' ∧ (c < c' ∨ (c = c' ∧ a < a')))) := Iff.rfl
/-- Who is first among those that were seen. -/
def Bst (f : Tb) (V : Int → Prop) (b : Int) (fd : Bool) : Prop := (fd = false ∧ ∀ i, ¬ V i) ∨ (fd = true ∧ V b ∧ ∃ k, f b = some k ∧ ∀ i k', V i → f i = some k' → i ≠ b → lt3 (b, k) (i, k'))
variable {V V' : Int → Prop} {b j : Int} {fd : Bool} {kj : Int × Int}
theorem Bst.val (h : Bst f V b fd) (hfd : fd = true) {c : Int × Int} (hc : ∀ k, f b = some k → k = c) : f b = some c := by
  rcases h with ⟨h1, _⟩ | ⟨_, _, k, hk, _⟩
  · rw [hfd] at h1; cases h1
  · rw [hk, hc k hk]
theorem Bst.take (h : Bst f V b fd) (hV : ∀ i, V' i ↔ V i ∨ i = j) (hj : f j = some kj) (hc : fd = true → ∀ k, f b = some k → lt3 (j, kj) (b, k)) : Bst f V' j true := by
  refine .inr ⟨rfl, (hV j).2 (.inr rfl), kj, hj, fun i k' hi hk hne => ?_⟩
  rcases (hV i).1 hi with h1 | h1
  · rcases h with ⟨_, h2⟩ | ⟨h2, h3, k, h4, h5⟩
    · exact absurd h1 (h2 i)
    · have h6 := hc h2 k h4
      by_cases e : i = b
      · subst e
        rw [h4] at hk; cases hk
        exact h6
      · exact lt3_tr h6 (h5 i k' h1 hk e)
  · exact absurd h1 hne
theorem Bst.keep (h : Bst f V b fd) (hfd : fd = true) (hV : ∀ i, V' i ↔ V i ∨ i = j) (hnj : ¬ V j) (hj : f j = some kj) (hc : ∀ k, f b = some k → ¬ lt3 (j, kj) (b, k)) : Bst f V' b fd := by
  rcases h with ⟨h2, _⟩ | ⟨h2, h3, k, h4, h5⟩
  · rw [hfd] at h2; cases h2
  · refine .inr ⟨h2, (hV b).2 (.inl h3), k, h4, fun i k' hi hk hne => ?_⟩
    rcases (hV i).1 hi with h1 | h1
    · exact h5 i k' h1 hk hne
    · subst h1
      rw [hj] at hk; cases hk
      exact lt3_tot (hc k h4) hne
theorem Bst.fin (hm : Mr m f) (h : Bst f (fun i => i ∈ keys m ∧ i ∉ ([] : List Int)) b fd) (hne : ¬ Emp f) : amin f = b ∧ IsMin f (amin f) := by
  have hV : ∀ i k, f i = some k → i ∈ keys m ∧ i ∉ ([] : List Int) := fun i k hk => by
    refine ⟨Decidable.not_not.1 fun h1 => ?_, by simp⟩
    have := hm.no.1 (mget_none.2 h1)
    rw [hk] at this; cases this
  rcases h with ⟨_, h2⟩ | ⟨_, h3, k, h4, h5⟩
  · exfalso
    refine hne fun i => ?_
    cases hf : f i with
    | none => rfl
    | some k => exact absurd (hV i k hf) (h2 i)
  · have hm : IsMin f b := ⟨k, h4, fun i k' hk hne => h5 i k' (hV i k' hk) hk hne⟩
    have := amin_eq hm
    exact ⟨this, by rw [this]; exact hm⟩
theorem left_nextI {left : List Int} {q : Int} (hk : q ∈ keys m) (j : Int) : (j ∈ keys m ∧ j ∉ left.filter (· != q)) ↔ (j ∈ keys m ∧ j ∉ left) ∨ j = q := by
  simp only [List.mem_filter, bne_iff_ne, ne_eq, not_and, Decidable.not_not]
  constructor
  · rintro ⟨h1, h2⟩
    by_cases h : j ∈ left
    · exact .inr (h2 h)
    · exact .inl ⟨h1, h⟩
  · rintro (⟨h1, h2⟩ | rfl)
    · exact ⟨h1, fun h => absurd h h2⟩
    · exact ⟨hk, fun _ => rfl⟩
theorem left_less {left : List Int} {q : Int} (h : q ∈ left) : (left.filter (· != q)).length < left.length := by
  have := List.length_filter_lt_length_iff_exists (l := left) (p := (· != q))
  rw [this]
  exact ⟨q, h, by simp⟩
end Go.Proofs.Ytpknjfeiiaopgaa.Heap
