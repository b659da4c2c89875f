/- Arguments that are slices of slices of integers. -/
import Derived.Test.YtdfjeoifeladfaaFrameS
import Derived.Test.YtdfjeoifeladfaaRdR
namespace Go.Proofs.Ytdfjeoifeladfaa
open Go.RowKit Go.ChangeShapes Go.WideShapes Go.ChangeAt

section
variable {H : Type} {enc : TypeId × Value → H} {P : Program} {W : World} {base base' : Nat} {spare : Nat → Bool} {held : Bool}

theorem weightsAll_get : ∀ {e : TypeId} {ds : List (DataW H)}, (DataW.weightsAll P e ds).all (· ≤ reachBytes) = true → ∀ (i : Nat) (d : DataW H), ds[i]? = some d → (d.weights P e).all (· ≤ reachBytes) = true
  | _, [], _, i, d, h1 => by simp at h1
  | e, d :: ds, h, 0, d', h1 => by
    simp only [List.getElem?_cons_zero, Option.some.injEq] at h1
    subst h1
    simp only [DataW.weightsAll, List.all_append, Bool.and_eq_true] at h
    exact h.1
  | e, d :: ds, h, i + 1, d', h1 => by
    simp only [DataW.weightsAll, List.all_append, Bool.and_eq_true] at h
    exact weightsAll_get h.2 i d' (by simpa using h1)

theorem weights_sl_el {t e : TypeId} {el sp : List (DataW H)} (ht : P.underlying t = some (.slice e)) (h : ((DataW.slice el sp).weights P t).all (· ≤ reachBytes) = true) :
    (DataW.weightsAll P e el).all (· ≤ reachBytes) = true := by
  simp only [DataW.weights, ht, List.all_cons, List.all_append, Bool.and_eq_true] at h
  exact h.2.1

theorem list_choose {α β : Type} {p : α → β → Prop} : ∀ (l : List α), (∀ (i : Nat) (a : α), l[i]? = some a → ∃ b, p a b) → ∃ r : List β, r.length = l.length ∧ ∀ i (h : i < l.length) (h' : i < r.length), p l[i] r[i]
  | [], _ => ⟨[], rfl, fun i h => by simp at h⟩
  | a :: l, h => by
    obtain ⟨b, hb⟩ := h 0 a rfl
    obtain ⟨r, h1, h2⟩ := list_choose l (fun i a hi => h (i + 1) a (by simpa using hi))
    refine ⟨b :: r, by simp [h1], fun i hi hi' => ?_⟩
    cases i with
    | zero => exact hb
    | succ i => exact h2 i (by simpa using hi) (by simpa using hi')

/-- An argument that is a slice of slices of integers. -/
theorem arg_rows {t s e : TypeId} {v : Value} {d : DataW H} {p : List MemPlace} (ht : P.underlying t = some (.slice s)) (hs : P.underlying s = some (.slice e)) (he : P.underlying e = some (.int .i64)) (hcs : P.cellsOf s = 1) (hce : P.cellsOf e = 1)
    (hv : Value.okWide P W .any base' t v) (h : DataW.Trod enc P W base spare held t v d p) (hw : (d.weights P t).all (· ≤ reachBytes) = true) :
    ∃ (A : Option Addr) (n c : Nat) (hs : List Value) (rows : List (List Int)), v = .slice A n c ∧ n ≤ c ∧ RdR W A hs rows ∧ rows.length = n ∧ (∀ r ∈ rows, ∀ z ∈ r, (Lit.int .i64 z).wf = true) ∧ n * P.bytesOf s ≤ 140737488351232 ∧ (∀ r ∈ rows, r.length * P.bytesOf e ≤ 140737488351232) := by
  obtain ⟨A, n, c, rfl⟩ := okWide_slice ht hv
  obtain ⟨fuel, hf⟩ := h
  obtain ⟨A', n', c', es, ds, m, hcs', hlc, hes, hds, hd, hrd, hel⟩ := sl_open ht (by rw [hcs]; omega) hf
  simp only [Value.cells, List.cons.injEq, Value.slice.injEq, and_true] at hcs'
  obtain ⟨rfl, rfl, rfl⟩ := hcs'
  have hws : ∀ (i : Nat) (y : DataW H), ds[i]? = some y → (y.weights P s).all (· ≤ reachBytes) = true := fun i y hy => by
    rcases hd with ⟨h0, _⟩ | ⟨sp, hd⟩
    · have := (List.getElem?_eq_some_iff.1 hy).1
      omega
    · simp only at hd
      subst hd
      exact weightsAll_get (weights_sl_el ht hw) i y hy
  obtain ⟨rows, hl, hr⟩ := list_choose (p := fun (c : List Value) (zs : List Int) => ∃ hdr, c = [hdr] ∧ HdI W hdr zs ∧ (∀ z ∈ zs, (Lit.int .i64 z).wf = true) ∧ zs.length * P.bytesOf e ≤ 140737488351232) es (fun i c hi => by
    obtain ⟨hl, y, hy, hdy⟩ := hel i c hi
    rw [hcs] at hl
    obtain ⟨hdr, rfl⟩ : ∃ a, c = [a] := by
      match c, hl with
      | [a], _ => exact ⟨a, rfl⟩
    obtain ⟨B, k, cap, zs, rfl, hkc, hri, hzl, hzw, hzb⟩ := ints_of hs he hce hy (hws i y.1 hdy)
    exact ⟨zs, _, rfl, ⟨B, cap, by rw [hzl], by rw [hzl]; exact hkc, hri⟩, hzw, by rw [hzl]; exact hzb⟩)
  have hfl : ∀ i (h : i < es.length), ∃ hdr, es[i] = [hdr] := fun i h => by
    obtain ⟨hdr, h1, _⟩ := hr i h (by omega)
    exact ⟨hdr, h1⟩
  have key : ∀ (l : List (List Value)), (∀ i (h : i < l.length), ∃ hdr, l[i] = [hdr]) → l.flatten.length = l.length ∧ ∀ i (h : i < l.length) (h' : i < l.flatten.length), l[i] = [l.flatten[i]] := by
    intro l
    induction l with
    | nil => intro _; exact ⟨rfl, fun i h => by simp at h⟩
    | cons c l ih =>
      intro hc
      obtain ⟨a, ha⟩ := hc 0 (by simp)
      simp only [List.getElem_cons_zero] at ha
      subst ha
      obtain ⟨h1, h2⟩ := ih (fun i h => by have := hc (i + 1) (by simpa using h); simpa using this)
      refine ⟨by simp [h1], fun i h h' => ?_⟩
      cases i with
      | zero => simp
      | succ i => simpa using h2 i (by simpa using h) (by rw [h1]; simpa using h)
  obtain ⟨k1, k2⟩ := key es hfl
  refine ⟨A, n, c, es.flatten, rows, rfl, hlc, ⟨hrd, by rw [k1, hl], fun i hi => ?_⟩, by rw [hl, hes], fun r hrm z hz => ?_, ?_, fun r hrm => ?_⟩
  · obtain ⟨hdr, h1, h2, _⟩ := hr i (by omega) hi
    rw [k2 i (by omega) (by omega)] at h1
    simp only [List.cons.injEq, and_true] at h1
    rw [h1]; exact h2
  · obtain ⟨i, hi, rfl⟩ := List.mem_iff_getElem.1 hrm
    obtain ⟨_, _, _, h3, _⟩ := hr i (by omega) hi
    exact h3 z hz
  · rcases hd with ⟨h0, _⟩ | ⟨sp, hd⟩
    · rw [h0]; simp
    · simp only at hd
      subst hd
      have := weights_sl ht hw
      rwa [hds] at this
  · obtain ⟨i, hi, rfl⟩ := List.mem_iff_getElem.1 hrm
    obtain ⟨_, _, _, _, h4⟩ := hr i (by omega) hi
    exact h4
end
end Go.Proofs.Ytdfjeoifeladfaa
