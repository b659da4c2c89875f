/- Counts of who comes, plain: what may be, where one stands, what an addition makes of them. -/
import Derived.Test.YtpknjfeiiaopgaaFlO
import Derived.Test.YtpknjfeiiaopgaaEU
namespace Go.Proofs.Ytpknjfeiiaopgaa.Heavy
open Go.RowKit Go.Proofs.Ytpknjfeiiaopgaa.E

def k1 (l : List (Int × Int)) (k : Nat) : Int := (l.getD k (0, 0)).1
def k2 (l : List (Int × Int)) (k : Nat) : Int := (l.getD k (0, 0)).2
theorem getK {l : List (Int × Int)} {j : Nat} (h : j < l.length) : ∀ i u, [(.int .i64 (k1 l j)), (.int .i64 (k2 l j))][i]? = some u → (l.flatMap c2)[j * 2 + i]? = some u := by
  unfold k1 k2
  rw [getD_lt h]
  exact getF (c := c2) (fun _ => rfl) h
theorem getK1 {l : List (Int × Int)} {j : Nat} (h : j < l.length) : (l.flatMap c2)[j * 2 + 0]? = some (.int .i64 (k1 l j)) := getK h 0 _ rfl
theorem getK2 {l : List (Int × Int)} {j : Nat} (h : j < l.length) : (l.flatMap c2)[j * 2 + 1]? = some (.int .i64 (k2 l j)) := getK h 1 _ rfl
theorem lenK {l : List (Int × Int)} {n : Nat} (h : l.length = n) : (l.flatMap c2).length = n * 2 := lenF (fun _ => rfl) h
theorem k_eq {l : List (Int × Int)} {j : Nat} (h : j < l.length) : (k1 l j, k2 l j) = l[j] := by
  unfold k1 k2
  rw [getD_lt h]
def okAt (l : List (Int × Int)) (i : Nat) : Prop := 1 ≤ k2 l i ∧ k2 l i ≤ 1099511627776 ∧ (i = 0 ∨ k1 l (i - 1) < k1 l i)
def okTo (l : List (Int × Int)) (i : Nat) : Prop := ∀ j, j < i → okAt l j
theorem okTo_zero {l : List (Int × Int)} : okTo l 0 := fun j h => by omega
theorem okTo_succ {l : List (Int × Int)} {i : Nat} : okTo l (i + 1) ↔ okTo l i ∧ okAt l i := by
  constructor
  · exact fun h => ⟨fun j hj => h j (by omega), h i (by omega)⟩
  · rintro ⟨h1, h2⟩ j hj
    by_cases e : j = i
    · subst e; exact h2
    · exact h1 j (by omega)
def Rt (k : Int) (l : List (Int × Int)) : Prop := (1 ≤ k ∧ k ≤ 400 ∧ (l.length : Int) ≤ k) ∧ okTo l l.length
theorem rt_not {k : Int} {l : List (Int × Int)} {i : Nat} (hi : i < l.length) (h : ¬ okAt l i) : ¬ Rt k l := fun h0 => h (h0.2 i hi)
open Classical in
noncomputable def rB (k : Int) (l : List (Int × Int)) : Bool := decide (Rt k l)
theorem rB_t {k : Int} {l : List (Int × Int)} (h : Rt k l) : rB k l = true := by unfold rB; simp [h]
theorem rB_f {k : Int} {l : List (Int × Int)} (h : ¬ Rt k l) : rB k l = false := by unfold rB; simp [h]
theorem rB_iff {k : Int} {l : List (Int × Int)} : rB k l = true ↔ Rt k l := by
  by_cases h : Rt k l
  · simp [rB_t h, h]
  · simp [rB_f h, h]
/-- The numbers rise. -/
def Up (l : List (Int × Int)) : Prop := ∀ i j, i < j → j < l.length → k1 l i < k1 l j
theorem Rt.up {k : Int} {l : List (Int × Int)} (h : Rt k l) : Up l := fun i j => by
  induction j with
  | zero => intro h; omega
  | succ j ih =>
    intro hij hj
    have h1 := (h.2 (j + 1) hj).2.2
    rw [Nat.add_sub_cancel] at h1
    by_cases e : i = j
    · subst e; omega
    · have := ih (by omega) (by omega); omega
/-- The first place whose number is not below. -/
structure LB (l : List (Int × Int)) (x : Int) (p : Nat) : Prop where
  le : p ≤ l.length
  lo : ∀ q, q < p → k1 l q < x
  hi : ∀ q, p ≤ q → q < l.length → x ≤ k1 l q
theorem LB.uniq {l : List (Int × Int)} {x : Int} {p q : Nat} (h : LB l x p) (h' : LB l x q) : p = q := by
  have key : ∀ {p q}, LB l x p → LB l x q → ¬ p < q := fun {p q} h h' hl => by
    have h1 := h'.lo p hl
    have h2 := h.hi p (Nat.le_refl _) (by have := h'.le; omega)
    omega
  have := key h h'
  have := key h' h
  omega
def lessF (l : List (Int × Int)) (n : Int) : List (Int × Int) := (l.filter fun c => decide (n < c.2)).map fun c => (c.1, c.2 - n)
inductive AddR (k : Int) (l : List (Int × Int)) (x : Int) : List (Int × Int) → Int → Prop
  | form (h : ¬ Rt k l) : AddR k l x [] 1
  | full (p : Nat) (h : Rt k l) (hp : LB l x p) (hl : p < l.length) (hx : k1 l p = x) (hn : k2 l p = 1099511627776) : AddR k l x [] 4
  | inc (p : Nat) (h : Rt k l) (hp : LB l x p) (hl : p < l.length) (hx : k1 l p = x) (hn : k2 l p ≠ 1099511627776) : AddR k l x (l.set p (x, k2 l p + 1)) 0
  | new (p : Nat) (h : Rt k l) (hp : LB l x p) (hx : p = l.length ∨ k1 l p ≠ x) (hn : (l.length : Int) < k) : AddR k l x (l.take p ++ (x, 1) :: l.drop p) 0
  | less (p : Nat) (h : Rt k l) (hp : LB l x p) (hx : p = l.length ∨ k1 l p ≠ x) (hn : ¬ (l.length : Int) < k) : AddR k l x (lessF l 1) 0
theorem AddR.uniq {k x : Int} {l a b : List (Int × Int)} {e f : Int} (h : AddR k l x a e) (h' : AddR k l x b f) : a = b ∧ e = f := by
  cases h with
  | form h =>
    cases h' with
    | form => exact ⟨rfl, rfl⟩
    | full p g => exact absurd g h
    | inc p g => exact absurd g h
    | new p g => exact absurd g h
    | less p g => exact absurd g h
  | full p h hp hl hx hn =>
    cases h' with
    | form g => exact absurd h g
    | full => exact ⟨rfl, rfl⟩
    | inc q g gp gl gx gn => obtain rfl := hp.uniq gp; exact absurd hn gn
    | new q g gp gx gn => obtain rfl := hp.uniq gp; omega
    | less q g gp gx gn => obtain rfl := hp.uniq gp; omega
  | inc p h hp hl hx hn =>
    cases h' with
    | form g => exact absurd h g
    | full q g gp gl gx gn => obtain rfl := hp.uniq gp; exact absurd gn hn
    | inc q g gp gl gx gn => obtain rfl := hp.uniq gp; exact ⟨rfl, rfl⟩
    | new q g gp gx gn => obtain rfl := hp.uniq gp; omega
    | less q g gp gx gn => obtain rfl := hp.uniq gp; omega
  | new p h hp hx hn =>
    cases h' with
    | form g => exact absurd h g
    | full q g gp gl gx gn => obtain rfl := hp.uniq gp; omega
    | inc q g gp gl gx gn => obtain rfl := hp.uniq gp; omega
    | new q g gp gx gn => obtain rfl := hp.uniq gp; exact ⟨rfl, rfl⟩
    | less q g gp gx gn => exact absurd hn gn
  | less p h hp hx hn =>
    cases h' with
    | form g => exact absurd h g
    | full q g gp gl gx gn => obtain rfl := hp.uniq gp; omega
    | inc q g gp gl gx gn => obtain rfl := hp.uniq gp; omega
    | new q g gp gx gn => exact absurd gn hn
    | less q g gp gx gn => exact ⟨rfl, rfl⟩
/-- Lists that rise and hold the same are the same. -/
theorem up_tail {a : Int × Int} {l : List (Int × Int)} (h : Up (a :: l)) : Up l ∧ ∀ c ∈ l, a.1 < c.1 := by
  refine ⟨fun i j hij hj => ?_, fun c hc => ?_⟩
  · have := h (i + 1) (j + 1) (by omega) (by simpa using hj)
    simpa [k1] using this
  · obtain ⟨j, hj, he⟩ := List.getElem_of_mem hc
    have := h 0 (j + 1) (by omega) (by simpa using hj)
    simp [k1, hj, he] at this
    exact this
theorem up_ext : ∀ {a b : List (Int × Int)}, Up a → Up b → (∀ c, c ∈ a ↔ c ∈ b) → a = b
  | [], [], _, _, _ => rfl
  | [], y :: b, _, _, h => absurd ((h y).2 (by simp)) (by simp)
  | x :: a, [], _, _, h => absurd ((h x).1 (by simp)) (by simp)
  | x :: a, y :: b, ha, hb, h => by
    obtain ⟨ha1, ha2⟩ := up_tail ha
    obtain ⟨hb1, hb2⟩ := up_tail hb
    have hxy : x = y := by
      rcases List.mem_cons.1 ((h x).1 (by simp)) with e | e
      · exact e
      · rcases List.mem_cons.1 ((h y).2 (by simp)) with f | f
        · exact f.symm
        · have := hb2 x e; have := ha2 y f; omega
    subst hxy
    rw [up_ext ha1 hb1 fun c => ?_]
    constructor
    · intro hc
      rcases List.mem_cons.1 ((h c).1 (List.mem_cons_of_mem _ hc)) with e | e
      · subst e; have := ha2 c hc; omega
      · exact e
    · intro hc
      rcases List.mem_cons.1 ((h c).2 (List.mem_cons_of_mem _ hc)) with e | e
      · subst e; have := hb2 c hc; omega
      · exact e
theorem lessF_append {l r : List (Int × Int)} {n : Int} : lessF (l ++ r) n = lessF l n ++ lessF r n := by simp [lessF]
theorem lessF_len {l : List (Int × Int)} {n : Int} : (lessF l n).length ≤ l.length := by
  unfold lessF
  rw [List.length_map]
  exact List.length_filter_le ..
theorem take_succ_k {l : List (Int × Int)} {i : Nat} (h : i < l.length) : l.take (i + 1) = l.take i ++ [(k1 l i, k2 l i)] := by
  rw [List.take_succ_eq_append_getElem h, k_eq h]
end Go.Proofs.Ytpknjfeiiaopgaa.Heavy
