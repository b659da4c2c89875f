/- The tree of hier as a list of nodes; what is wrong with it, its leaves; the nodes while they are made. -/
import Derived.Test.YtfcpmcdlgkfolaaDoorZhHrF
namespace Go.Proofs.YtfcpmcdlgkfolaaDoor.Hier
open Go.RowKit Go.Proofs.YtfcpmcdlgkfolaaDoor.E Go.Proofs.YtfcpmcdlgkfolaaDoor.Wfq

def n1 (l : List (Int × Int)) (k : Nat) : Int := (l.getD k (-1, 0)).1
def n2 (l : List (Int × Int)) (k : Nat) : Int := (l.getD k (-1, 0)).2
def trOf (l : List (Int × Int)) : Tr := ⟨l.map Prod.fst, l.map Prod.snd⟩
theorem trOf_u {l : List (Int × Int)} {k : Nat} : (trOf l).u k = n1 l k := getD_map (d := ((-1, 0) : Int × Int)) Prod.fst rfl
theorem trOf_w {l : List (Int × Int)} {k : Nat} : (trOf l).w k = n2 l k := getD_map (d := ((-1, 0) : Int × Int)) Prod.snd rfl
theorem trOf_n {l : List (Int × Int)} : (trOf l).n = l.length := List.length_map ..
theorem getN {l : List (Int × Int)} {j : Nat} (h : j < l.length) : ∀ i u, [(.int .i64 (n1 l j)), (.int .i64 (n2 l j))][i]? = some u → (l.flatMap c2)[j * 2 + i]? = some u := by
  unfold n1 n2
  rw [getD_lt h]
  exact getF (c := c2) (fun _ => rfl) h
theorem getN1 {l : List (Int × Int)} {j : Nat} (h : j < l.length) : (l.flatMap c2)[j * 2 + 0]? = some (.int .i64 (n1 l j)) := getN h 0 _ rfl
theorem getN2 {l : List (Int × Int)} {j : Nat} (h : j < l.length) : (l.flatMap c2)[j * 2 + 1]? = some (.int .i64 (n2 l j)) := getN h 1 _ rfl
theorem lenN {l : List (Int × Int)} {n : Nat} (h : l.length = n) : (l.flatMap c2).length = n * 2 := lenF (fun _ => rfl) h
/-- What is wrong with node k. -/
def bad1 (l : List (Int × Int)) (k : Nat) : Int :=
  if n2 l k < 1 ∨ 12 < n2 l k then 2 else if (k = 0 ∧ n1 l k ≠ -1) ∨ (0 < k ∧ (n1 l k < 0 ∨ (k : Int) ≤ n1 l k)) then 1 else 0
def firstBad (l : List (Int × Int)) : Nat → Int
  | 0 => 0
  | k + 1 => if firstBad l k = 0 then bad1 l k else firstBad l k
def wrongT (l : List (Int × Int)) : Int := if l.length < 1 ∨ 16 < l.length then 2 else firstBad l l.length
theorem first_mono {l : List (Int × Int)} {j : Nat} (h : ¬ firstBad l j = 0) : ∀ i, firstBad l (j + i) = firstBad l j
  | 0 => rfl
  | i + 1 => by
    have e := first_mono h i
    rw [← Nat.add_assoc, firstBad, e, if_neg h]
theorem wrongT_len {l : List (Int × Int)} (h : l.length < 1 ∨ 16 < l.length) : wrongT l = 2 := if_pos h
theorem wrongT_at {l : List (Int × Int)} {k : Nat} {v : Int} (h : 1 ≤ l.length ∧ l.length ≤ 16) (hk : k < l.length) (h0 : firstBad l k = 0) (hb : bad1 l k = v) (hv : v ≠ 0) : wrongT l = v := by
  unfold wrongT
  rw [if_neg (by omega)]
  have e : firstBad l (k + 1) = v := by rw [firstBad, if_pos h0, hb]
  have := first_mono (l := l) (j := k + 1) (by rw [e]; exact hv) (l.length - (k + 1))
  rw [show k + 1 + (l.length - (k + 1)) = l.length by omega] at this
  rw [this, e]
theorem wrongT_ok {l : List (Int × Int)} (h : 1 ≤ l.length ∧ l.length ≤ 16) (h0 : firstBad l l.length = 0) : wrongT l = 0 := by
  unfold wrongT
  rw [if_neg (by omega), h0]
theorem first_ok {l : List (Int × Int)} : ∀ {k : Nat}, firstBad l k = 0 → ∀ j, j < k → bad1 l j = 0
  | 0, _, j, hj => by omega
  | k + 1, h, j, hj => by
    rw [firstBad] at h
    split at h
    · rename_i h1
      by_cases e : j = k
      · subst e; exact h
      · exact first_ok h1 j (by omega)
    · rename_i h1; exact absurd h h1
theorem bad_ok {l : List (Int × Int)} {k : Nat} : bad1 l k = 0 ↔ (1 ≤ n2 l k ∧ n2 l k ≤ 12) ∧ ((k = 0 ∧ n1 l k = -1) ∨ (0 < k ∧ 0 ≤ n1 l k ∧ n1 l k < k)) := by
  unfold bad1
  constructor
  · intro h
    split at h
    · omega
    · split at h <;> omega
  · intro h
    rw [if_neg (by omega), if_neg (by omega)]
theorem good_of {l : List (Int × Int)} (h : wrongT l = 0) : (trOf l).Good := by
  unfold wrongT at h
  split at h
  · omega
  · rename_i h1
    have hk := fun j hj => bad_ok.1 (first_ok h j hj)
    refine ⟨by rw [trOf_n]; omega, by rw [trOf_n]; omega, ?_, fun k k0 kn => ?_, fun k kn => ?_⟩
    · have := hk 0 (by omega); rw [trOf_u]; omega
    · rw [trOf_n] at kn; have := hk k kn; rw [trOf_u]; omega
    · rw [trOf_n] at kn; have := hk k kn; rw [trOf_w]; omega
/-- The leaves of the first k. -/
def leavesTo (t : Tr) (k : Nat) : List Nat := (List.range k).filter fun j => decide (t.kids j = [])
theorem leaves_step {t : Tr} {k : Nat} : leavesTo t (k + 1) = leavesTo t k ++ bif decide (t.kids k = []) then [k] else [] := by
  unfold leavesTo
  rw [List.range_succ, List.filter_append]
  cases h : decide (t.kids k = []) <;> simp [h]
theorem leaves_len {t : Tr} {k : Nat} : (leavesTo t k).length ≤ k := by
  have := List.length_filter_le (fun j => decide (t.kids j = [])) (List.range k)
  simpa [leavesTo] using this
theorem mem_leaves {t : Tr} {k j : Nat} : j ∈ leavesTo t k ↔ j < k ∧ t.kids j = [] := by
  unfold leavesTo
  simp
theorem leaf_mem {t : Tr} {x : Int} : x ∈ kI (leavesTo t t.n) ↔ t.leaf x := by
  unfold kI Tr.leaf
  rw [List.mem_map]
  constructor
  · rintro ⟨j, hj, rfl⟩
    have := mem_leaves.1 hj
    exact ⟨by omega, by omega, by rw [Int.toNat_natCast]; exact this.2⟩
  · rintro ⟨h1, h2, h3⟩
    exact ⟨x.toNat, mem_leaves.2 ⟨by omega, h3⟩, by omega⟩
/-- No node below k. -/
theorem kids_nil {l : List (Int × Int)} {k : Nat} : (trOf l).kids k = [] ↔ ∀ j, j < l.length → n1 l j ≠ k := by
  constructor
  · intro h j hj e
    have : j ∈ (trOf l).kids k := mem_kids.2 ⟨by rw [trOf_n]; exact hj, by rw [trOf_u]; exact e⟩
    rw [h] at this
    cases this
  · intro h
    apply Classical.byContradiction
    intro hc
    obtain ⟨j, hj⟩ := List.exists_mem_of_ne_nil _ hc
    have := mem_kids.1 hj
    rw [trOf_n, trOf_u] at this
    exact h j this.1 this.2
theorem kidsTo_step {t : Tr} {m k : Nat} : t.kidsTo (m + 1) k = t.kidsTo m k ++ bif decide (t.u m = k) then [m] else [] := by
  unfold Tr.kidsTo
  rw [List.range_succ, List.filter_append]
  cases h : decide (t.u m = k) <;> simp [h]
theorem kidsTo_nil {t : Tr} (g : t.Good) {m k : Nat} (h : m ≤ k) (hk : m ≤ t.n) : t.kidsTo m k = [] := by
  unfold Tr.kidsTo
  rw [List.filter_eq_nil_iff]
  intro j hj
  have := List.mem_range.1 hj
  have := (g.lt (k := j) (by omega)).1
  simp
  omega
theorem sumTo_nil {t : Tr} (g : t.Good) {k : Nat} : ∀ {m : Nat}, m ≤ k → m ≤ t.n → t.sumTo m k = 0
  | 0, _, _ => rfl
  | m + 1, h, hm => by
    have := (g.lt (k := m) (by omega)).1
    rw [Tr.sumTo, sumTo_nil g (by omega) (by omega), decide_eq_false (by omega)]
    rfl
theorem kidsTo_len {t : Tr} {m k : Nat} : (t.kidsTo m k).length ≤ m := by
  have := List.length_filter_le (fun j => decide (t.u j = k)) (List.range m)
  simpa [Tr.kidsTo] using this
/-- A node while the nodes are made. -/
structure StB (t : Tr) (k j : Nat) (f : Nd) : Prop where
  up : f.up = t.u j
  w : f.w = t.w j
  ks : f.ks = kI (t.kidsTo k j)
  sum : f.sum = t.sumTo k j
  d : f.d = D.nil
  wV : f.wV = Vs.nil
def Bld (t : Tr) (k : Nat) (l : List Nd) : Prop := l.length = k ∧ ∀ j, j < k → StB t k j (l.getD j Nd.nil)
def newNd (t : Tr) (k : Nat) : Nd := ⟨t.u k, t.w k, none, 0, [], 0, none, 0, D.nil⟩
theorem bld_zero {t : Tr} : Bld t 0 [] := ⟨rfl, fun j h => by omega⟩
theorem getD_app {l : List Nd} {k j : Nat} {x : Nd} (h : l.length = k) : (l ++ [x]).getD j Nd.nil = if j = k then x else l.getD j Nd.nil := by
  subst h
  simp only [List.getD_eq_getElem?_getD, List.getElem?_append]
  split
  · rw [if_neg (by omega)]
  · split
    · rename_i e; simp [e]
    · rw [List.getElem?_eq_none (by simp; omega), List.getElem?_eq_none (by omega)]
theorem Bld.app {t : Tr} (g : t.Good) {k : Nat} {l : List Nd} (h : Bld t k l) (hk : k < t.n) (hu : t.u k < 0) : Bld t (k + 1) (l ++ [newNd t k]) := by
  refine ⟨by simp [h.1], fun j hj => ?_⟩
  rw [getD_app h.1]
  split
  · rename_i e
    subst e
    exact ⟨rfl, rfl, by rw [kidsTo_step, kidsTo_nil g (by omega) (by omega), decide_eq_false (by omega)]; rfl, by rw [Tr.sumTo, sumTo_nil g (by omega) (by omega), decide_eq_false (by omega)]; rfl, rfl, rfl⟩
  · obtain ⟨a, b, c, d, e, f⟩ := h.2 j (by omega)
    exact ⟨a, b, by rw [c, kidsTo_step, decide_eq_false (by omega)]; simp, by rw [d, Tr.sumTo, decide_eq_false (by omega)]; simp, e, f⟩
theorem Bld.set {t : Tr} (g : t.Good) {k p : Nat} {l l1 : List Nd} {x : Nd} (h : Bld t k l) (hk : k < t.n) (hu : t.u k = p) (hl : (l ++ [newNd t k]).set p x = l1) (h1 : x.up = ((l ++ [newNd t k]).getD p Nd.nil).up) (h2 : x.w = ((l ++ [newNd t k]).getD p Nd.nil).w) (h3 : x.ks = ((l ++ [newNd t k]).getD p Nd.nil).ks ++ [(k : Int)])
    (h4 : x.sum = ((l ++ [newNd t k]).getD p Nd.nil).sum + t.w k) (h5 : x.d = ((l ++ [newNd t k]).getD p Nd.nil).d) (h6 : x.wV = ((l ++ [newNd t k]).getD p Nd.nil).wV) : Bld t (k + 1) l1 := by
  subst hl
  have hpk := (g.lt hk).1
  refine ⟨by simp [h.1], fun j hj => ?_⟩
  have hp : (l ++ [newNd t k]).getD p Nd.nil = l.getD p Nd.nil := by rw [getD_app h.1, if_neg (by omega)]
  rw [hp] at h1 h2 h3 h4 h5 h6
  rw [getD_set (by simp [h.1]; omega)]
  split
  · rename_i e
    subst e
    obtain ⟨a, b, c, d, e, f⟩ := h.2 j (by omega)
    exact ⟨by rw [h1, a], by rw [h2, b], by rw [h3, c, kidsTo_step, decide_eq_true hu]; simp [kI], by rw [h4, d, Tr.sumTo, decide_eq_true hu]; rfl, by rw [h5, e], by rw [h6, f]⟩
  · rw [getD_app h.1]
    split
    · rename_i e
      subst e
      exact ⟨rfl, rfl, by rw [kidsTo_step, kidsTo_nil g (by omega) (by omega), decide_eq_false (by omega)]; rfl, by rw [Tr.sumTo, sumTo_nil g (by omega) (by omega), decide_eq_false (by omega)]; rfl, rfl, rfl⟩
    · obtain ⟨a, b, c, d, e, f⟩ := h.2 j (by omega)
      exact ⟨a, b, by rw [c, kidsTo_step, decide_eq_false (by omega)]; simp, by rw [d, Tr.sumTo, decide_eq_false (by omega)]; simp, e, f⟩
theorem Bld.stat {t : Tr} {l : List Nd} (h : Bld t t.n l) : Stat t l := fun k hk => by
  obtain ⟨a, b, c, d, _, _⟩ := h.2 k hk
  exact ⟨a, b, c, d⟩
theorem Bld.d {t : Tr} {k : Nat} {l : List Nd} (h : Bld t k l) : l.map Nd.d = List.replicate k D.nil := by
  rw [List.eq_replicate_iff]
  refine ⟨by simp [h.1], fun v hv => ?_⟩
  obtain ⟨f, hf, rfl⟩ := List.mem_map.1 hv
  obtain ⟨j, hj, rfl⟩ := List.getElem_of_mem hf
  have := (h.2 j (by rw [← h.1]; exact hj)).d
  rwa [getD_lt hj] at this
theorem Bld.wV {t : Tr} {k : Nat} {l : List Nd} (h : Bld t k l) : l.map Nd.wV = List.replicate k Vs.nil := by
  rw [List.eq_replicate_iff]
  refine ⟨by simp [h.1], fun v hv => ?_⟩
  obtain ⟨f, hf, rfl⟩ := List.mem_map.1 hv
  obtain ⟨j, hj, rfl⟩ := List.getElem_of_mem hf
  have := (h.2 j (by rw [← h.1]; exact hj)).wV
  rwa [getD_lt hj] at this
/-- The lists of those below, padded to n. -/
def padK (n : Nat) (l : List Nd) : List Vs := l.map Nd.kV ++ List.replicate (n - l.length) Vs.nil
theorem pad_zero {n : Nat} : padK n [] = List.replicate n Vs.nil := by simp [padK]
theorem pad_app {n k : Nat} {l : List Nd} {x : Nd} (hx : x.kV = Vs.nil) (hl : l.length = k) (h : k < n) : padK n (l ++ [x]) = padK n l := by
  unfold padK
  rw [List.map_append, List.length_append, List.length_singleton, show n - l.length = (n - (l.length + 1)) + 1 by omega, List.replicate_succ, List.map_singleton, hx]
  simp
theorem pad_at {n k : Nat} {l : List Nd} (h : k < l.length) : (padK n l)[k]? = some (Nd.kV (l.getD k Nd.nil)) := by
  unfold padK
  rw [List.getElem?_append_left (by simpa using h)]
  exact map_at (d := Nd.nil) Nd.kV h
theorem pad_nil_at {n k : Nat} {l : List Nd} (h : k < l.length) : ((padK n l).set k Vs.nil)[k]? = some Vs.nil := by
  rw [List.getElem?_set_self (by unfold padK; simp; omega)]
theorem pad_back {n k : Nat} {l : List Nd} {x : Nd} {v : Vs} (h : k < l.length) (hv : x.kV = v) : ((padK n l).set k Vs.nil).set k v = padK n (l.set k x) := by
  unfold padK
  rw [List.set_set, List.set_append, if_pos (by simpa using h), List.map_set, hv, List.length_set]
theorem pad_all {l : List Nd} {n : Nat} (h : l.length = n) : padK n l = l.map Nd.kV := by simp [padK, h]
theorem left_take {s : S} {k : Nat} (h : k < s.ds.length) : (left s).take (k + 1) = (left s).take k ++ [((dn s.ds k).ws.length : Int)] := by
  have hl : k < (left s).length := by simpa [left] using h
  rw [List.take_succ_eq_append_getElem hl]
  congr 2
  simp only [left, List.getElem_map, dn]
  rw [getD_lt h]
theorem offer_over {t : Tr} {s : List D} {r : Nat} {lf b : Int} {ag : Bool} {d : D} (hr : r < s.length) : offer t (s.set r { d with bytes := 0 }) r lf b ag = offer t (s.set r d) r lf b ag := by
  unfold offer offB
  simp only [dn_set hr, if_true, List.set_set]
  by_cases e : (t.u r).toNat = r
  · simp only [e, if_true]
  · simp only [if_neg e]
theorem upOut_stop {t : Tr} {f : Nat} {s : List D} {c : Int} (h : c < 0) : upOut t f s c = s := by
  cases f with
  | zero => rfl
  | succ f => unfold upOut; rw [if_pos h]
theorem upOut_go {t : Tr} {f : Nat} {s : List D} {p : Nat} (hf : (p : Int) < f) : upOut t f s (p : Int) = upOut t (f - 1) (pick t s p true) (t.u p) := by
  obtain ⟨f, rfl⟩ : ∃ i, f = i + 1 := ⟨f - 1, by omega⟩
  rw [upOut, if_neg (by omega), Int.toNat_natCast, Nat.add_sub_cancel]
theorem cut_w {l : List Nd} {k : Nat} : (l.map Nd.wV).set k ((Nd.wV (l.getD k Nd.nil)).tl 1) = (l.set k ⟨(l.getD k Nd.nil).up, (l.getD k Nd.nil).w, (l.getD k Nd.nil).kA, (l.getD k Nd.nil).kc, (l.getD k Nd.nil).ks, (l.getD k Nd.nil).sum, cutA (l.getD k Nd.nil).wA 1 (l.getD k Nd.nil).wc 1, (l.getD k Nd.nil).wc - 1, ⟨(l.getD k Nd.nil).d.leaf, (l.getD k Nd.nil).d.bytes, (l.getD k Nd.nil).d.bg, (l.getD k Nd.nil).d.en, (l.getD k Nd.nil).d.tm, (l.getD k Nd.nil).d.ws.drop 1⟩⟩).map Nd.wV := by
  rw [List.map_set]
  simp [Vs.tl, Nd.wV, cI, List.map_drop]
end Go.Proofs.YtfcpmcdlgkfolaaDoor.Hier
