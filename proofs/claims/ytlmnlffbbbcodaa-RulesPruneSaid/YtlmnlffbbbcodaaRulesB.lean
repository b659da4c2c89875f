/- Walks of package rules: what is wrong with rules, and the first one that fits. -/
import Derived.Test.YtlmnlffbbbcodaaRulesB0
namespace Go.Proofs.Ytlmnlffbbbcodaa.Rules
open Go.RowKit Go.Proofs.Ytlmnlffbbbcodaa.Trie

theorem rule_cells_len (r : Rule) : r.cells.length = 14 := rfl

/-- A rule's cells in a later world. -/
theorem atR {w wr : World} {A : Option Addr} {l : List Rule} (hr : Rd w A (l.flatMap Rule.cells)) (hb : Below w.heap.size w wr) {k : Nat} (hk : k < l.length) :
    ∃ b off, A = some ⟨b, off, none⟩ ∧ b < wr.heap.size ∧ ∀ j u, l[k].cells[j]? = some u → wr.cell? ⟨b, off + k * 14 + j, none⟩ = some u := by
  obtain ⟨b, off, hA, hbl, h0⟩ := hr.flat (n := 14) (fun r _ => rule_cells_len r) (by omega) hk
  exact ⟨b, off, hA, Nat.lt_of_lt_of_le hbl hb.size, fun j u hu => (hb.cell (p := ⟨b, _, none⟩) hbl).trans (h0 j u hu)⟩

theorem find_take {p : Rule → Bool} {l : List Rule} {k : Nat} (hk : k < l.length) (h : ∀ j, (hj : j < k) → p (l[j]'(by omega)) = false) :
    (p l[k] = true → l.findIdx? p = some k) := by
  intro hp
  rw [List.findIdx?_eq_some_iff_getElem]
  exact ⟨hk, hp, fun j hj => by simpa using h j hj⟩

theorem find_none {p : Rule → Bool} {l : List Rule} (h : ∀ j, (hj : j < l.length) → p l[j] = false) : l.findIdx? p = none := by
  rw [List.findIdx?_eq_none_iff]
  intro x hx
  obtain ⟨j, hj, rfl⟩ := List.mem_iff_getElem.1 hx
  exact h j hj

def idxOf (o : Option Nat) : Int := match o with | some k => k | none => -1

set_option maxRecDepth 100000 in
set_option maxHeartbeats 1000000 in
/-- slices.IndexFunc over rules, by what its function answers. -/
theorem index_any (A : Option Addr) (n c : Nat) (l : List Rule) (f : FuncId) (cap : Array Value) (p : Rule → Bool) (w : World) (hr : Rd w A (l.flatMap Rule.cells)) (hn : l.length = n) (hm : n ≤ 140737488355328)
    (hcf : ∀ args W, (callFunc f args).run Try.prog W = .ok (.enter f args) W)
    (HF : Hid (∀ W, Below w.heap.size w W → ∀ r ∈ l, Calls Try.prog f (#[.agg r.cells.toArray] ++ cap) W fun e w' => e = .returned (.bool (p r)) ∧ Below W.heap.size W w')) :
    Calls Try.prog 109 #[.slice A n c, .func (.func f) #[] cap] w fun e w' => e = .returned (.int .i64 (idxOf (l.findIdx? p))) ∧ Below w.heap.size w w' := by
  have Hn := Lib.hid hn; clear hn
  go_enter Try.func109, Try.ntmps109
  go_wp2_with fail
  go_loopw [8] (fun i wr => ∃ k : Nat, k ≤ n ∧ i = .int .i64 k ∧ Below w.heap.size w wr ∧ (∀ j, j < k → ∀ hj : j < l.length, p l[j] = false)) (fun i _ => n - (intOf i).toNat)
  case atStart => exact ⟨0, by omega, rfl, (by repeat (first | exact Below.refl _ _ | assumption | refine Below.drew ?_ | refine below_drewN ?_ _ | refine Below.alloc ?_ (by first | omega | exact Below.size (by assumption) | (simp; done) | (simp; omega)) _ | refine Below.setCell ?_ (by first | omega | exact Below.size (by assumption) | (simp; done) | (simp; omega)) _ | refine Below.trans ?_ (Below.mono (by assumption) (by first | omega | exact Below.size (by assumption) | (simp; done) | (simp; omega))))), fun j hj => by omega⟩
  case round =>
    obtain ⟨k, hk, rfl, hbw, hno⟩ := hrel
    have Hno := Lib.hid hno; clear hno
    have hsz := hbw.size
    by_cases hlt : k < n
    · have hl : k < l.length := by have := Hn.out; omega
      obtain ⟨b, off, rfl, hbl, hc⟩ := atR hr hbw hl
      obtain ⟨r, Hr⟩ : ∃ r, Hid (l[k] = r) := ⟨_, Lib.hid rfl⟩
      have Hcall : Hid (Calls Try.prog f (#[.agg r.cells.toArray] ++ cap) wr fun e w' => e = .returned (.bool (p r)) ∧ Below wr.heap.size wr w') := Lib.hid (HF.out wr hbw r (by rw [← Hr.out]; exact List.getElem_mem hl))
      rw [Hr.out] at hc
      obtain ⟨pr, Hpr⟩ : ∃ b, Hid (p r = b) := ⟨_, Lib.hid rfl⟩
      rw [Hpr.out] at Hcall
      have Hpk : Hid (p l[k] = pr) := Lib.hid (by rw [Hr.out, Hpr.out])
      obtain ⟨sa, sb, sc, sd, da, db, dc, dd, sbits, dbits, proto, low, high, cls⟩ := r
      simp only [Rule.cells] at Hcall
      have h0 := hc 0 _ rfl
      have h1 := hc 1 _ rfl
      have h2 := hc 2 _ rfl
      have h3 := hc 3 _ rfl
      have h4 := hc 4 _ rfl
      have h5 := hc 5 _ rfl
      have h6 := hc 6 _ rfl
      have h7 := hc 7 _ rfl
      have h8 := hc 8 _ rfl
      have h9 := hc 9 _ rfl
      have h10 := hc 10 _ rfl
      have h11 := hc 11 _ rfl
      have h12 := hc 12 _ rfl
      have h13 := hc 13 _ rfl
      clear hc
      simp only [Nat.add_zero] at h0
      go_wp2_with fail
      refine Hcall.out.mono ?_
      rintro e w1 ⟨rfl, hb1⟩
      cases pr
      · go_wp2_with fail
        go_roundw
        case rel => exact ⟨k + 1, by omega, by go_num, (by repeat (first | exact Below.refl _ _ | assumption | refine Below.drew ?_ | refine below_drewN ?_ _ | refine Below.alloc ?_ (by first | omega | exact Below.size (by assumption) | (simp; done) | (simp; omega)) _ | refine Below.setCell ?_ (by first | omega | exact Below.size (by assumption) | (simp; done) | (simp; omega)) _ | refine Below.trans ?_ (Below.mono (by assumption) (by first | omega | exact Below.size (by assumption) | (simp; done) | (simp; omega))))), fun j hj hjl => by
          rcases Nat.lt_or_ge j k with h | h
          · exact Hno.out j h hjl
          · obtain rfl : j = k := by omega
            exact Hpk.out⟩
        case measure => first | (simp [intOf]; done) | (simp [intOf]; omega)
      · go_wp2_with fail
        go_ret
        exact ⟨ret_int (by rw [find_take hl (fun j hj => Hno.out j hj (by omega)) Hpk.out]; rfl), (by repeat (first | exact Below.refl _ _ | assumption | refine Below.drew ?_ | refine below_drewN ?_ _ | refine Below.alloc ?_ (by first | omega | exact Below.size (by assumption) | (simp; done) | (simp; omega)) _ | refine Below.setCell ?_ (by first | omega | exact Below.size (by assumption) | (simp; done) | (simp; omega)) _ | refine Below.trans ?_ (Below.mono (by assumption) (by first | omega | exact Below.size (by assumption) | (simp; done) | (simp; omega)))))⟩
    · go_wp2_with fail
      go_ret
      exact ⟨ret_int (by rw [find_none (fun j hj => Hno.out j (by have := Hn.out; omega) hj)]; rfl), (by repeat (first | exact Below.refl _ _ | assumption | refine Below.drew ?_ | refine below_drewN ?_ _ | refine Below.alloc ?_ (by first | omega | exact Below.size (by assumption) | (simp; done) | (simp; omega)) _ | refine Below.setCell ?_ (by first | omega | exact Below.size (by assumption) | (simp; done) | (simp; omega)) _ | refine Below.trans ?_ (Below.mono (by assumption) (by first | omega | exact Below.size (by assumption) | (simp; done) | (simp; omega)))))⟩

set_option maxHeartbeats 1000000 in
/-- slices.ContainsFunc over rules. -/
theorem contains_any (A : Option Addr) (n c : Nat) (l : List Rule) (f : FuncId) (cap : Array Value) (p : Rule → Bool) (w : World) (hr : Rd w A (l.flatMap Rule.cells)) (hn : l.length = n) (hm : n ≤ 140737488355328)
    (hcf : ∀ args W, (callFunc f args).run Try.prog W = .ok (.enter f args) W)
    (HF : Hid (∀ W, Below w.heap.size w W → ∀ r ∈ l, Calls Try.prog f (#[.agg r.cells.toArray] ++ cap) W fun e w' => e = .returned (.bool (p r)) ∧ Below W.heap.size W w')) :
    Calls Try.prog 76 #[.slice A n c, .func (.func f) #[] cap] w fun e w' => e = .returned (.bool (l.any p)) ∧ Below w.heap.size w w' := by
  have H := Lib.hid (index_any A n c l f cap p w hr hn hm hcf HF)
  have Ha : Hid (l.any p = decide (0 ≤ idxOf (l.findIdx? p))) := Lib.hid (by
    cases h : l.findIdx? p with
    | none =>
      rw [List.findIdx?_eq_none_iff] at h
      simp only [idxOf]
      rw [List.any_eq_false.2 (fun x hx => by simp [h x hx])]
      rfl
    | some k =>
      rw [List.findIdx?_eq_some_iff_getElem] at h
      obtain ⟨hk, hp, _⟩ := h
      rw [List.any_eq_true.2 ⟨_, List.getElem_mem hk, hp⟩]
      simp [idxOf])
  clear hr hn hm hcf HF
  rw [Ha.out]
  generalize idxOf (l.findIdx? p) = x at H ⊢
  clear Ha
  go_enter Try.func76, Try.ntmps76
  go_wp2_with fail
  refine H.out.mono ?_
  rintro e w1 ⟨rfl, hb1⟩
  go_wp2_with fail
  go_ret
  exact ⟨rfl, hb1⟩
end Go.Proofs.Ytlmnlffbbbcodaa.Rules
