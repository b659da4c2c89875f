/- The walks of rules.Prune and of GCovers. -/
import Derived.Test.YtlmnlffbbbcodaaRulesC
import Derived.Test.YtlmnlffbbbcodaaRulesP
namespace Go.Proofs.Ytlmnlffbbbcodaa.Rules
open Go.RowKit Go.Proofs.Ytlmnlffbbbcodaa.Trie

/-- rules.Prune$1: does a rule cover the one in the box? -/
theorem cov_any (a r : Rule) (B : Nat) (w : World) (ha : a.bytes) (hr : r.bytes) (hB : ∀ o, w.cell? ⟨B, o, none⟩ = (r.cells.toArray : Array Value)[o]?) (hl : B < w.heap.size) :
    Calls Try.prog 77 #[.agg a.cells.toArray, .pointer (some ⟨B, 0, none⟩)] w fun e w' => e = .returned (.bool (covB a r)) ∧ Below w.heap.size w w' := by
  have H : Hid (∀ W, Calls Try.prog 78 #[.agg a.cells.toArray, .agg r.cells.toArray] W fun e w' => e = .returned (.bool (covB a r)) ∧ Below W.heap.size W w') := Lib.hid (covers_any a r ha hr)
  generalize covB a r = b at H ⊢
  clear ha hr
  obtain ⟨sa, sb, sc, sd, da, db, dc, dd, sbits, dbits, proto, low, high, cls⟩ := a
  obtain ⟨ta, tb, tc, td, ea, eb, ec, ed, tbits, ebits, qroto, qow, qigh, qcls⟩ := r
  simp only [Rule.cells] at H hB ⊢
  go_enter Try.func77, Try.ntmps77
  go_wp2_with fail
  refine (H.out _).mono ?_
  rintro e w1 ⟨rfl, hb1⟩
  go_wp2_with fail
  go_ret
  exact ⟨rfl, (by repeat (first | exact Below.refl _ _ | assumption | refine Below.drew ?_ | refine below_drewN ?_ _ | refine Below.alloc ?_ (by first | omega | exact Below.size (by assumption) | (simp; done) | (simp; omega)) _ | refine Below.setCell ?_ (by first | omega | exact Below.size (by assumption) | (simp; done) | (simp; omega)) _ | refine Below.trans ?_ (Below.mono (by assumption) (by first | omega | exact Below.size (by assumption) | (simp; done) | (simp; omega)))))⟩

def pstep (out : List Rule) (r : Rule) : List Rule := if out.any (fun a => covB a r) then out else out ++ [r]
def prune (l : List Rule) : List Rule := l.foldl pstep []
theorem prune_take {l : List Rule} {k : Nat} (h : k < l.length) : prune (l.take (k + 1)) = pstep (prune (l.take k)) l[k] := by
  rw [prune, List.take_succ_eq_append_getElem h, List.foldl_append]
  rfl
theorem fold_len (l : List Rule) : ∀ o : List Rule, (l.foldl pstep o).length ≤ o.length + l.length := by
  induction l with
  | nil => intro o; simp
  | cons r l ih =>
    intro o
    rw [List.foldl_cons, List.length_cons]
    have := ih (pstep o r)
    have h2 : (pstep o r).length ≤ o.length + 1 := by unfold pstep; split <;> simp
    omega
theorem fold_mem (l : List Rule) : ∀ o : List Rule, ∀ x ∈ l.foldl pstep o, x ∈ o ∨ x ∈ l := by
  induction l with
  | nil => intro o x hx; exact .inl hx
  | cons r l ih =>
    intro o x hx
    rcases ih _ x hx with h | h
    · unfold pstep at h
      split at h
      · exact .inl h
      · rcases List.mem_append.1 h with h | h
        · exact .inl h
        · exact .inr (by simp at h; simp [h])
    · exact .inr (by simp [h])
theorem prune_len (l : List Rule) : (prune l).length ≤ l.length := by simpa [prune] using fold_len l []
theorem prune_mem {l : List Rule} {x : Rule} (h : x ∈ prune l) : x ∈ l := by simpa using fold_mem l [] x h

theorem enter_cov : ∀ args W, (callFunc 77 args).run Try.prog W = .ok (.enter 77 args) W := fun _ _ => by kernel_rfl
theorem infoR : (Try.prog.info? 40).map (fun i => (i.zero, i.size, i.bytes)) = some (some (.agg #[.int .u8 0, .int .u8 0, .int .u8 0, .int .u8 0, .int .u8 0, .int .u8 0, .int .u8 0, .int .u8 0, .int .i64 0, .int .i64 0, .int .i64 0, .int .i64 0, .int .i64 0, .int .i64 0]), 14, 56) := by kernel_rfl

set_option maxRecDepth 100000 in
set_option maxHeartbeats 4000000 in
theorem prune_any (A : Option Addr) (n c : Nat) (l : List Rule) (w : World) (hr : Rd w A (l.flatMap Rule.cells)) (hn : l.length = n) (hm : n ≤ 140737488355328) (hbs : ∀ r ∈ l, r.bytes) (hwb : wrongB l = false) :
    Calls Try.prog 22 #[.slice A n c] w fun e w' => (∃ v, e = .returned (.tuple #[v, .int .i64 0]) ∧ OwnF Rule.cells 14 w' w.heap.size 40 v (prune l)) ∧ Below w.heap.size w w' := by
  have HW : Hid (∀ W, Below w.heap.size w W → Calls Try.prog 75 #[.slice A n c] W fun e w' => e = .returned (.int .i64 0) ∧ Below W.heap.size W w') :=
    Lib.hid fun W hb => by have := wrong_any A n c l W (hr.below hb) hn hm; rwa [wrongR, hwb] at this
  have h400 : n ≤ 400 := by
    have := hwb
    simp only [wrongB, Bool.or_eq_false_iff, decide_eq_false_iff_not] at this
    omega
  clear hwb hm
  have HI : Hid (∀ W B (v : Value) o r, (∀ x ∈ o, x ∈ l) → r ∈ l → o.length ≤ n → OwnF Rule.cells 14 W w.heap.size 40 v o → B < W.heap.size → (∀ q, W.cell? ⟨B, q, none⟩ = (r.cells.toArray : Array Value)[q]?) → Calls Try.prog 76 #[v, .func (.func 77) #[] #[.pointer (some ⟨B, 0, none⟩)]] W fun e w' => e = .returned (.bool (o.any fun a => covB a r)) ∧ Below W.heap.size W w') :=
    Lib.hid fun W B v o r ho hrl hol hv hB hc => by
      obtain ⟨A', c', rfl, _, hrd, _⟩ := hv.form
      exact contains_any A' o.length c' o 77 #[.pointer (some ⟨B, 0, none⟩)] (fun a => covB a r) W hrd rfl (by omega) enter_cov
        (Lib.hid fun W' hb' a hal => cov_any a r B W' (hbs a (ho a hal)) (hbs r hrl) (fun q => (hb'.cell (p := ⟨B, q, none⟩) hB).trans (hc q)) (Nat.lt_of_lt_of_le hB hb'.size))
  have Hn := Lib.hid hn; clear hn hbs
  go_enter Try.func22, Try.ntmps22
  go_wp2_with fail
  refine (HW.out _ (by repeat (first | exact Below.refl _ _ | assumption | refine Below.drew ?_ | refine below_drewN ?_ _ | refine Below.alloc ?_ (by first | omega | exact Below.size (by assumption) | (simp; done) | (simp; omega)) _ | refine Below.setCell ?_ (by first | omega | exact Below.size (by assumption) | (simp; done) | (simp; omega)) _ | refine Below.trans ?_ (Below.mono (by assumption) (by first | omega | exact Below.size (by assumption) | (simp; done) | (simp; omega)))))).mono ?_
  rintro e w1 ⟨rfl, hb1⟩
  go_wp2_with fail
  go_loopw [5, 15] (fun v i W => ∃ k : Nat, k ≤ n ∧ i = .int .i64 k ∧ Below w.heap.size w W ∧ OwnF Rule.cells 14 W w.heap.size 40 v (prune (l.take k))) (fun _ i _ => n - (intOf i).toNat)
  case atStart => exact ⟨0, by omega, rfl, (by repeat (first | exact Below.refl _ _ | assumption | refine Below.drew ?_ | refine below_drewN ?_ _ | refine Below.alloc ?_ (by first | omega | exact Below.size (by assumption) | (simp; done) | (simp; omega)) _ | refine Below.setCell ?_ (by first | omega | exact Below.size (by assumption) | (simp; done) | (simp; omega)) _ | refine Below.trans ?_ (Below.mono (by assumption) (by first | omega | exact Below.size (by assumption) | (simp; done) | (simp; omega))))), OwnF.nil _ _ _⟩
  case round =>
    obtain ⟨k, hk, rfl, hbw, hown⟩ := hrel
    have Hown := Lib.hid hown; clear hown
    have hsz := hbw.size
    by_cases hlt : k < n
    · have hl : k < l.length := by have := Hn.out; omega
      obtain ⟨b, off, rfl, hbl, hc⟩ := atR hr hbw hl
      obtain ⟨r, Hr⟩ : ∃ r, Hid (l[k] = r) := ⟨_, Lib.hid rfl⟩
      rw [Hr.out] at hc
      obtain ⟨o, Ho⟩ : ∃ o, Hid (prune (l.take k) = o) := ⟨_, Lib.hid rfl⟩
      have Hstep : Hid (prune (l.take (k + 1)) = if (o.any fun a => covB a r) then o else o ++ [r]) := Lib.hid (by rw [prune_take hl, Hr.out, Ho.out]; rfl)
      rw [Ho.out] at Hown
      have Hmem : Hid (∀ x ∈ o, x ∈ l) := Lib.hid fun x hx => List.mem_of_mem_take (prune_mem (by rw [Ho.out]; exact hx))
      have hol : o.length ≤ k := by
        have := prune_len (l.take k)
        rw [Ho.out, List.length_take] at this
        omega
      have Hrl : Hid (r ∈ l) := Lib.hid (by rw [← Hr.out]; exact List.getElem_mem hl)
      have HC : Hid (∀ W B (v : Value), OwnF Rule.cells 14 W w.heap.size 40 v o → B < W.heap.size → (∀ q, W.cell? ⟨B, q, none⟩ = (r.cells.toArray : Array Value)[q]?) → Calls Try.prog 76 #[v, .func (.func 77) #[] #[.pointer (some ⟨B, 0, none⟩)]] W fun e w' => e = .returned (.bool (o.any fun a => covB a r)) ∧ Below W.heap.size W w') :=
        Lib.hid fun W B v h1 h2 h3 => HI.out W B v o r Hmem.out Hrl.out (by omega) h1 h2 h3
      generalize (o.any fun a => covB a r) = cv at HC Hstep
      clear Ho Hmem Hrl
      obtain ⟨sa, sb, sc, sd, da, db, dc, dd, sbits, dbits, proto, low, high, cls⟩ := r
      simp only [Rule.cells] at HC
      have h0 := hc 0 _ rfl
      have h1 := hc 1 _ rfl
      have h2 := hc 2 _ rfl
      have h3 := hc 3 _ rfl
      have h4 := hc 4 _ rfl
      have h5 := hc 5 _ rfl
      have h6 := hc 6 _ rfl
      have h7 := hc 7 _ rfl
      have h8 := hc 8 _ rfl
      have h9 := hc 9 _ rfl
      have h10 := hc 10 _ rfl
      have h11 := hc 11 _ rfl
      have h12 := hc 12 _ rfl
      have h13 := hc 13 _ rfl
      clear hc
      simp only [Nat.add_zero] at h0
      obtain ⟨wo, rfl⟩ : ∃ wo : World, wo = wr := ⟨_, rfl⟩
      go_wp2_with fail
      refine (HC.out _ _ _ (Hown.out.alloc _) (by simp) (fun q => by simp [go_sem])).mono ?_
      rintro e w5 ⟨rfl, hb5⟩
      have c5_0 := fun o => Below.cell hb5 (p := ⟨wo.heap.size, o, none⟩) (by first | omega | exact Below.size (by assumption) | (simp; done) | (simp; omega))
      have l5_0 : wo.heap.size < w5.heap.size := Nat.lt_of_lt_of_le (by first | omega | exact Below.size (by assumption) | (simp; done) | (simp; omega)) (Below.size hb5)
      have hown5 := (Hown.out.alloc _).below hb5
      have Hown5 := Lib.hid hown5; clear hown5 Hown
      have hB5 : Below w.heap.size w w5 := (by repeat (first | exact Below.refl _ _ | assumption | refine Below.drew ?_ | refine below_drewN ?_ _ | refine Below.alloc ?_ (by first | omega | exact Below.size (by assumption) | (simp; done) | (simp; omega)) _ | refine Below.setCell ?_ (by first | omega | exact Below.size (by assumption) | (simp; done) | (simp; omega)) _ | refine Below.trans ?_ (Below.mono (by assumption) (by first | omega | exact Below.size (by assumption) | (simp; done) | (simp; omega)))))
      clear HC h0 h1 h2 h3 h4 h5 h6 h7 h8 h9 h10 h11 h12 h13
      cases cv
      · go_wp2_with (at_builtin; refine wpList_appF (f := Rule.cells) rfl _ _ 34 rfl 40 _ 56 Try.underlying34 infoR rfl (by omega) w.heap.size o ⟨sa, sb, sc, sd, da, db, dc, dd, sbits, dbits, proto, low, high, cls⟩ _ rfl _ rfl (by decide) rfl (by simp [Rule.cells, Value.oneCell']) (Hown5.out.alloc _) ?cell (by omega) ?base ?_)
        case cell => exact fun j u hu => by simpa [go_sem, Rule.cells] using hu
        case base => (have := hB5.size; simp; omega)
        intro v' w' hown' hgr
        have hbw' : Below w.heap.size w w' := OwnF.grown (Hown5.out.alloc _) (hB5.alloc hB5.size _) hgr (by have := hB5.size; simp; omega)
        clear hgr
        go_wp2_with fail
        go_roundw
        case rel => exact ⟨k + 1, by omega, by go_num, hbw', by rw [Hstep.out]; exact hown'⟩
        case measure => first | (simp [intOf]; done) | (simp [intOf]; omega)
      · go_wp2_with fail
        go_roundw
        case rel => exact ⟨k + 1, by omega, by go_num, hB5, by rw [Hstep.out]; exact Hown5.out⟩
        case measure => first | (simp [intOf]; done) | (simp [intOf]; omega)
    · go_wp2_with fail
      go_ret2
      exact ⟨⟨_, rfl, by have h := Hown.out; rwa [List.take_of_length_le (by have := Hn.out; omega)] at h⟩, (by repeat (first | exact Below.refl _ _ | assumption | refine Below.drew ?_ | refine below_drewN ?_ _ | refine Below.alloc ?_ (by first | omega | exact Below.size (by assumption) | (simp; done) | (simp; omega)) _ | refine Below.setCell ?_ (by first | omega | exact Below.size (by assumption) | (simp; done) | (simp; omega)) _ | refine Below.trans ?_ (Below.mono (by assumption) (by first | omega | exact Below.size (by assumption) | (simp; done) | (simp; omega)))))⟩
set_option maxHeartbeats 1000000 in
theorem prune_err (A : Option Addr) (n c : Nat) (l : List Rule) (w : World) (hr : Rd w A (l.flatMap Rule.cells)) (hn : l.length = n) (hm : n ≤ 140737488355328) (hwb : wrongB l = true) :
    Calls Try.prog 22 #[.slice A n c] w fun e w' => e = .returned (.tuple #[.slice none 0 0, .int .i64 2]) ∧ Below w.heap.size w w' := by
  have HW : Hid (∀ W, Below w.heap.size w W → Calls Try.prog 75 #[.slice A n c] W fun e w' => e = .returned (.int .i64 2) ∧ Below W.heap.size W w') :=
    Lib.hid fun W hb => by have := wrong_any A n c l W (hr.below hb) hn hm; rwa [wrongR, hwb] at this
  clear hwb hm hr hn
  go_enter Try.func22, Try.ntmps22
  go_wp2_with fail
  refine (HW.out _ (by repeat (first | exact Below.refl _ _ | assumption | refine Below.drew ?_ | refine below_drewN ?_ _ | refine Below.alloc ?_ (by first | omega | exact Below.size (by assumption) | (simp; done) | (simp; omega)) _ | refine Below.setCell ?_ (by first | omega | exact Below.size (by assumption) | (simp; done) | (simp; omega)) _ | refine Below.trans ?_ (Below.mono (by assumption) (by first | omega | exact Below.size (by assumption) | (simp; done) | (simp; omega)))))).mono ?_
  rintro e w1 ⟨rfl, hb1⟩
  go_wp2_with fail
  go_ret2
  exact ⟨rfl, (by repeat (first | exact Below.refl _ _ | assumption | refine Below.drew ?_ | refine below_drewN ?_ _ | refine Below.alloc ?_ (by first | omega | exact Below.size (by assumption) | (simp; done) | (simp; omega)) _ | refine Below.setCell ?_ (by first | omega | exact Below.size (by assumption) | (simp; done) | (simp; omega)) _ | refine Below.trans ?_ (Below.mono (by assumption) (by first | omega | exact Below.size (by assumption) | (simp; done) | (simp; omega)))))⟩
end Go.Proofs.Ytlmnlffbbbcodaa.Rules
