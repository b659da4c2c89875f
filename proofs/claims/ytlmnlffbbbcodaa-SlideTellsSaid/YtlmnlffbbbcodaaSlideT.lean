/- Walk: slide.Most. -/
import Derived.Test.YtlmnlffbbbcodaaSlideS
import Derived.Deep.Cut
namespace Go.Proofs.Ytlmnlffbbbcodaa.Slide
open Go.RowKit Go.Proofs.Ytlmnlffbbbcodaa.Big

theorem most_bad (wd : Int) (A : Option Addr) (n c : Nat) (l : List Int) (w : World) (hr : RdI .i64 w A l) (hn : l.length = n) (hm : n ≤ 140737488355328) (h : bad wd l = true) :
    Calls Try.prog 44 #[(.int .i64 wd), .slice A n c] w fun e w' => e = .returned (.tuple #[.slice none 0 0, (.int .i64 2)]) ∧ Below w.heap.size w w' := by
  have HW := Lib.hid (h ▸ wrong_any wd A n c l w hr hn hm)
  clear hr hn h
  go_enter Try.func44, Try.ntmps44
  go_wp2_with fail
  refine HW.out.mono ?_
  rintro e w1 ⟨rfl, rfl⟩
  go_wp2_with fail
  go_ret2
  exact ⟨rfl, (by repeat (first | (with_reducible exact Below.refl _ _) | (with_reducible assumption) | (with_reducible refine Below.drew ?_) | (with_reducible refine below_drewN ?_ _) | ((with_reducible refine Below.setCell ?_ ?_ _); rotate_left; (next => first | omega | exact Nat.le_refl _ | (refine Below.size (B := ?_) ?_; rotate_left; assumption) | (simp; done) | (simp; omega))) | ((with_reducible refine Below.alloc ?_ ?_ _); rotate_left; (next => first | omega | exact Nat.le_refl _ | (refine Below.size (B := ?_) ?_; rotate_left; assumption) | (simp; done) | (simp; omega))) | ((with_reducible refine Below.trans (b := ?_) ?_ (Below.mono (B := ?_) ?_ ?_)); rotate_left 3; (next => (with_reducible assumption)); (next => first | omega | exact Nat.le_refl _ | (refine Below.size (B := ?_) ?_; rotate_left; assumption) | (simp; done) | (simp; omega)))))⟩

theorem infoE : (Try.prog.info? 152).map (fun i => (i.zero, i.size, i.bytes)) = some (some (.agg #[(.int .i64 0), (.int .i64 0)]), 2, 16) := by kernel_rfl
theorem infoE2 : (Try.prog.info? 152).map (·.size) = some 2 := by kernel_rfl

theorem c2_take (es : List (Int × Int)) (m : Nat) : (es.flatMap c2).take (m * 2) = (es.take m).flatMap c2 := by
  induction es generalizing m with
  | nil => simp
  | cons x es ih =>
    cases m with
    | zero => simp
    | succ m =>
      simp only [List.flatMap_cons, List.take_succ_cons, c2, List.cons_append, List.nil_append]
      rw [show (m + 1) * 2 = m * 2 + 1 + 1 by omega, List.take_succ_cons, List.take_succ_cons, ih m]
theorem c2_drop1 (es : List (Int × Int)) : (es.flatMap c2).drop (1 * 2) = es.tail.flatMap c2 := by
  cases es with
  | nil => simp
  | cons x es => simp [c2]
theorem OwnV.at2 {w : World} {base : Nat} {e : TypeId} {n c : Nat} {A : Option Addr} {es : List (Int × Int)} (h : OwnV w base e 2 (.slice A n c) n (es.flatMap c2)) {k : Nat} (hk : k < es.length) :
    ∃ b off, A = some ⟨b, off, none⟩ ∧ b < w.heap.size ∧ w.cell? ⟨b, off + k * 2, none⟩ = some (.int .i64 (es[k].1)) ∧ w.cell? ⟨b, off + k * 2 + 1, none⟩ = some (.int .i64 (es[k].2)) := by
  obtain ⟨A', c', he, _, hr, _⟩ := h.form
  injection he with h1
  subst h1
  exact hr.at2 hk

def vlen : Value → Nat
  | .slice _ n _ => n
  | _ => 0
theorem infoI1 : (Try.prog.info? 3).map (fun i => (i.zero, i.size, i.bytes)) = some (some (.int .i64 0), 1, 8) := by kernel_rfl

theorem es_push (es : List (Int × Int)) (m : Nat) (a x : Int) : (es.take m).flatMap c2 ++ [(.int .i64 a), (.int .i64 x)] = (es.take m ++ [(a, x)]).flatMap c2 := by simp [c2]

set_option maxRecDepth 100000 in
set_option maxHeartbeats 4000000 in
theorem most_ok (wd : Int) (A : Option Addr) (n c : Nat) (l : List Int) (w : World) (hr : RdI .i64 w A l) (hn : l.length = n) (h : bad wd l = false) :
    Calls Try.prog 44 #[(.int .i64 wd), .slice A n c] w fun e w' => ∃ A' c', e = .returned (.tuple #[.slice A' n c', (.int .i64 0)]) ∧ RdI .i64 w' A' (maxs l wd.toNat n) ∧ Below w.heap.size w w' := by
  have HW := Lib.hid (h ▸ wrong_any wd A n c l w hr hn (by have := (good_parts h).2.2.1; omega))
  obtain ⟨g1, g2, g3, g4⟩ := good_parts h
  rw [hn] at g3
  obtain ⟨d, rfl⟩ : ∃ d : Nat, wd = d := ⟨wd.toNat, by omega⟩
  simp only [Int.toNat_natCast]
  have Hr := Lib.hid hr
  have Hn := Lib.hid hn
  clear hr hn h g4
  go_enter Try.func44, Try.ntmps44
  go_wp2_with fail
  refine HW.out.mono ?_
  rintro e w1 ⟨rfl, rfl⟩
  go_wp2_with fail
  go_loopw [6, 7, 15] (fun q v i wr => ∃ k : Nat, k ≤ n ∧ i = .int .i64 k ∧ ∃ es, Hid (LineOK l d k es ∧ es.length ≤ k) ∧ OwnV wr w.heap.size 152 2 q es.length (es.flatMap c2) ∧ OwnV wr w.heap.size 3 1 v k ((maxs l d k).map (Value.int .i64)) ∧ (∀ g, q.ownBlock = some g → v.ownBlock ≠ some g) ∧ Below w.heap.size w wr) (fun _ _ i _ => n - (intOf i).toNat)
  case atStart => exact ⟨0, by omega, rfl, [], Lib.hid ⟨.nil l d, by simp⟩, OwnV.nil _ _ _ _, OwnV.nil _ _ _ _, fun g h => by simp [Value.ownBlock] at h, (by repeat (first | (with_reducible exact Below.refl _ _) | (with_reducible assumption) | (with_reducible refine Below.drew ?_) | (with_reducible refine below_drewN ?_ _) | ((with_reducible refine Below.setCell ?_ ?_ _); rotate_left; (next => first | omega | exact Nat.le_refl _ | (refine Below.size (B := ?_) ?_; rotate_left; assumption) | (simp; done) | (simp; omega))) | ((with_reducible refine Below.alloc ?_ ?_ _); rotate_left; (next => first | omega | exact Nat.le_refl _ | (refine Below.size (B := ?_) ?_; rotate_left; assumption) | (simp; done) | (simp; omega))) | ((with_reducible refine Below.trans (b := ?_) ?_ (Below.mono (B := ?_) ?_ ?_)); rotate_left 3; (next => (with_reducible assumption)); (next => first | omega | exact Nat.le_refl _ | (refine Below.size (B := ?_) ?_; rotate_left; assumption) | (simp; done) | (simp; omega)))))⟩
  case round =>
    obtain ⟨k, hk, rfl, es, Hes, hq, ho, hne, hbw⟩ := hrel
    have hsz := hbw.size
    have Ho := Lib.hid ho
    have Hq := Lib.hid hq
    have Hne := Lib.hid hne
    clear ho hq hne
    by_cases hlt : k < n
    · have hl : k < l.length := by have := Hn.out; omega
      obtain ⟨b, off, rfl, hbl, hc⟩ := RdI.atn Hr.out hbw hl
      obtain ⟨x, Hx⟩ : ∃ x, Hid (l[k] = x) := ⟨_, Lib.hid rfl⟩
      rw [Hx.out] at hc
      have hel := Hes.out.2
      go_wp2_with fail
      go_loop [6] (fun q => ∃ m : Nat, m ≤ es.length ∧ OwnV wr w.heap.size 152 2 q m ((es.take m).flatMap c2) ∧ (∀ g, q.ownBlock = some g → u7.ownBlock ≠ some g) ∧ Hid (∀ i (hi : i < es.length), m ≤ i → es[i].2 ≤ x)) (fun q => vlen q)
      case atStart => exact ⟨es.length, Nat.le_refl _, by rw [List.take_length]; exact Hq.out, Hne.out, Lib.hid fun i hi h => by omega⟩
      case round =>
        obtain ⟨m, hm, hqm, hqn, Hdrop⟩ := hrel
        obtain ⟨A2, c2', rfl, hmc, _, _⟩ := hqm.form
        have Hqm := Lib.hid hqm
        have Hqn := Lib.hid hqn
        clear hqm hqn
        by_cases hgo : ∃ h0 : 0 < m, (es[m - 1]'(by omega)).2 ≤ x
        · obtain ⟨h0, hle⟩ := hgo
          obtain ⟨m', rfl⟩ : ∃ m', m = m' + 1 := ⟨m - 1, by omega⟩
          have hmt : m' < (es.take (m' + 1)).length := by simp; omega
          obtain ⟨b2, off2, rfl, hb2, hd0, hd1⟩ := OwnV.at2 Hqm.out hmt
          simp only [List.getElem_take] at hd0 hd1
          have Hle := Lib.hid hle
          obtain ⟨y, Hy⟩ : ∃ x, Hid (es[m'].2 = x) := ⟨_, Lib.hid rfl⟩
          have hyx : y ≤ x := by rw [← Hy.out]; exact hle
          rw [Hy.out] at hd1
          clear hle hd0
          go_wp2_with ((with_reducible refine wpList_cutH ?_); refine ⟨152, 2, w.heap.size, m' + 1, _, _, .i64, m', Try.underlying150, infoE2, rfl, ?_, Hqm.out, by omega, ?_⟩; rotate_left; intro q' hq' hob; obtain ⟨A5, c5, rfl, _, _, _⟩ := hq'.form; rw [c2_take, List.take_take, Nat.min_eq_left (Nat.le_succ m')] at hq'; have Hq5 := Lib.hid hq'; clear hq')
          go_round
          case rel => exact ⟨m', by omega, Hq5.out, fun g hg => Hqn.out g (hob g hg), Lib.hid fun i hi h => by
            rcases Nat.lt_or_ge m' i with h5 | h5
            · exact Hdrop.out i hi h5
            · obtain rfl : i = m' := by omega
              exact Hle.out⟩
          case measure => simp [vlen]
        · have H2 : Hid (∀ hm0 : 0 < m, l[k] < (es[m - 1]'(by omega)).2) := Lib.hid fun hm0 => by
            rw [Hx.out]
            by_cases h5 : (es[m - 1]'(by omega)).2 ≤ x
            · exact absurd ⟨hm0, h5⟩ hgo
            · omega
          have Hlo := Lib.hid (LineOK.lt_or Hes.out.1 hl (show 0 < d by omega) hm (fun i hi h => by rw [Hx.out]; exact Hdrop.out i hi h) H2.out)
          have Hx3 : Hid (es.take m ++ [((k : Int), l[k])] = es.take m ++ [((k : Int), x)]) := Lib.hid (by rw [Hx.out])
          rw [Hx3.out] at Hlo
          have hmode : Hid True ∧ (m = 0 ∨ (0 < m ∧ ∃ h0 : m - 1 < es.length, x < es[m - 1].2)) := ⟨Lib.hid trivial, by
            rcases Nat.eq_zero_or_pos m with h5 | h5
            · exact .inl h5
            · exact .inr ⟨h5, by omega, by have := H2.out h5; rwa [Hx.out] at this⟩⟩
          clear hgo
          have HE : Hid ((es.take m ++ [((k : Int), x)]).length = m + 1) := Lib.hid (by simp; omega)
          have HP := Lib.hid (es_push es m k x)
          generalize es.take m ++ [((k : Int), x)] = E at Hlo HE HP
          obtain ⟨a0, x0, t, rfl⟩ : ∃ a0 x0 t, E = (a0, x0) :: t := by
            cases E with
            | nil => have := HE.out; simp at this
            | cons z t => exact ⟨z.1, z.2, t, rfl⟩
          have Hlo2 : Hid ((a0 ≤ (k : Int) - d → LineOK l d (k + 1) t ∧ 0 < t.length) ∧ (¬ a0 ≤ (k : Int) - d → LineOK l d (k + 1) ((a0, x0) :: t))) := Lib.hid (Hlo.out.2 (by simp))
          have Htl : Hid (t.length = m) := Lib.hid (by have := HE.out; simpa using this)
          have Hms := Lib.hid (maxs_succ l d k)
          clear Hlo
          rcases hmode.2 with hm0 | ⟨h0, hm1, hlt2⟩
          case' inr =>
            obtain ⟨m', rfl⟩ : ∃ m', m = m' + 1 := ⟨m - 1, by omega⟩
            have hmt : m' < (es.take (m' + 1)).length := by simp; omega
            obtain ⟨b2, off2, rfl, hb2, hd0, hd1⟩ := OwnV.at2 Hqm.out hmt
            simp only [List.getElem_take] at hd0 hd1
            obtain ⟨y, Hy⟩ : ∃ x, Hid (es[m'].2 = x) := ⟨_, Lib.hid rfl⟩
            have hxy : x < y := by rw [← Hy.out]; exact hlt2
            rw [Hy.out] at hd1
            clear hlt2 hd0
          all_goals
            try subst hm0
            go_upto_region 11 with ((with_reducible refine wpList_appV ?_); refine ⟨152, 2, 16, w.heap.size, _, _, _, [(.int .i64 k), (.int .i64 x)], _, _, Try.underlying150, infoE, ⟨rfl, by omega, by omega, by omega⟩, rfl, rfl, (Hqm.out).alloc _, rfl, (by intro j u hu; match j with | 0 => simpa [go_sem] using hu | 1 => simpa [go_sem] using hu | j + 2 => simp at hu), (by simp [Value.oneCell']), (by first | omega | (simp; done) | (simp; omega)), ?_⟩; intro q3 w2 hq3 hgr hfr)
            have hB2 : Below w.heap.size w w2 := OwnV.grown ((Hqm.out).alloc _) (hbw.alloc hsz _) hgr (by simp; omega) (Nat.le_refl _)
            have Ho2 : Hid (OwnV w2 w.heap.size 3 1 u7 k ((maxs l d k).map (Value.int .i64))) := Lib.hid ((Ho.out.alloc _).apart hgr fun g hg h => Hqn.out g h hg)
            have hs2 : w.heap.size ≤ w2.heap.size := hB2.size
            rw [HP.out] at hq3
            obtain ⟨A3, c3, rfl, _, _, _⟩ := hq3.form
            have Hne2 : Hid (∀ g, (Value.slice A3 (_ + 1) c3).ownBlock = some g → u7.ownBlock ≠ some g) := Lib.hid fun g hg h => by
              rcases hfr g hg with h5 | h5
              · exact Hqn.out g h5 h
              · have := (Ho.out.lt g h).2; simp at h5; omega
            obtain ⟨b3, off3, rfl, hb3, he0, he1⟩ := OwnV.at2 (k := 0) hq3 (by simp)
            simp only [Nat.zero_mul, Nat.add_zero, List.getElem_cons_zero] at he0 he1
            have Hq3 := Lib.hid hq3
            clear hq3 hgr hfr
            by_cases ha : a0 ≤ (k : Int) - d
            · obtain ⟨l1, l2⟩ := Hlo2.out.1 ha
              have Hl1 := Lib.hid l1
              have hfront := LineOK.front l1 (by omega) l2
              obtain ⟨a1, x1, t', rfl⟩ : ∃ a1 x1 t', t = (a1, x1) :: t' := by
                cases t with
                | nil => simp at l2
                | cons z t => exact ⟨z.1, z.2, t, rfl⟩
              try (exfalso; have h9 := Htl.out; simp at h9; done)
              all_goals
                simp only [List.getElem_cons_zero] at hfront
                have Hfr := Lib.hid hfront
                clear l1 l2 hfront
                go_upto_region 13 with ((with_reducible refine wpList_cutL ?_); refine ⟨152, 2, w.heap.size, _, _, _, .i64, 1, Try.underlying150, infoE2, rfl, rfl, Hq3.out, by omega, ?_⟩; intro q5 hq5 hob5; obtain ⟨A5, c5, rfl, _, _, _⟩ := hq5.form; have Hq5 := Lib.hid hq5; have Hob5 := Lib.hid hob5; clear hq5 hob5)
                have hq5 := Hq5.out
                rw [c2_drop1, List.tail_cons, Nat.add_sub_cancel] at hq5
                have Hq6 := Lib.hid hq5
                obtain ⟨b5, off5, rfl, hb5, hf0, hf1⟩ := OwnV.at2 (k := 0) hq5 (by simp)
                simp only [Nat.zero_mul, Nat.add_zero, List.getElem_cons_zero] at hf0 hf1
                have Hne5 := Lib.hid (fun g hg => Hne2.out g (Hob5.out g hg))
                clear hq5 Hob5
                go_wp2_with ((with_reducible refine wpList_appV ?_); refine ⟨3, 1, 8, w.heap.size, k, _, _, [(.int .i64 x1)], _, _, Try.underlying23, infoI1, ⟨rfl, by omega, by omega, by omega⟩, rfl, rfl, Ho2.out.alloc _, rfl, (by intro j u hu; match j with | 0 => simpa [go_sem] using hu | j + 1 => simp at hu), (by simp [Value.oneCell']), (by first | omega | (simp; done) | (simp; omega)), ?_⟩; intro v4 w3 ho3 hgr3 hfr3; have Hgr3 := Lib.hid hgr3; have Hfr3 := Lib.hid hfr3; have Ho3 := Lib.hid ho3; clear hgr3 hfr3 ho3)
                have hB3 : Below w.heap.size w w3 := OwnV.grown (Ho2.out.alloc _) (hB2.alloc hs2 _) Hgr3.out (by first | omega | (simp; done) | (simp; omega)) (Nat.le_refl _)
                have Hq4 := Lib.hid ((Hq6.out.alloc _).apart Hgr3.out fun g hg h => Hne5.out g hg h)
                have Hne4 := Lib.hid (fun g (hg : (Value.slice _ _ _).ownBlock = some g) (h : v4.ownBlock = some g) => by
                  rcases Hfr3.out g h with h5 | h5
                  · exact Hne5.out g hg h5
                  · have := (Hq6.out.lt g hg).2; simp at h5; omega)
                go_roundw
                case rel => exact ⟨k + 1, by omega, by go_num, (a1, x1) :: t', Lib.hid ⟨Hl1.out, by rw [Htl.out]; omega⟩, by rw [Htl.out]; exact Hq4.out, by rw [Hms.out, List.map_append, ← Hfr.out]; exact Ho3.out, Hne4.out, hB3⟩
                case measure => first | (simp [intOf]; done) | (simp [intOf]; omega)
            · have l1 := Hlo2.out.2 (by omega)
              have hfront := LineOK.front l1 (by omega) (by simp)
              simp only [List.getElem_cons_zero] at hfront
              have Hl1 := Lib.hid l1
              have Hfr := Lib.hid hfront
              clear l1 hfront
              go_wp2_with ((with_reducible refine wpList_appV ?_); refine ⟨3, 1, 8, w.heap.size, k, _, _, [(.int .i64 x0)], _, _, Try.underlying23, infoI1, ⟨rfl, by omega, by omega, by omega⟩, rfl, rfl, Ho2.out.alloc _, rfl, (by intro j u hu; match j with | 0 => simpa [go_sem] using hu | j + 1 => simp at hu), (by simp [Value.oneCell']), (by first | omega | (simp; done) | (simp; omega)), ?_⟩; intro v4 w3 ho3 hgr3 hfr3; have Hgr3 := Lib.hid hgr3; have Hfr3 := Lib.hid hfr3; have Ho3 := Lib.hid ho3; clear hgr3 hfr3 ho3)
              have hB3 : Below w.heap.size w w3 := OwnV.grown (Ho2.out.alloc _) (hB2.alloc hs2 _) Hgr3.out (by first | omega | (simp; done) | (simp; omega)) (Nat.le_refl _)
              have Hq4 := Lib.hid ((Hq3.out.alloc _).apart Hgr3.out fun g hg h => Hne2.out g hg h)
              have Hne4 := Lib.hid (fun g (hg : (Value.slice _ _ _).ownBlock = some g) (h : v4.ownBlock = some g) => by
                rcases Hfr3.out g h with h5 | h5
                · exact Hne2.out g hg h5
                · have := (Hq3.out.lt g hg).2; simp at h5; omega)
              go_roundw
              case rel => exact ⟨k + 1, by omega, by go_num, (a0, x0) :: t, Lib.hid ⟨Hl1.out, by rw [HE.out]; omega⟩, by rw [HE.out]; exact Hq4.out, by rw [Hms.out, List.map_append, ← Hfr.out]; exact Ho3.out, Hne4.out, hB3⟩
              case measure => first | (simp [intOf]; done) | (simp [intOf]; omega)
    · obtain rfl : k = n := by omega
      obtain ⟨A3, c3, rfl, _, hrd, _⟩ := Ho.out.form
      go_wp2_with fail
      go_ret2
      exact ⟨A3, c3, rfl, hrd, (by repeat (first | (with_reducible exact Below.refl _ _) | (with_reducible assumption) | (with_reducible refine Below.drew ?_) | (with_reducible refine below_drewN ?_ _) | ((with_reducible refine Below.setCell ?_ ?_ _); rotate_left; (next => first | omega | exact Nat.le_refl _ | (refine Below.size (B := ?_) ?_; rotate_left; assumption) | (simp; done) | (simp; omega))) | ((with_reducible refine Below.alloc ?_ ?_ _); rotate_left; (next => first | omega | exact Nat.le_refl _ | (refine Below.size (B := ?_) ?_; rotate_left; assumption) | (simp; done) | (simp; omega))) | ((with_reducible refine Below.trans (b := ?_) ?_ (Below.mono (B := ?_) ?_ ?_)); rotate_left 3; (next => (with_reducible assumption)); (next => first | omega | exact Nat.le_refl _ | (refine Below.size (B := ?_) ?_; rotate_left; assumption) | (simp; done) | (simp; omega)))))⟩
end Go.Proofs.Ytlmnlffbbbcodaa.Slide
