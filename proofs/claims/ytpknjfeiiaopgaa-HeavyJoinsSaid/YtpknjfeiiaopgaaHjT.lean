/- The counts of two, plain; WTable in general. -/
import Derived.Test.YtpknjfeiiaopgaaHjM
import Derived.Test.YtpknjfeiiaopgaaHvW
import Derived.Test.YtpknjfeiiaopgaaHvP
namespace Go.Proofs.Ytpknjfeiiaopgaa.Heavy
open Go.RowKit Go.Proofs.Ytpknjfeiiaopgaa.E

theorem nd_next {T o : List (Int × Int)} {left : List Int} {ce : Int × Int} (hno : (o.map (·.1)).Nodup) (hmem : ∀ c, c ∈ o ↔ c ∈ T ∧ 0 < c.2 ∧ c.1 ∉ left) (hkl : ce.1 ∈ left) : ((o ++ [ce]).map (·.1)).Nodup := by
  rw [List.map_append, List.nodup_append]
  exact ⟨hno, by simp, fun a ha b hb e => by
    simp at hb
    subst hb
    obtain ⟨d, hd, rfl⟩ := List.mem_map.1 ha
    exact ((hmem d).1 hd).2.2 (e ▸ hkl)⟩
theorem done_mem {T o : List (Int × Int)} {m : Int} (hT : TOk T m) (hmem : ∀ c, c ∈ o ↔ c ∈ T ∧ 0 < c.2 ∧ c.1 ∉ ([] : List Int)) (c : Int × Int) : c ∈ o ↔ c ∈ T := by
  rw [hmem c]
  exact ⟨fun h => h.1, fun h => ⟨h, by have := hT.bd c h; omega, by simp⟩⟩
theorem done_perm {T o : List (Int × Int)} {m : Int} (hT : TOk T m) (hno : (o.map (·.1)).Nodup) (hmem : ∀ c, c ∈ o ↔ c ∈ T ∧ 0 < c.2 ∧ c.1 ∉ ([] : List Int)) : o.Perm T := perm_of_mem hno hT.nd (done_mem hT hmem)
theorem ctG_next {o : List (Int × Int)} {d : Int × Int} {x : Int} : ctG (o ++ [d]) x = ctG o x + if x < d.2 then 1 else 0 := by
  unfold ctG
  rw [List.countP_append, List.countP_singleton]
  congr 1
  split <;> simp_all
theorem ctS_next {o : List (Int × Int)} {d : Int × Int} {x : Int} : ctS (o ++ [d]) x = ctS o x + if d.2 = x then 1 else 0 := by
  unfold ctS
  rw [List.countP_append, List.countP_singleton]
  congr 1
  split <;> simp_all
def CutP (k : Int) (T o : List (Int × Int)) (x : Int) : Prop := (x = 0 ∧ ∀ d ∈ o, ¬ Cut2 k T d.2) ∨ Cut2 k T x
theorem cut_next {k x : Int} {T o : List (Int × Int)} {ce : Int × Int} (h : CutP k T o x) (hn : ¬ Cut2 k T ce.2) : CutP k T (o ++ [ce]) x := by
  rcases h with ⟨h1, h2⟩ | h
  · refine .inl ⟨h1, fun d hd => ?_⟩
    rcases List.mem_append.1 hd with hd | hd
    · exact h2 d hd
    · simp at hd; subst hd; exact hn
  · exact .inr h
theorem cut_done {k x : Int} {T o : List (Int × Int)} (h : CutP k T o x) (hp : ∀ c, c ∈ o ↔ c ∈ T) : CutR k T x := by
  rcases h with ⟨h1, h2⟩ | h
  · exact .inl ⟨h1, fun d hd => h2 d ((hp d).2 hd)⟩
  · exact .inr h
theorem cut_bd {k x m : Int} {T : List (Int × Int)} (hT : TOk T m) (hm : 0 ≤ m) (h : CutR k T x) : 0 ≤ x ∧ x ≤ m := by
  rcases h with ⟨h1, _⟩ | ⟨⟨d, hd, rfl⟩, _⟩
  · omega
  · have := hT.bd d hd; omega
theorem jr_few {k : Int} {a b o r : List (Int × Int)} (h : Rt k a ∧ Rt k b) (hx : ∀ d ∈ sumT a b, d.2 ≤ 1099511627776) (hp : o.Perm (sumT a b)) (hr : r.Perm o) (hu : Up r) (hl : (o.length : Int) ≤ k) : JR k a b r 0 := by
  have hT := (sum_tok h).1
  refine .ok 0 r h hx (cut_few (by rw [← hp.length_eq]; exact hl)) hu fun c => ?_
  rw [(hr.trans hp).mem_iff]
  constructor
  · exact fun hc => ⟨c, hc, by have := hT.bd c hc; omega, by simp⟩
  · rintro ⟨d, hd, _, rfl⟩
    simpa using hd
theorem jr_many {k x : Int} {a b o r : List (Int × Int)} (h : Rt k a ∧ Rt k b) (hx : ∀ d ∈ sumT a b, d.2 ≤ 1099511627776) (hp : o.Perm (sumT a b)) (hr : r.Perm o) (hu : Up r) (hc : Cut2 k (sumT a b) x) : JR k a b (lessF r x) 0 := by
  refine .ok x _ h hx (.inr hc) (up_less hu) fun c => ?_
  unfold lessF
  rw [List.mem_map]
  constructor
  · rintro ⟨d, hd, rfl⟩
    rw [List.mem_filter] at hd
    exact ⟨d, (hr.trans hp).mem_iff.1 hd.1, by simpa using hd.2, rfl⟩
  · rintro ⟨d, hd, hlt, rfl⟩
    exact ⟨d, List.mem_filter.2 ⟨(hr.trans hp).mem_iff.2 hd, by simpa using hlt⟩, rfl⟩
theorem jr_w {k x : Int} {a b o r : List (Int × Int)} (h : Rt k a ∧ Rt k b) (hx : ∀ d ∈ sumT a b, d.2 ≤ 1099511627776) (hp : ∀ c, c ∈ o ↔ c ∈ sumT a b) (hc : CutR k (sumT a b) x) (hu : Up r) (hm : ∀ c, c ∈ r ↔ c ∈ o.map (fun d => (d.1, d.2 - x)) ∧ 0 < c.2) : JR k a b r 0 := by
  refine .ok x r h hx hc hu fun c => ?_
  rw [hm c, List.mem_map]
  constructor
  · rintro ⟨⟨d, hd, rfl⟩, hpos⟩
    exact ⟨d, (hp d).1 hd, by dsimp only at hpos; omega, rfl⟩
  · rintro ⟨d, hd, hlt, rfl⟩
    exact ⟨⟨d, (hp d).2 hd, rfl⟩, by dsimp only; omega⟩
theorem sub_put {o : List (Int × Int)} {ce : Int × Int} {x : Int} (hno : (((o ++ [ce]).map (·.1)).Nodup)) : mput (tb (o.map fun d => (d.1, d.2 - x))) ce.1 (.int .i64 (ce.2 - x)) = tb ((o ++ [ce]).map fun d => (d.1, d.2 - x)) := by
  rw [List.map_append, List.nodup_append] at hno
  rw [tb_put_new, List.map_append]
  · rfl
  · intro hc
    rw [List.map_map] at hc
    obtain ⟨d, hd, he⟩ := List.mem_map.1 hc
    exact hno.2.2 ce.1 (he ▸ List.mem_map.2 ⟨d, hd, rfl⟩) ce.1 (by simp) rfl

set_option maxRecDepth 100000 in
set_option maxHeartbeats 2000000 in
theorem wtableG (A : Option Addr) (n c : Nat) (l : List (Int × Int)) (w : World) (hr : Rd w A (l.flatMap c2)) (hn : l.length = n) (hm : n ≤ 140737488355328) (h8 : n ≤ 800) (hkb : ∀ j, j < l.length → 1 ≤ k2 l j ∧ k2 l j ≤ 1099511627776) :
    Calls Try.prog 92 #[.slice A n c] w fun e w' => ∃ q : Nat, True ∧ e = .returned (.map (some q)) ∧ St w w' [mpR q (tb (accT l n)) []] := by
  have hto := acc_tok hkb
  refine calls_tr Try.func92 Try.ntmps92 rfl rfl (St.refl _) ?_
  refine tr_seq ?_
  refine tr_region ?_
  refine tl_step rfl (oj_val (y_assign fe_c) ?_)
  refine tl_nil ?_
  refine tx_then ?_
  refine tr_seq ?_
  refine tr_region ?_
  refine tl_step rfl (oj_makeMap (fun b_mp => ?_))
  refine tl_step rfl (oj_val (y_assign (fe_t rfl)) ?_)
  refine tl_nil ?_
  refine tx_then ?_
  refine tr_seq ?_
  refine tr_seq ?_
  refine tr_region ?_
  refine tl_step rfl (oj_val (y_move (fe_t rfl)) ?_)
  refine tl_step rfl (oj_val (y_len Try.underlying87 (fe_t rfl)) ?_)
  refine tl_step rfl (oj_val (y_move fe_c) ?_)
  refine tl_nil ?_
  refine tx_then ?_
  refine tr_block ?_
  refine tr_loop1 [5, 9, 10, 11, 12, 13, 14, 15, 16, 17, 18, 19, 20] (fun (i : Nat) => [(9, .int .i64 (i : Int))]) 0 (fun (i : Nat) => [(0, mpR b_mp (tb (accT l i)) [])]) (fun (i : Nat) => i ≤ n) (fun (i : Nat) => n - i) (0) (cov_cons (by first | rfl | exact v_int (by omega) | exact v_bool (by simp [*])) (cov_nil)) (fun w h => h) ?_ ?_
  · try dsimp only
    exact Nat.zero_le _
  intro i hp
  have hi := hp
  refine tr_seq ?_
  refine tr_region ?_
  refine tl_step rfl (oj_val (y_lss (fe_t rfl) (fe_t rfl)) ?_)
  refine tl_nil ?_
  refine tx_then ?_
  refine tr_seq ?_
  refine tr_condp (fe_t rfl) (fun hq1 => ?_) (fun hq2 => ?_)
  · try (exfalso; omega)
    all_goals
      refine tr_skip ?_
      refine tx_then ?_
      refine tr_seq ?_
      refine tr_block ?_
      refine tr_seq ?_
      refine tr_region ?_
      refine tl_step rfl (oj_val (y_index Try.underlying87 Try.sizeOf92 (fe_t rfl) (fe_t rfl) (rdl_out hr) (lenK hn) (by decide) (by omega) rfl) ?_)
      refine tl_step rfl (oj_val (y_ldA (cs := [(.int .i64 (k1 l i)), (.int .i64 (k2 l i))]) Try.isAgg92 Try.sizeOf92 (fe_t rfl) (rdl_out hr) rfl (by decide) (getK (by omega))) ?_)
      refine tl_step rfl (oj_alloc Try.zeroValue92 (fun bc => ?_))
      refine tl_step rfl (oj_storeW 0 Try.sizeOf92 (fe_t rfl) (fe_t rfl) rfl rfl rfl rfl rfl (?_))
      refine tl_nil ?_
      refine tx_then ?_
      obtain ⟨v, hlk, hvb, hput⟩ := put_add (x := k1 l i) (n := k2 l i) (hto i (by omega)).1 (by omega)
      have hki := hkb i (by omega)
      refine tr_region ?_
      refine tl_step rfl (oj_val (y_move (fe_t rfl)) ?_)
      refine tl_step rfl (oj_val (y_fieldAddr (td := 3) Try.underlying92 rfl rfl Try.sizeOf3 (o' := 0) rfl (fe_t rfl)) ?_)
      refine tl_step rfl (oj_val (y_ldb 0 Try.isAgg3 (fe_t rfl) rfl rfl) ?_)
      refine tl_step rfl (oj_val (y_asv (y_lookup 1 Try.underlying113 Try.underlying3 Try.zeroValue3 (fe_t rfl) (fe_t rfl) rfl) hlk) ?_)
      refine tl_step rfl (oj_val (y_fieldAddr (td := 3) Try.underlying92 rfl rfl Try.sizeOf3 (o' := 1) rfl (fe_t rfl)) ?_)
      refine tl_step rfl (oj_val (y_ldb 0 Try.isAgg3 (fe_t rfl) rfl rfl) ?_)
      refine tl_step rfl (oj_val (y_add (fe_t rfl) (fe_t rfl) (by omega)) ?_)
      refine tl_step rfl (oj_mapPut 1 Try.underlying113 Try.underlying3 (fe_t rfl) (fe_t rfl) (fe_t rfl) rfl (.inl rfl) (?_))
      refine tl_nil ?_
      refine tx_in ?_
      refine tx_then ?_
      refine tr_as (r' := mpR b_mp (tb (accT l (i + 1))) []) 1 rfl (congrArg (fun m => mpR b_mp m []) (by rw [hput, accT_succ (by omega)])) ?_
      refine tr_region ?_
      refine tl_step rfl (oj_val (y_inc (fe_t rfl) fe_c (by omega)) ?_)
      refine tl_step rfl (oj_val (y_move (fe_t rfl)) ?_)
      refine tl_nil ?_
      apply tx_back1 (i + 1)
      · exact (cov_cons (by first | rfl | exact v_int (by omega) | exact v_bool (by simp [*])) (cov_nil))
      · repeat (first | exact over_nil | refine over_put rfl ?_ | refine over_drop rfl ?_)
      · exact fun w h => h.pick [1] _ rfl (by decide)
      · exact ⟨by omega, by omega⟩
  · try (exfalso; omega)
    all_goals
      refine tr_exit ?_
      refine tx_then_exit ?_
      refine tx_then_exit ?_
      refine tx_in_exit ?_
      refine tx_then ?_
      refine tr_seq ?_
      refine tr_region ?_
      refine tl_step rfl (oj_val (y_move (fe_t rfl)) ?_)
      refine tl_step rfl (oj_val (y_assign (fe_t rfl)) ?_)
      refine tl_nil ?_
      refine tx_then ?_
      refine tr_ret ?_
      refine tx_ret (res1 Try.results92 (rok_t rfl)) (fun w' hS => ?_)
      obtain rfl : i = n := by omega
      exact ⟨b_mp, trivial, rfl, hS.pick [0] _ rfl (by decide)⟩

end Go.Proofs.Ytpknjfeiiaopgaa.Heavy
