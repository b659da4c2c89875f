/- slices.Insert of one count. -/
import Derived.Test.YtcpdelkamckmfaaHvM
import Derived.Test.YtcpdelkamckmfaaEX
import Derived.Test.YtcpdelkamckmfaaEC
namespace Go.Proofs.Ytcpdelkamckmfaa.Heavy
open Go.RowKit Go.Proofs.Ytcpdelkamckmfaa.E

theorem fm_take {l : List (Int × Int)} {p : Nat} : (l.flatMap c2).take (p * 2) = (l.take p).flatMap c2 := by
  induction l generalizing p with
  | nil => simp
  | cons x l ih =>
    cases p with
    | zero => simp
    | succ p =>
      have e : (x :: l).flatMap c2 = [(.int .i64 x.1), (.int .i64 x.2)] ++ l.flatMap c2 := rfl
      rw [e, show (p + 1) * 2 = p * 2 + 2 by omega, List.take_succ_cons]
      simp only [List.cons_append, List.nil_append, List.take_succ_cons, ih]
      rfl
theorem fm_drop {l : List (Int × Int)} {p : Nat} : (l.flatMap c2).drop (p * 2) = (l.drop p).flatMap c2 := by
  induction l generalizing p with
  | nil => simp
  | cons x l ih =>
    cases p with
    | zero => simp
    | succ p =>
      have e : (x :: l).flatMap c2 = [(.int .i64 x.1), (.int .i64 x.2)] ++ l.flatMap c2 := rfl
      rw [e, show (p + 1) * 2 = p * 2 + 2 by omega, List.drop_succ_cons]
      simp only [List.cons_append, List.nil_append, List.drop_succ_cons, ih]
theorem fm_one {l : List (Int × Int)} : ∀ u ∈ l.flatMap c2, u.oneCell' = true := fun u hu => by
  obtain ⟨c, _, hc⟩ := List.mem_flatMap.1 hu
  simp only [c2, List.mem_cons, List.not_mem_nil, or_false] at hc
  rcases hc with rfl | rfl <;> rfl
/-- The cells behind the two copies. -/
theorem ins_cells {l : List (Int × Int)} {n p : Nat} {x y : Int} {a b vs : List Value} (hl : l.length = n) (hp : p < n) (ha : a = (l.flatMap c2).take (p * 2)) (hb : b = (l.flatMap c2).drop (p * 2)) : a ++ ([(.int .i64 x), (.int .i64 y)] ++ b) = (l.take p ++ (x, y) :: l.drop p).flatMap c2 := by
  rw [ha, hb, fm_take, fm_drop, List.flatMap_append, List.flatMap_cons]
  rfl
theorem rdl_take {w0 : World} {L : List Res} {A : Option Addr} {xs : List Value} {k : Nat} (h : RdL w0 L A xs) : RdL w0 L A (xs.take k) := fun w hS => by
  rcases h w hS with hn | ⟨g, o, hA, hc⟩
  · rw [hn]; exact .inl (by simp)
  · exact .inr ⟨g, o, hA, fun j u hu => by
      rw [List.getElem?_take] at hu
      split at hu
      · exact hc j u hu
      · cases hu⟩
theorem rdl_drop {w0 : World} {L : List Res} {g o : Nat} {xs : List Value} (h : RdL w0 L (some ⟨g, o, none⟩) xs) (p : Nat) : RdL w0 L (some ⟨g, o + p * 2, none⟩) (xs.drop (p * 2)) := fun w hS => by
  rcases h w hS with hn | ⟨g', o', hA, hc⟩
  · rw [hn]; exact .inl (by simp)
  · injection hA with hA
    injection hA with e1 e2
    subst e1 e2
    exact .inr ⟨g, o + p * 2, rfl, fun j u hu => by
      rw [List.getElem?_drop] at hu
      have := hc (p * 2 + j) u hu
      rwa [← Nat.add_assoc] at this⟩
theorem apartS {P : Program} {w w0 : World} {L : List Res} {i j : Nat} {e n cp g o b off n' cp' : Nat} {xs cs : List Value} {tS tR : TypeId} (hS : St w0 w L) (hi : lget L i = some (vec e 2 (.slice (some ⟨g, o, none⟩) n cp) n xs)) (hj : lget L j = some (blk b cs)) (hne : i ≠ j) (hn : 0 < n) (hu : P.underlying tS = some (.slice e)) (hs : ∀ w, (sizeOf e).run P w = .ok 2 w) (lo : Nat) :
    (Extern.SlicesOverlaps.overlaps #[tS, tS] #[tR] #[.slice (some ⟨b, off, none⟩) n' cp', .slice (some ⟨g, o + lo * 2, none⟩) (n - lo) (cp - lo)]).run P w = .ok (.bool false) w := by
  obtain ⟨hl, ⟨h1, _⟩ | ⟨g', o', cp'', cur, h1, h2, h3, h4, h5, h6⟩⟩ := hS.holds i _ hi
  · cases h1
  injection h1 with e1 _ e3
  injection e1 with e1
  injection e1 with e1 e4
  subst e1 e4 e3
  obtain ⟨T, hb⟩ := hS.holds j _ hj
  have hbg : b ≠ g := fun e1 => by
    subst e1
    exact hS.sep i j _ _ hi hj hne b (by simp [vec, Value.ownBlock]) (by simp [blk])
  refine Lib.run_overlaps_apart w tS tR e hu 2 hs ⟨b, off, none⟩ ⟨g, o + lo * 2, none⟩ n' cp' (n - lo) (cp - lo) hbg T e cs.toArray.size cur.size ?_ ?_ ?_ ?_ ?_
  · simp [World.shape?, hb]
  · simp [World.shape?, h2]
  · omega
  · simp [World.frozen?, hb]
  · simp [World.frozen?, hb]
theorem seg2 {a b c : List Value} {p : Nat} (h : a.length = p) : (a ++ b ++ c).take p = a ∧ (a ++ b ++ c).drop p = b ++ c := by
  subst h
  rw [List.append_assoc]
  exact ⟨List.take_left, List.drop_left⟩
theorem ins_grow {l : List (Int × Int)} {n p : Nat} {x y : Int} {z : List Value} (h : l.length = n) (hp : p < n) (hz : z.length = (n + 1 - p) * 2) :
    ((((l.flatMap c2).take (p * 2) ++ z).take (p * 2) ++ [Value.int .i64 x, Value.int .i64 y].take (min 1 (n + 1 - p) * 2) ++ ((l.flatMap c2).take (p * 2) ++ z).drop (p * 2 + min 1 (n + 1 - p) * 2)).take ((p + 1) * 2) ++ ((l.flatMap c2).drop (p * 2)).take (min (n - p) (n + 1 - (p + 1)) * 2) ++ (((l.flatMap c2).take (p * 2) ++ z).take (p * 2) ++ [Value.int .i64 x, Value.int .i64 y].take (min 1 (n + 1 - p) * 2) ++ ((l.flatMap c2).take (p * 2) ++ z).drop (p * 2 + min 1 (n + 1 - p) * 2)).drop ((p + 1) * 2 + min (n - p) (n + 1 - (p + 1)) * 2)) = (l.take p ++ (x, y) :: l.drop p).flatMap c2 := by
  have hl := lenK h
  have hal : ((l.flatMap c2).take (p * 2)).length = p * 2 := by rw [List.length_take, hl]; omega
  have hbl : ((l.flatMap c2).drop (p * 2)).length = (n - p) * 2 := by rw [List.length_drop, hl]; omega
  rw [show min 1 (n + 1 - p) = 1 by omega, show min (n - p) (n + 1 - (p + 1)) = n - p by omega, show (p + 1) * 2 = p * 2 + 2 by omega, Nat.one_mul]
  rw [← ins_cells (x := x) (y := y) (vs := z) h hp rfl rfl]
  generalize (l.flatMap c2).take (p * 2) = a at *
  generalize (l.flatMap c2).drop (p * 2) = b at *
  rw [List.take_left' hal, show p * 2 + 2 = (a ++ [Value.int .i64 x, Value.int .i64 y]).length by simp [hal]]
  rw [show [Value.int .i64 x, Value.int .i64 y].take 2 = [Value.int .i64 x, Value.int .i64 y] from rfl, List.take_left, List.take_of_length_le (by omega), List.append_assoc, List.append_assoc]
  congr 1
  rw [List.append_assoc]
  congr 1
  rw [List.drop_eq_nil_of_le, List.append_nil]
  simp only [List.length_append, List.length_drop, hal, hz, List.length_cons, List.length_nil]
  omega
theorem room_one {l : List (Int × Int)} {n p : Nat} {vs : List Value} (h : l.length = n) (hp : p < n) : ∀ u ∈ ((l.flatMap c2 ++ vs).drop (p * 2)).take (min (n + 1 - p) (n + 1 - (p + 1)) * 2), u.oneCell' = true := fun u hu => by
  rw [show min (n + 1 - p) (n + 1 - (p + 1)) = n - p by omega, List.drop_append_of_le_length (by rw [lenK h]; omega), List.take_left' (by rw [List.length_drop, lenK h]; omega)] at hu
  exact fm_one u (List.mem_of_mem_drop hu)
theorem ins_room {l : List (Int × Int)} {n p : Nat} {x y : Int} {vs : List Value} (h : l.length = n) (hp : p < n) (hv : vs.length = 2) :
    (((l.flatMap c2 ++ vs).take ((p + 1) * 2) ++ ((l.flatMap c2 ++ vs).drop (p * 2)).take (min (n + 1 - p) (n + 1 - (p + 1)) * 2) ++ (l.flatMap c2 ++ vs).drop ((p + 1) * 2 + min (n + 1 - p) (n + 1 - (p + 1)) * 2)).take (p * 2) ++ [Value.int .i64 x, Value.int .i64 y].take (min 1 (n + 1 - p) * 2) ++ ((l.flatMap c2 ++ vs).take ((p + 1) * 2) ++ ((l.flatMap c2 ++ vs).drop (p * 2)).take (min (n + 1 - p) (n + 1 - (p + 1)) * 2) ++ (l.flatMap c2 ++ vs).drop ((p + 1) * 2 + min (n + 1 - p) (n + 1 - (p + 1)) * 2)).drop (p * 2 + min 1 (n + 1 - p) * 2)) = (l.take p ++ (x, y) :: l.drop p).flatMap c2 := by
  have hl := lenK h
  rw [show min 1 (n + 1 - p) = 1 by omega, show min (n + 1 - p) (n + 1 - (p + 1)) = n - p by omega, show (p + 1) * 2 = p * 2 + 2 by omega, Nat.one_mul, show p * 2 + 2 + (n - p) * 2 = n * 2 + 2 by omega]
  have hbl : ((l.flatMap c2).drop (p * 2)).length = (n - p) * 2 := by rw [List.length_drop, hl]; omega
  have e1 : ((l.flatMap c2 ++ vs).drop (p * 2)).take ((n - p) * 2) = (l.flatMap c2).drop (p * 2) := by
    rw [List.drop_append_of_le_length (by omega), List.take_left' hbl]
  have e2 : (l.flatMap c2 ++ vs).drop (n * 2 + 2) = [] := List.drop_eq_nil_of_le (by rw [List.length_append, hl, hv]; omega)
  have e3 : ((l.flatMap c2 ++ vs).take (p * 2 + 2)).length = p * 2 + 2 := by rw [List.length_take, List.length_append, hl, hv]; omega
  rw [e1, e2, List.append_nil, List.drop_left' e3, List.take_append_of_le_length (by omega), List.take_take, show min (p * 2) (p * 2 + 2) = p * 2 by omega, List.take_append_of_le_length (by omega)]
  rw [← ins_cells (x := x) (y := y) (vs := vs) h hp rfl rfl, List.append_assoc]
  rfl
set_option maxRecDepth 100000 in
set_option maxHeartbeats 4000000 in
theorem insertK {w0 w : World} {T : List Res} {A : Option Addr} {n c vb p : Nat} {l : List (Int × Int)} {x y : Int} (hS : St w0 w (vec 134 2 (.slice A n c) n (l.flatMap c2) :: blk vb [(.int .i64 x), (.int .i64 y)] :: T)) (hn : l.length = n) (h16 : n ≤ 100000) (hp : p ≤ n) :
    Calls Try.prog 158 #[.slice A n c, (.int .i64 ((p : Int))), .slice (some ⟨vb, 0, none⟩) 1 1] w fun e w' => ∃ q : Vs, (q.n = n + 1 ∧ q.xs = (l.take p ++ (x, y) :: l.drop p).flatMap c2) ∧ e = .returned (.slice q.A q.n q.c) ∧ St w0 w' (vec 134 2 (.slice q.A q.n q.c) q.n q.xs :: T) := by
  have hA : 0 < n → ∃ g o, A = some ⟨g, o, none⟩ := fun h => (hS.holds 0 _ rfl).addr h
  have hnc : n ≤ c := (hS.holds 0 _ rfl).rd.2.1
  refine calls_tr Try.func158 Try.ntmps158 rfl rfl hS ?_
  refine tr_seq ?_
  refine tr_region ?_
  refine tl_step rfl (oj_val (y_assign fe_c) ?_)
  refine tl_nil ?_
  refine tx_then ?_
  refine tr_seq ?_
  refine tr_region ?_
  refine tl_step rfl (oj_val (y_move (fe_t rfl)) ?_)
  refine tl_step rfl (oj_val (y_move (fe_t rfl)) ?_)
  refine tl_step rfl (oj_val (y_cutL (l := p) Try.underlying127 Try.sizeOf134 (fe_t rfl) (fe_t rfl) (by omega)) ?_)
  refine tl_nil ?_
  refine tx_then ?_
  refine tr_seq ?_
  refine tr_region ?_
  refine tl_step rfl (oj_val (y_move (fe_t rfl)) ?_)
  refine tl_step rfl (oj_val (y_len Try.underlying127 (fe_t rfl)) ?_)
  refine tl_step rfl (oj_val (y_assign (fe_t rfl)) ?_)
  refine tl_nil ?_
  refine tx_then ?_
  refine tr_seq ?_
  refine tr_seq ?_
  refine tr_region ?_
  refine tl_step rfl (oj_val (y_move (fe_t rfl)) ?_)
  refine tl_step rfl (oj_val (y_eq (fe_t rfl) fe_c) ?_)
  refine tl_nil ?_
  refine tx_then ?_
  refine tr_condp (fe_t rfl) (fun hq1 => ?_) (fun hq2 => ?_)
  · exfalso; omega
  · try (exfalso; omega)
    all_goals
      refine tr_skip ?_
      refine tx_then ?_
      refine tr_seq ?_
      refine tr_region ?_
      refine tl_step rfl (oj_val (y_move (fe_t rfl)) ?_)
      refine tl_step rfl (oj_val (y_len Try.underlying127 (fe_t rfl)) ?_)
      refine tl_step rfl (oj_val (y_assign (fe_t rfl)) ?_)
      refine tl_nil ?_
      refine tx_then ?_
      refine tr_seq ?_
      refine tr_seq ?_
      refine tr_region ?_
      refine tl_step rfl (oj_val (y_move (fe_t rfl)) ?_)
      refine tl_step rfl (oj_val (y_move (fe_t rfl)) ?_)
      refine tl_step rfl (oj_val (y_eq (fe_t rfl) (fe_t rfl)) ?_)
      refine tl_nil ?_
      refine tx_then ?_
      refine tr_condp (fe_t rfl) (fun hq3 => ?_) (fun hq4 => ?_)
      · try (exfalso; omega)
        all_goals
          refine tr_seq ?_
          refine tr_region ?_
          refine tl_step rfl (oj_val (y_move (fe_t rfl)) ?_)
          refine tl_step rfl (oj_val (y_move (fe_t rfl)) ?_)
          refine tl_step rfl (oj_append (i := 0) (s := 2) (z := (.agg #[.int .i64 0, .int .i64 0])) (bytes := 16) Try.underlying127 (by kernel_rfl) (fe_t rfl) (fe_t rfl) rfl (rdl_blk 1 rfl) rfl (by decide) (by first | exact oneI | exact oneF (fun _ => rfl) | exact fun u hu => List.all_eq_true.1 (show List.all _ (fun x => x.oneCell') = true from rfl) u hu | (intro u hu; revert u hu; simp [Value.oneCell'])) (by decide) ⟨by omega, by decide⟩ (fun Aa1 ca1 hca1 => ?_))
          refine tl_step rfl (oj_val (y_assign (fe_t rfl)) ?_)
          refine tl_nil ?_
          refine tx_then ?_
          refine tr_ret ?_
          refine tx_then_ret ?_
          refine tx_ret (res1 Try.results158 (rok_t rfl)) (fun w' hS => ?_)
          have h1 := pickT (l := [_, _]) hS [0] rfl (by decide)
          exact ⟨⟨_, _, _, _⟩, ⟨rfl, by dsimp only; rw [List.take_of_length_le (by omega), List.drop_eq_nil_of_le (by omega), List.flatMap_append]; rfl⟩, rfl, h1⟩
      · try (exfalso; omega)
        all_goals
          have hpn : p < n := by omega
          obtain ⟨ga, o, rfl⟩ := hA (by omega)
          refine tr_skip ?_
          refine tx_then ?_
          refine tr_seq ?_
          refine tr_seq ?_
          refine tr_region ?_
          refine tl_step rfl (oj_val (y_move (fe_t rfl)) ?_)
          refine tl_step rfl (oj_val (y_move (fe_t rfl)) ?_)
          refine tl_step rfl (oj_val (y_add (fe_t rfl) (fe_t rfl) (by omega)) ?_)
          refine tl_step rfl (oj_val (y_move (fe_t rfl)) ?_)
          refine tl_step rfl (oj_val (y_cap Try.underlying127 (fe_t rfl)) ?_)
          refine tl_step rfl (oj_val (y_gtr (fe_t rfl) (fe_t rfl)) ?_)
          refine tl_nil ?_
          refine tx_then ?_
          refine tr_condp (fe_t rfl) (fun hq5 => ?_) (fun hq6 => ?_)
          · try (exfalso; omega)
            all_goals
              refine tr_seq ?_
              refine tr_region ?_
              refine tl_step rfl (oj_val (y_move (fe_t rfl)) ?_)
              refine tl_step rfl (oj_val (y_move (fe_t rfl)) ?_)
              refine tl_step rfl (oj_val (y_cutH (l := p) Try.underlying127 Try.sizeOf134 (fe_t rfl) (fe_t rfl) (by omega)) ?_)
              refine tl_step rfl (oj_val (y_move (fe_t rfl)) ?_)
              refine tl_step rfl (oj_val (y_move (fe_t rfl)) ?_)
              refine tl_step rfl (oj_val (y_add (fe_t rfl) (fe_t rfl) (by omega)) ?_)
              refine tl_step rfl (oj_val (y_move (fe_t rfl)) ?_)
              refine tl_step rfl (oj_val (y_sub (fe_t rfl) (fe_t rfl) (by omega)) ?_)
              refine tl_step rfl (oj_appzS (s := 2) (q := p) (m := n + 1 - p) (z := .agg #[(.int .i64 0), (.int .i64 0)]) (bytes := 16) (xs := (l.flatMap c2).take (p * 2)) Try.underlying127 Try.underlying3 (by kernel_rfl) (fe_t rfl) (fe_i (by omega) rfl) (rdl_take (rdl_vec 0 rfl)) (by rw [List.length_take, lenK hn]; omega) ⟨rfl, by decide⟩ (by omega) ⟨by omega, by omega⟩ (by decide) (fun b9 c9 hc9 => ?_))
              refine tl_step rfl (oj_val (y_assign (fe_t rfl)) ?_)
              refine tl_nil ?_
              refine tx_then ?_
              refine tr_seq ?_
              refine tr_region ?_
              refine tl_step rfl (oj_val (y_move (fe_t rfl)) ?_)
              refine tl_step rfl (oj_val (y_move (fe_t rfl)) ?_)
              refine tl_step rfl (oj_val (y_cutS2 (p) Try.underlying127 Try.sizeOf134 (fe_t rfl) (fe_t rfl) (by omega) (by omega)) ?_)
              refine tl_step rfl (oj_val (y_move (fe_t rfl)) ?_)
              refine tl_step rfl (oj_copyW (s := 2) (lo := p) 0 Try.underlying127 (by kernel_rfl) (fe_t rfl) (fe_t rfl) rfl (rdl_blk 2 rfl) (by simp; omega) (by omega) (by omega) (fun u hu => by have := List.mem_of_mem_take hu; simp at this; rcases this with rfl | rfl <;> rfl) (?_))
              refine tl_nil ?_
              refine tx_then ?_
              refine tr_seq ?_
              refine tr_draw (sel _ [1, 2]) (fun w h => h.sel _ rfl (by decide)) rfl ?_
              refine ta_float (i := 0) rfl (by kernel_rfl) (wants_none rfl) (yq_of (y_move (fe_t rfl))) ?_
              refine ta_float (i := 1) rfl (by kernel_rfl) (wants_none rfl) (yq_of (y_move (fe_t rfl))) ?_
              refine ta_float (i := 2) rfl (by kernel_rfl) (wants_none rfl) (yq_of (y_move (fe_t rfl))) ?_
              refine ta_float (i := 3) rfl (by kernel_rfl) (wants_none rfl) (yq_of (y_add (fe_t rfl) (fe_t rfl) (by omega))) ?_
              refine ta_float (i := 4) rfl (by kernel_rfl) (wants_none rfl) (yq_of (y_cutS2 (p + 1) Try.underlying127 Try.sizeOf134 (fe_t rfl) (fe_i (by omega) rfl) (by omega) (by omega))) ?_
              refine ta_float (i := 5) rfl (by kernel_rfl) (wants_none rfl) (yq_of (y_move (fe_t rfl))) ?_
              refine ta_float (i := 6) rfl (by kernel_rfl) (wants_none rfl) (yq_of (y_move (fe_t rfl))) ?_
              refine ta_float (i := 7) rfl (by kernel_rfl) (wants_none rfl) (yq_of (y_cutS2 (p) Try.underlying127 Try.sizeOf134 (fe_t rfl) (fe_t rfl) (by omega) (by omega))) ?_
              refine ta_one (i := 8) rfl (by kernel_rfl) (wants_none rfl) (oj_copyW (s := 2) (lo := p + 1) 0 Try.underlying127 (by kernel_rfl) (fe_t rfl) (fe_t rfl) rfl ((rdl_drop (rdl_vec 1 rfl) p)) (by rw [List.length_drop, lenK hn]; omega) (by omega) (by omega) (fun u hu => fm_one u (List.mem_of_mem_drop (List.mem_of_mem_take hu))) (⟨fun w h => h.pick [1, 2] _ rfl (by decide), ?_⟩))
              refine ta_done (by kernel_rfl) ?_
              refine tx_then ?_
              refine tr_seq ?_
              refine tr_region ?_
              refine tl_step rfl (oj_val (y_move (fe_t rfl)) ?_)
              refine tl_step rfl (oj_val (y_assign (fe_t rfl)) ?_)
              refine tl_nil ?_
              refine tx_then ?_
              refine tr_ret ?_
              refine tx_then_ret ?_
              refine tx_ret (res1 Try.results158 (rok_t rfl)) (fun w' hS => ?_)
              have h1 := pickT (l := [_, _, _]) hS [0] rfl (by decide)
              exact ⟨⟨_, n + 1, _, (l.take p ++ (x, y) :: l.drop p).flatMap c2⟩, ⟨rfl, rfl⟩, by first | rfl | rw [show p + (n + 1 - p) = n + 1 by omega], by rw [← ins_grow (x := x) (y := y) (z := (Builtin.zeroCells (Value.agg #[(.int .i64 0), (.int .i64 0)]).cells (n + 1 - p)).toList) hn hpn (by rw [Array.length_toList, size_zeroCells]; rfl)]; first | exact h1 | (simp only [show p + (n + 1 - p) = n + 1 by omega] at h1; exact h1)⟩
          · try (exfalso; omega)
            all_goals
              refine tr_skip ?_
              refine tx_then ?_
              refine tr_seq ?_
              refine tr_region ?_
              refine tl_step rfl (oj_val (y_move (fe_t rfl)) ?_)
              refine tl_step rfl (oj_val (y_move (fe_t rfl)) ?_)
              refine tl_step rfl (oj_val (y_move (fe_t rfl)) ?_)
              refine tl_step rfl (oj_val (y_add (fe_t rfl) (fe_t rfl) (by omega)) ?_)
              refine tl_step rfl (oj_val (y_cutH (l := n + 1) Try.underlying127 Try.sizeOf134 (fe_t rfl) (fe_i (by omega) rfl) (by omega)) ?_)
              refine tl_step rfl (oj_val (y_assign (fe_t rfl)) ?_)
              refine tl_nil ?_
              refine tx_then ?_
              refine tr_seq ?_
              refine tr_seq ?_
              refine tr_spareS 0 rfl (by omega) (fun vs hvs => ?_)
              refine tr_region ?_
              refine tl_step rfl (oj_val (y_move (fe_t rfl)) ?_)
              refine tl_step rfl (oj_val (y_move (fe_t rfl)) ?_)
              refine tl_step rfl (oj_val (y_move (fe_t rfl)) ?_)
              refine tl_step rfl (oj_val (y_move (fe_t rfl)) ?_)
              refine tl_step rfl (oj_val (y_add (fe_t rfl) (fe_t rfl) (by omega)) ?_)
              refine tl_step rfl (oj_val (y_cutS2 (p + 1) Try.underlying127 Try.sizeOf134 (fe_t rfl) (fe_i (by omega) rfl) (by omega) (by omega)) ?_)
              refine tl_step rfl (oj_val (y_extS (fun w hS => by rw [run_callFunc_extern Try.func183 (by kernel_rfl) (by kernel_rfl) (by kernel_rfl) (e := Extern.SlicesOverlaps.overlaps #[127, 127] #[4]) (by kernel_rfl), apartS hS (i := 0) (j := 1) rfl rfl (by decide) (by omega) Try.underlying127 Try.sizeOf134 (p + 1)]; rfl) fe_f (fel_cons (fe_t rfl) (fel_cons (fe_t rfl) fel_nil))) ?_)
              refine tl_step rfl (oj_val (y_not (fe_t rfl)) ?_)
              refine tl_nil ?_
              refine tx_then ?_
              refine tr_condt (fe_t rfl) ?_
              refine tr_seq ?_
              refine tr_draw (sel _ [1]) (fun w h => h.sel _ rfl (by decide)) rfl ?_
              refine ta_float (i := 0) rfl (by kernel_rfl) (wants_none rfl) (yq_of (y_move (fe_t rfl))) ?_
              refine ta_float (i := 1) rfl (by kernel_rfl) (wants_none rfl) (yq_of (y_move (fe_t rfl))) ?_
              refine ta_float (i := 2) rfl (by kernel_rfl) (wants_none rfl) (yq_of (y_move (fe_t rfl))) ?_
              refine ta_float (i := 3) rfl (by kernel_rfl) (wants_none rfl) (yq_of (y_add (fe_t rfl) (fe_t rfl) (by omega))) ?_
              refine ta_float (i := 4) rfl (by kernel_rfl) (wants_none rfl) (yq_of (y_cutS2 (p + 1) Try.underlying127 Try.sizeOf134 (fe_t rfl) (fe_i (by omega) rfl) (by omega) (by omega))) ?_
              refine ta_float (i := 5) rfl (by kernel_rfl) (wants_none rfl) (yq_of (y_move (fe_t rfl))) ?_
              refine ta_float (i := 6) rfl (by kernel_rfl) (wants_none rfl) (yq_of (y_move (fe_t rfl))) ?_
              refine ta_float (i := 7) rfl (by kernel_rfl) (wants_none rfl) (yq_of (y_cutS2 (p) Try.underlying127 Try.sizeOf134 (fe_t rfl) (fe_t rfl) (by omega) (by omega))) ?_
              refine ta_one (i := 8) rfl (by kernel_rfl) (wants_none rfl) (oj_copyW (s := 2) (lo := p + 1) 0 Try.underlying127 (by kernel_rfl) (fe_t rfl) (fe_t rfl) rfl ((rdl_drop (rdl_vec 0 rfl) p)) (by rw [List.length_drop, List.length_append, lenK hn, hvs]; omega) (by omega) (by omega) (fun u hu => room_one hn hpn u (by first | exact hu | simpa using hu)) (⟨fun w h => h.pick [1] _ rfl (by decide), ?_⟩))
              refine ta_done (by kernel_rfl) ?_
              refine tx_then ?_
              refine tr_seq ?_
              refine tr_region ?_
              refine tl_step rfl (oj_val (y_move (fe_t rfl)) ?_)
              refine tl_step rfl (oj_val (y_move (fe_t rfl)) ?_)
              refine tl_step rfl (oj_val (y_cutS2 (p) Try.underlying127 Try.sizeOf134 (fe_t rfl) (fe_t rfl) (by omega) (by omega)) ?_)
              refine tl_step rfl (oj_val (y_move (fe_t rfl)) ?_)
              refine tl_step rfl (oj_copyW (s := 2) (lo := p) 0 Try.underlying127 (by kernel_rfl) (fe_t rfl) (fe_t rfl) rfl (rdl_blk 1 rfl) (by simp; omega) (by omega) (by omega) (fun u hu => by have := List.mem_of_mem_take hu; simp at this; rcases this with rfl | rfl <;> rfl) (?_))
              refine tl_nil ?_
              refine tx_then ?_
              refine tr_seq ?_
              refine tr_region ?_
              refine tl_step rfl (oj_val (y_move (fe_t rfl)) ?_)
              refine tl_step rfl (oj_val (y_assign (fe_t rfl)) ?_)
              refine tl_nil ?_
              refine tx_then ?_
              refine tr_ret ?_
              refine tx_then_ret ?_
              refine tx_ret (res1 Try.results158 (rok_t rfl)) (fun w' hS => ?_)
              have h1 := pickT (l := [_, _]) hS [0] rfl (by decide)
              exact ⟨⟨_, n + 1, _, (l.take p ++ (x, y) :: l.drop p).flatMap c2⟩, ⟨rfl, rfl⟩, by first | rfl | rw [show p + (n + 1 - p) = n + 1 by omega], by rw [← ins_room (x := x) (y := y) (vs := vs) hn hpn hvs]; first | exact h1 | (simp only [show p + (n + 1 - p) = n + 1 by omega] at h1; exact h1)⟩

end Go.Proofs.Ytcpdelkamckmfaa.Heavy
