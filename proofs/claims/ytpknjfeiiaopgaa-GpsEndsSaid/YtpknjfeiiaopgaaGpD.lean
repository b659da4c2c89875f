/- Walks: the reference, MEnd. -/
import Derived.Test.YtpknjfeiiaopgaaGpA
import Derived.Test.YtpknjfeiiaopgaaFlO
namespace Go.Proofs.Ytpknjfeiiaopgaa.Gps
open Go.RowKit Go.Proofs.Ytpknjfeiiaopgaa.E Go.Proofs.Ytpknjfeiiaopgaa.Big Go.Proofs.Ytpknjfeiiaopgaa.Frac

set_option maxRecDepth 100000 in
set_option maxHeartbeats 16000000 in
theorem mendE (A B : Option Addr) (n m c d : Nat) (bs ws : List Int) (w : World) (hb : Rd w A (bs.map (.int .i64))) (hw : Rd w B (ws.map (.int .i64))) (hbl : bs.length = n) (hwl : ws.length = m) (hn : n ≤ 140737488355328) (hm : m ≤ 140737488355328) (hz : wr bs ws = 0) :
    Calls Try.prog 37 #[.slice A n c, .slice B m d] w fun e w' => ∃ r : BE × List (Option Nat), (r.2.length = n ∧ ∀ k, k < n → ∃ p, gO r.2 k = some p ∧ Q r.1.es p (mkRat (eN bs ws n k) (gI ws k).toNat)) ∧ e = .returned (.slice (some ⟨r.1.b, 0, none⟩) n n) ∧ St w w' [vec 72 1 (.slice (some ⟨r.1.b, 0, none⟩) n n) n (r.2.map PO), bag r.1.H r.1.D r.1.es] := by
  refine calls_tr Try.func37 Try.ntmps37 rfl rfl (St.refl _) ?_
  refine tr_seq ?_
  refine tr_region ?_
  refine tl_step rfl (oj_val (y_assign fe_c) ?_)
  refine tl_nil ?_
  refine tx_then ?_
  refine tr_seq ?_
  have hrg := wr_rg hz
  rw [hbl] at hrg
  have hn16 := hrg.n16
  have hwl2 := hrg.wl
  have hwr : ∀ i, i < n → 0 < gI ws i ∧ gI ws i ≤ 1000 := fun i hi => by have h9 := (hrg.ok i hi).2; omega
  refine tr_region ?_
  refine tl_step rfl (oj_val (y_move (fe_t rfl)) ?_)
  refine tl_step rfl (oj_val (y_len Try.underlying27 (fe_t rfl)) ?_)
  refine tl_step rfl (oj_make (z := (.pointer none)) (bytes := 8) Try.underlying70 (by kernel_rfl) (fe_t rfl) (fe_t rfl) rfl ⟨by omega, by decide⟩ (fun gl => ?_))
  refine tl_step rfl (oj_val (y_assign (fe_t rfl)) ?_)
  refine tl_nil ?_
  refine tx_then ?_
  refine tr_seq ?_
  refine tr_region ?_
  refine tl_step rfl (oj_val (y_move (fe_t rfl)) ?_)
  refine tl_step rfl (oj_val (y_len Try.underlying27 (fe_t rfl)) ?_)
  refine tl_step rfl (oj_make (z := (.pointer none)) (bytes := 8) Try.underlying70 (by kernel_rfl) (fe_t rfl) (fe_t rfl) rfl ⟨by omega, by decide⟩ (fun ge => ?_))
  refine tl_step rfl (oj_val (y_assign (fe_t rfl)) ?_)
  refine tl_nil ?_
  refine tx_then ?_
  refine tr_seq ?_
  refine tr_seq ?_
  refine tr_as (r' := vec 72 1 (.slice (some ⟨gl, 0, none⟩) n n) n ((List.replicate n none).map PO)) 1 rfl (congrArg (vec _ _ _ _) (by simp [PO])) ?_
  refine tr_as (r' := vec 72 1 (.slice (some ⟨ge, 0, none⟩) n n) n ((List.replicate n none).map PO)) 0 rfl (congrArg (vec _ _ _ _) (by simp [PO])) ?_
  refine tr_region ?_
  refine tl_step rfl (oj_val (y_move (fe_t rfl)) ?_)
  refine tl_step rfl (oj_val (y_len Try.underlying27 (fe_t rfl)) ?_)
  refine tl_step rfl (oj_val (y_move fe_c) ?_)
  refine tl_nil ?_
  refine tx_then ?_
  refine tr_block ?_
  refine tr_add (r := bag [] [] []) bag_nil rfl ?_
  refine tr_loop5 [7, 8, 24, 25, 26, 27, 28, 29, 30, 31, 32, 33, 34] (fun (k : Nat) (lb : List (Option Nat)) (Hx : List Nat) (Dx : List Nat) (es0 : List Ent) => [(24, .int .i64 (k : Int))]) 0 (fun (k : Nat) (lb : List (Option Nat)) (Hx : List Nat) (Dx : List Nat) (es0 : List Ent) => [(2, vec 72 1 (.slice (some ⟨gl, 0, none⟩) n n) n (lb.map PO)), (0, bag Hx Dx es0)]) (fun (k : Nat) (lb : List (Option Nat)) (Hx : List Nat) (Dx : List Nat) (es0 : List Ent) => k ≤ n ∧ Li es0 (gI bs) n k lb) (fun (k : Nat) (lb : List (Option Nat)) (Hx : List Nat) (Dx : List Nat) (es0 : List Ent) => n - k) (0) (List.replicate n none) (_) (_) (_) (cov_cons (by first | rfl | exact v_int hws | exact v_int (by omega)) (cov_nil)) (fun w h => h) ?_ ?_
  · try dsimp only
    exact ⟨by omega, Li.zero _ _ _⟩
  intro k lb Hx Dx es0 hp
  obtain ⟨hk, hli⟩ := hp
  have hll := hli.len
  refine tr_seq ?_
  refine tr_region ?_
  refine tl_step rfl (oj_val (y_lss (fe_t rfl) (fe_t rfl)) ?_)
  refine tl_nil ?_
  refine tx_then ?_
  refine tr_seq ?_
  refine tr_condp (fe_t rfl) (fun hq1 => ?_) (fun hq2 => ?_)
  · try (exfalso; omega)
    all_goals
      refine tr_skip ?_
      refine tx_then ?_
      refine tr_seq ?_
      refine tr_block ?_
      refine tr_seq ?_
      refine tr_region ?_
      refine tl_step rfl (oj_val (y_move (fe_t rfl)) ?_)
      refine tl_step rfl (oj_val (y_index Try.underlying27 Try.sizeOf3 (fe_t rfl) (fe_t rfl) (rdl_out hb) (by simp; omega) (by decide) (by omega) (Nat.mul_one _)) ?_)
      refine tl_step rfl (oj_val (y_ld Try.isAgg3 (fe_t rfl) (rdl_out hb) (getG (zs := bs) (by omega))) ?_)
      refine tl_step rfl (oj_val (y_assign (fe_t rfl)) ?_)
      refine tl_step rfl (oj_val (y_assign (fe_t rfl)) ?_)
      refine tl_nil ?_
      refine tx_then ?_
      have hbk := (hrg.ok k (by omega)).1
      refine tr_region ?_
      refine tl_step rfl (oj_val (y_move (fe_t rfl)) ?_)
      refine tl_step rfl (oj_val (y_move (fe_t rfl)) ?_)
      refine tl_step rfl (oj_val (y_move (fe_t rfl)) ?_)
      refine tl_step rfl (oj_call2 Try.call38 fe_f (fel_cons (fe_t rfl) (fel_cons fe_c fel_nil)) (fun w' hS => newQ (hS.pick [0, 1, 2] [_, _, _] rfl (by decide)) (gI bs k) 1 (by omega) (by omega) (by decide) (by decide)) (fun r1 h1 => ?_))
      refine tl_step rfl (oj_val (y_index Try.underlying70 Try.sizeOf72 (fe_t rfl) (fe_t rfl) (rdl_vec 2 rfl) (by rw [List.length_map]; omega) (by decide) (by omega) (Nat.mul_one _)) ?_)
      refine tl_step rfl (oj_storeE1 (i := 2) Try.sizeOf72 (fe_t rfl) (fe_t rfl) rfl rfl rfl (by omega) (?_))
      refine tl_nil ?_
      refine tx_in ?_
      refine tx_then ?_
      refine tr_as (r' := vec 72 1 (.slice (some ⟨gl, 0, none⟩) n n) n ((lb.set k (some r1.b)).map PO)) 2 rfl (congrArg (vec _ _ _ _) (PO_set lb k r1.b)) ?_
      refine tr_region ?_
      refine tl_step rfl (oj_val (y_inc (fe_t rfl) fe_c (by omega)) ?_)
      refine tl_step rfl (oj_val (y_move (fe_t rfl)) ?_)
      refine tl_nil ?_
      apply tx_back5 (k + 1) (lb.set k (some r1.b)) (_) (_) (r1.es)
      · exact (cov_cons (by first | rfl | exact v_int hws | exact v_int (by omega)) (cov_nil))
      · repeat (first | exact over_nil | refine over_put rfl ?_ | refine over_drop rfl ?_)
      · exact fun w h => h.pick [0, 1, 2] _ rfl (by decide)
      · exact ⟨⟨by omega, hli.step (by omega) h1⟩, by omega⟩
  · try (exfalso; omega)
    all_goals
      refine tr_exit ?_
      refine tx_then_exit ?_
      refine tx_then_exit ?_
      refine tx_in_exit ?_
      refine tx_then ?_
      refine tr_seq ?_
      refine tr_region ?_
      refine tl_step rfl (oj_allocQ 0 Try.zeroValue150 rfl (fun nw Hn esn hn0 => ?_))
      refine tl_step rfl (oj_val (y_assign (fe_t rfl)) ?_)
      refine tl_nil ?_
      refine tx_then ?_
      refine tr_block ?_
      have hkn : k = n := by omega
      have hli2 := hli
      rw [hkn] at hli2
      have hm0 := mo_zero (e := eN bs ws n) hrg hli2 hn0
      have hrd0 := rd_zero hrg
      refine tr_loop7 [4, 9, 10, 11, 12, 13, 14, 15, 36, 37, 38, 39, 40, 41, 42, 43, 44, 45, 46, 47, 48, 49, 50, 51, 52, 53, 54, 55, 56, 57, 58, 59, 60, 61, 62, 63, 64, 65, 66, 67, 68, 69, 70, 71, 72, 73, 74, 75, 76, 77, 78, 79, 80, 81, 82, 83, 84, 85, 86, 87, 88, 89, 90, 91, 92, 93, 94, 95, 96, 97, 98, 99, 100, 101, 102, 103, 104, 105, 106, 107, 108, 109, 110, 111, 112, 113, 114, 115, 116, 117, 118, 119, 120, 121, 122, 123, 124, 125, 126] (fun (bv : Int) (wv : Int) (eb : List (Option Nat)) (nw1 : Nat) (Hx : List Nat) (Dx : List Nat) (es1 : List Ent) => [(9, P nw1)]) 0 (fun (bv : Int) (wv : Int) (eb : List (Option Nat)) (nw1 : Nat) (Hx : List Nat) (Dx : List Nat) (es1 : List Ent) => [(1, vec 72 1 (.slice (some ⟨ge, 0, none⟩) n n) n (eb.map PO)), (0, bag Hx Dx es1)]) (fun (bv : Int) (wv : Int) (eb : List (Option Nat)) (nw1 : Nat) (Hx : List Nat) (Dx : List Nat) (es1 : List Ent) => Mo es1 n lb eb (eN bs ws n) (gI ws) (fun i => mkRat (gI bs i * wv - gI ws i * bv) (wv).toNat) nw1 (mkRat (had (gI bs) (gI ws) bv wv n) (wv).toNat) ∧ Rd' n eb (gI bs) (gI ws) bv wv) (fun (bv : Int) (wv : Int) (eb : List (Option Nat)) (nw1 : Nat) (Hx : List Nat) (Dx : List Nat) (es1 : List Ent) => open_ (gI bs) (gI ws) bv wv n) (0) (1) (List.replicate n none) (nw) (_) (_) (esn) (cov_cons (by first | rfl | exact v_int hws | exact v_int (by omega)) (cov_nil)) (fun w h => h) ?_ ?_
      · try dsimp only
        exact ⟨hm0, hrd0⟩
      intro bv wv eb nw1 Hx Dx es1 hp
      obtain ⟨hm1, hrd1⟩ := hp
      have hel := hm1.el
      refine tr_block ?_
      refine tr_seq ?_
      refine tr_region ?_
      refine tl_step rfl (oj_val (y_assign fe_c) ?_)
      refine tl_nil ?_
      refine tx_then ?_
      refine tr_seq ?_
      refine tr_region ?_
      refine tl_step rfl (oj_val (y_assign fe_c) ?_)
      refine tl_nil ?_
      refine tx_then ?_
      refine tr_seq ?_
      refine tr_seq ?_
      refine tr_region ?_
      refine tl_step rfl (oj_val (y_move (fe_t rfl)) ?_)
      refine tl_step rfl (oj_val (y_len Try.underlying70 (fe_t rfl)) ?_)
      refine tl_step rfl (oj_val (y_move fe_c) ?_)
      refine tl_nil ?_
      refine tx_then ?_
      refine tr_block ?_
      refine tr_loop7 [10, 11, 12, 13, 14, 38, 39, 40, 41, 42, 43, 44, 45, 46, 47, 48, 49, 50, 51, 52, 53, 54, 55, 56, 57, 58, 59, 60, 61, 62, 63, 64, 65, 66, 67, 68, 69, 70, 71, 72, 73, 74, 75, 76, 77, 78, 79, 80, 81, 82, 83, 84, 85, 86, 87] (fun (j : Nat) (eb1 : List (Option Nat)) (Hy : List Nat) (Dy : List Nat) (es2 : List Ent) (nx : Option Nat) (q : Nat) => [(38, .int .i64 (j : Int)), (10, .int .i64 (wsum (gI bs) (gI ws) bv wv j)), (11, PO nx)]) 0 (fun (j : Nat) (eb1 : List (Option Nat)) (Hy : List Nat) (Dy : List Nat) (es2 : List Ent) (nx : Option Nat) (q : Nat) => [(1, vec 72 1 (.slice (some ⟨ge, 0, none⟩) n n) n (eb1.map PO)), (0, bag Hy Dy es2)]) (fun (j : Nat) (eb1 : List (Option Nat)) (Hy : List Nat) (Dy : List Nat) (es2 : List Ent) (nx : Option Nat) (q : Nat) => j ≤ n ∧ Mo es2 n lb eb1 (eN bs ws n) (gI ws) (fun i => mkRat (gI bs i * wv - gI ws i * bv) (wv).toNat) nw1 (mkRat (had (gI bs) (gI ws) bv wv n) (wv).toNat) ∧ Rd' n eb1 (gI bs) (gI ws) bv wv ∧ (∀ i, i < j → gO eb1 i = none → ¬ fin (gI bs) (gI ws) bv wv i) ∧ Nx es2 n lb (gI bs) (gI ws) bv wv j nx q) (fun (j : Nat) (eb1 : List (Option Nat)) (Hy : List Nat) (Dy : List Nat) (es2 : List Ent) (nx : Option Nat) (q : Nat) => n - j) (0) (eb) (_) (_) (es1) (none) (0) (cov_cons (by first | rfl | exact v_int hws | exact v_int (by omega)) (cov_cons (by first | rfl | exact v_int hws | exact v_int (by omega)) (cov_cons (by first | rfl | exact v_int hws | exact v_int (by omega)) (cov_nil)))) (fun w h => h) ?_ ?_
      · try dsimp only
        exact ⟨by omega, hm1, hrd1, fun i h => by omega, .inl ⟨rfl, fun i h => by omega⟩⟩
      intro j eb1 Hy Dy es2 nx q hp
      obtain ⟨hj, hm2, hrd2, hun, hnx⟩ := hp
      have hel1 := hm2.el
      obtain ⟨hw0, hw1⟩ := hrd2.wp
      obtain ⟨hb0, hb1⟩ := hrd2.bp
      refine tr_seq ?_
      refine tr_region ?_
      refine tl_step rfl (oj_val (y_lss (fe_t rfl) (fe_t rfl)) ?_)
      refine tl_nil ?_
      refine tx_then ?_
      refine tr_seq ?_
      refine tr_condp (fe_t rfl) (fun hq3 => ?_) (fun hq4 => ?_)
      · try (exfalso; omega)
        all_goals
          refine tr_skip ?_
          refine tx_then ?_
          refine tr_seq ?_
          refine tr_block ?_
          refine tr_seq ?_
          obtain ⟨lj, xj, hlj, hqj, hnj, hvj⟩ := hm2.lat j (by omega)
          refine tr_region ?_
          refine tl_step rfl (oj_val (y_move (fe_t rfl)) ?_)
          refine tl_step rfl (oj_val (y_index Try.underlying70 Try.sizeOf72 (fe_t rfl) (fe_t rfl) (rdl_vec 2 rfl) (by rw [List.length_map]; omega) (by decide) (by omega) (Nat.mul_one _)) ?_)
          refine tl_step rfl (oj_val (y_ld (v := P lj) Try.isAgg72 (fe_t rfl) (rdl_vec 2 rfl) (PO_at hlj)) ?_)
          refine tl_step rfl (oj_val (y_assign (fe_t rfl)) ?_)
          refine tl_step rfl (oj_val (y_assign (fe_t rfl)) ?_)
          refine tl_nil ?_
          refine tx_then ?_
          refine tr_seq ?_
          refine tr_seq ?_
          refine tr_region ?_
          refine tl_step rfl (oj_val (y_move (fe_t rfl)) ?_)
          refine tl_step rfl (oj_val (y_move (fe_t rfl)) ?_)
          refine tl_step rfl (oj_val (y_index Try.underlying70 Try.sizeOf72 (fe_t rfl) (fe_t rfl) (rdl_vec 1 rfl) (by rw [List.length_map]; (try rw [List.length_set]); omega) (by decide) (by omega) (Nat.mul_one _)) ?_)
          refine tl_step rfl (oj_val (y_ld (v := PO (gO eb1 j)) Try.isAgg72 (fe_t rfl) (rdl_vec 1 rfl) (PO_get (by omega))) ?_)
          refine tl_step rfl (oj_val (y_eqO Try.underlying72 (fe_t rfl) fe_c) ?_)
          refine tl_step rfl (oj_val (y_move (fe_t rfl)) ?_)
          refine tl_split (d := 48) rfl (fun hq5 => ?_) (fun hq6 => ?_)
          · try (exfalso; omega)
            all_goals
              have hej : gO eb1 j = none := Option.isNone_iff_eq_none.1 hq5
              have hxj := hvj hej
              subst hxj
              have hlej := hrd2.a j (by omega) hej
              have hLb := lft_bd (k := j) hrg (by omega) hw0 hw1 hb0 hlej
              refine tl_want rfl rfl rfl (oj_val (y_move (fe_t rfl)) ?_)
              refine tl_want rfl rfl rfl (oj_call2 Try.call75 fe_f (fel_cons (fe_t rfl) fel_nil) (fun w' hS => signQ (hS.pick [0, 1, 2] [_, _, _] rfl (by decide)) hqj hw0) (fun _ _ => ?_))
              refine tl_want rfl rfl rfl (oj_val (y_eq (fe_t rfl) fe_c) ?_)
              refine tl_step rfl (oj_val (y_pickt (fe_t rfl) (fe_t rfl)) ?_)
              refine tl_nil ?_
              refine tx_then ?_
              refine tr_condp (fe_t rfl) (fun hq7 => ?_) (fun hq8 => ?_)
              · try (exfalso; omega)
                all_goals
                  have heqj : gI bs j * wv = gI ws j * bv := by have h9 := Int.sign_eq_zero_iff_zero.1 hq7; omega
                  have hfj : fin (gI bs) (gI ws) bv wv j := Int.le_of_eq heqj
                  have hhb := had_bd (b := gI bs) (w := gI ws) (n := n) (fun i hi => (hrg.ok i hi).1) hwr hn16 hrd2.wp hrd2.bp
                  refine tr_region ?_
                  refine tl_step rfl (oj_val (y_move (fe_t rfl)) ?_)
                  refine tl_step rfl (oj_val (y_move (fe_t rfl)) ?_)
                  refine tl_step rfl (oj_allocQ 0 Try.zeroValue150 rfl (fun bz Hz ez hz5 => ?_))
                  refine tl_step rfl (oj_val (y_move (fe_t rfl)) ?_)
                  refine tl_step rfl (oj_call2 Try.call76 fe_f (fel_cons (fe_t rfl) (fel_cons (fe_t rfl) fel_nil)) (fun w' hS => setQ (hS.pick [0, 1, 2] [_, _, _] rfl (by decide)) hz5.1 (hz5.2.1 _ _ hm2.now) (⟨by omega, by omega, hw0, hw1⟩ : Bd (had (gI bs) (gI ws) bv wv n) wv 16777216000 1000) (by decide) (by decide)) (fun r5 h5 => ?_))
                  refine tl_step rfl (oj_val (y_index Try.underlying70 Try.sizeOf72 (fe_t rfl) (fe_t rfl) (rdl_vec 1 rfl) (by rw [List.length_map]; (try rw [List.length_set]); omega) (by decide) (by omega) (Nat.mul_one _)) ?_)
                  refine tl_step rfl (oj_storeE1 (i := 1) Try.sizeOf72 (fe_t rfl) (fe_t rfl) rfl rfl rfl (by omega) (?_))
                  refine tl_nil ?_
                  refine tx_then ?_
                  refine tr_seq ?_
                  refine tr_seq ?_
                  refine tr_as (r' := vec 72 1 (.slice (some ⟨ge, 0, none⟩) n n) n ((eb1.set j (some bz)).map PO)) 1 rfl (congrArg (vec _ _ _ _) (PO_set eb1 j bz)) ?_
                  have hM : More es2 r5.es := hz5.2.1.but hz5.2.2 h5.2
                  have hwk := hwr j (by omega)
                  have hm3 := (hm2.more hM).fin (k := j) (p := bz) (by omega) (by rw [mk_eq hwk.1 hw0 (end_eq (bs := bs) (ws := ws) hwk.1 hw0 heqj)]; exact h5.1) (hm2.nl hz5.2.2)
                  have hws := wsum_fin hfj
                  refine tr_region ?_
                  refine tl_step rfl (oj_val (y_move (fe_t rfl)) ?_)
                  refine tl_step rfl (oj_val (y_move (fe_t rfl)) ?_)
                  refine tl_step rfl (oj_val (y_index Try.underlying70 Try.sizeOf72 (fe_t rfl) (fe_t rfl) (rdl_vec 1 rfl) (by rw [List.length_map]; (try rw [List.length_set]); omega) (by decide) (by omega) (Nat.mul_one _)) ?_)
                  refine tl_step rfl (oj_val (y_ld (v := P bz) Try.isAgg72 (fe_t rfl) (rdl_vec 1 rfl) (PO_at (by rw [gO_set (by omega), if_pos rfl]))) ?_)
                  refine tl_step rfl (oj_val (y_neT Try.underlying72 (fe_t rfl) fe_c) ?_)
                  refine tl_nil ?_
                  refine tx_then ?_
                  refine tr_condt (fe_t rfl) ?_
                  refine tr_exit ?_
                  refine tx_then_exit ?_
                  refine tx_in_exit ?_
                  refine tx_then ?_
                  refine tr_region ?_
                  refine tl_step rfl (oj_val (y_inc (fe_t rfl) fe_c (by omega)) ?_)
                  refine tl_step rfl (oj_val (y_move (fe_t rfl)) ?_)
                  refine tl_nil ?_
                  apply tx_back7 (j + 1) ((eb1.set j (some bz))) (_) (_) (r5.es) (nx) (q)
                  · exact (cov_cons (by first | rfl | exact v_int hws | exact v_int (by omega)) (cov_cons (by first | rfl | exact v_int hws | exact v_int (by omega)) (cov_cons (by first | rfl | exact v_int hws | exact v_int (by omega)) (cov_nil))))
                  · repeat (first | exact over_nil | refine over_put rfl ?_ | refine over_drop rfl ?_)
                  · exact fun w h => h.pick [0, 1, 2] _ rfl (by decide)
                  · exact ⟨⟨by omega, hm3, hrd2.fin (by omega) (by omega) hfj, fun i hi h9 => by
                        rw [gO_set (by omega)] at h9
                        split at h9
                        · cases h9
                        · exact hun i (by omega) h9, (hnx.more hM).pass hfj⟩, by omega⟩
              · try (exfalso; omega)
                all_goals
                  have hfj : ¬ fin (gI bs) (gI ws) bv wv j := fun h9 => hq8 (Int.sign_eq_zero_iff_zero.2 (by unfold fin at h9; omega))
                  refine tr_skip ?_
                  refine tx_then ?_
                  refine tr_seq ?_
                  refine tr_seq ?_
                  refine tr_region ?_
                  refine tl_step rfl (oj_val (y_move (fe_t rfl)) ?_)
                  refine tl_step rfl (oj_val (y_move (fe_t rfl)) ?_)
                  refine tl_step rfl (oj_val (y_index Try.underlying70 Try.sizeOf72 (fe_t rfl) (fe_t rfl) (rdl_vec 1 rfl) (by rw [List.length_map]; (try rw [List.length_set]); omega) (by decide) (by omega) (Nat.mul_one _)) ?_)
                  refine tl_step rfl (oj_val (y_ld (v := .pointer none) Try.isAgg72 (fe_t rfl) (rdl_vec 1 rfl) (PO_no (by omega) hej)) ?_)
                  refine tl_step rfl (oj_val (y_neF Try.underlying72 (fe_t rfl) fe_c) ?_)
                  refine tl_nil ?_
                  refine tx_then ?_
                  refine tr_condf (fe_t rfl) ?_
                  refine tr_skip ?_
                  refine tx_then ?_
                  refine tr_seq ?_
                  have hwb := wsum_bd (b := gI bs) (bv := bv) (wv := wv) hwr hn16 (m := j) (by omega)
                  have hwk := hwr j (by omega)
                  have hws := wsum_not hfj
                  refine tr_region ?_
                  refine tl_step rfl (oj_val (y_move (fe_t rfl)) ?_)
                  refine tl_step rfl (oj_val (y_move (fe_t rfl)) ?_)
                  refine tl_step rfl (oj_val (y_move (fe_t rfl)) ?_)
                  refine tl_step rfl (oj_val (y_index Try.underlying27 Try.sizeOf3 (fe_t rfl) (fe_t rfl) (rdl_out hw) (by simp; omega) (by decide) (by omega) (Nat.mul_one _)) ?_)
                  refine tl_step rfl (oj_val (y_ld Try.isAgg3 (fe_t rfl) (rdl_out hw) (getG (zs := ws) (by omega))) ?_)
                  refine tl_step rfl (oj_val (y_add (fe_t rfl) (fe_t rfl) (by omega)) ?_)
                  refine tl_step rfl (oj_val (y_assign (fe_t rfl)) ?_)
                  refine tl_nil ?_
                  refine tx_then ?_
                  refine tr_seq ?_
                  refine tr_region ?_
                  refine tl_step rfl (oj_allocQ 0 Try.zeroValue150 rfl (fun by_ Hyy ey hy => ?_))
                  refine tl_step rfl (oj_val (y_move (fe_t rfl)) ?_)
                  refine tl_step rfl (oj_val (y_move (fe_t rfl)) ?_)
                  refine tl_step rfl (oj_val (y_move (fe_t rfl)) ?_)
                  refine tl_step rfl (oj_val (y_index Try.underlying27 Try.sizeOf3 (fe_t rfl) (fe_t rfl) (rdl_out hw) (by simp; omega) (by decide) (by omega) (Nat.mul_one _)) ?_)
                  refine tl_step rfl (oj_val (y_ld Try.isAgg3 (fe_t rfl) (rdl_out hw) (getG (zs := ws) (by omega))) ?_)
                  refine tl_step rfl (oj_call2 Try.call38 fe_f (fel_cons (fe_t rfl) (fel_cons fe_c fel_nil)) (fun w' hS => newQ (hS.pick [0, 1, 2] [_, _, _] rfl (by decide)) (gI ws j) 1 (by omega) (by omega) (by decide) (by decide)) (fun r6 h6 => ?_))
                  refine tl_step rfl (oj_call2 Try.call77 fe_f (fel_cons (fe_t rfl) (fel_cons (fe_t rfl) (fel_cons (fe_t rfl) fel_nil))) (fun w' hS => quoQ (hS.pick [0, 1, 2] [_, _, _] rfl (by decide)) (h6.2.1 _ _ hy.1) (h6.2.1 _ _ (hy.2.1 _ _ hqj)) h6.1 (⟨by omega, by omega, by omega, by omega⟩ : Bd (gI bs j * wv - gI ws j * bv) wv 1048576000 1000) (⟨by omega, by omega, by omega, by omega⟩ : Bd (gI ws j) 1 1000 1) (by omega) (by decide) (by decide) (by decide) (by decide)) (fun r7 h7 => ?_))
                  refine tl_step rfl (oj_val (y_assign (fe_t rfl)) ?_)
                  refine tl_nil ?_
                  refine tx_then ?_
                  refine tr_seq ?_
                  have hM : More es2 r7.es := (hy.2.1.trans h6.2.1).but (hy.2.2) h7.2
                  have hq7 : Q r7.es by_ (mkRat (gI bs j * wv - gI ws j * bv) (wv * gI ws j).toNat) := by have h9 := h7.1; rwa [Int.mul_one] at h9
                  have hpw := mul_in (Int.le_of_lt hw0) hw1 (Int.le_of_lt hwk.1) hwk.2
                  have hpp := Int.mul_pos hw0 hwk.1
                  refine tr_region ?_
                  refine tl_step rfl (oj_val (y_move (fe_t rfl)) ?_)
                  refine tl_step rfl (oj_val (y_eqO Try.underlying72 (fe_t rfl) fe_c) ?_)
                  refine tl_step rfl (oj_val (y_move (fe_t rfl)) ?_)
                  refine tl_split (d := 80) rfl (fun hq9 => ?_) (fun hq10 => ?_)
                  · try (exfalso; omega)
                    all_goals
                      refine tl_skip rfl rfl rfl rfl ?_
                      refine tl_skip rfl rfl rfl rfl ?_
                      refine tl_skip rfl rfl rfl rfl ?_
                      refine tl_skip rfl rfl rfl rfl ?_
                      refine tl_step rfl (oj_val (y_pickt (fe_t rfl) fe_c) ?_)
                      refine tl_nil ?_
                      refine tx_then ?_
                      refine tr_condt (fe_t rfl) ?_
                      refine tr_region ?_
                      refine tl_step rfl (oj_val (y_move (fe_t rfl)) ?_)
                      refine tl_step rfl (oj_val (y_assign (fe_t rfl)) ?_)
                      refine tl_nil ?_
                      refine tx_in ?_
                      refine tx_then ?_
                      refine tr_region ?_
                      refine tl_step rfl (oj_val (y_inc (fe_t rfl) fe_c (by omega)) ?_)
                      refine tl_step rfl (oj_val (y_move (fe_t rfl)) ?_)
                      refine tl_nil ?_
                      apply tx_back7 (j + 1) (eb1) (_) (_) (r7.es) (some by_) (j)
                      · exact (cov_cons (by first | rfl | exact v_int hws | exact v_int (by omega)) (cov_cons (by first | rfl | exact v_int hws | exact v_int (by omega)) (cov_cons (by first | rfl | exact v_int hws | exact v_int (by omega)) (cov_nil))))
                      · repeat (first | exact over_nil | refine over_put rfl ?_ | refine over_drop rfl ?_)
                      · exact fun w h => h.pick [0, 1, 2] _ rfl (by decide)
                      · exact ⟨⟨by omega, hm2.more hM, hrd2, fun i hi h9 => by
                            by_cases e9 : i = j
                            · rw [e9]; exact hfj
                            · exact hun i (by omega) h9, (hnx.more hM).take (fun i hi => (hwr i (by omega)).1) hfj (.inl (by assumption)) hq7 ((hm2.nl hy.2.2))⟩, by omega⟩
                  · try (exfalso; omega)
                    all_goals
                      obtain ⟨np, hnp, hNn, hNq, hNl⟩ := hnx.some hq10
                      have hqk := hwr q (by have := hNn.lt; omega)
                      have hpq := mul_in (Int.le_of_lt hw0) hw1 (Int.le_of_lt hqk.1) hqk.2
                      have hqq := Int.mul_pos hw0 hqk.1
                      have hLq := nxt_bd hrg hNn (by omega) hw0 hw1 hb0
                      refine tl_want rfl rfl rfl (oj_val (y_move (fe_t rfl)) ?_)
                      refine tl_want rfl rfl rfl (oj_val (y_move (fe_t rfl)) ?_)
                      refine tl_want rfl rfl rfl (oj_call2 Try.call39 fe_f (fel_cons (fe_t rfl) (fel_cons (fe_v (congrArg PO hnp) (fe_t rfl)) fel_nil)) (fun w' hS => cmpQ (hS.pick [0, 1, 2] [_, _, _] rfl (by decide)) hq7 (hM _ _ hNq) (⟨by omega, by omega, hpp, by omega⟩ : Bd (gI bs j * wv - gI ws j * bv) (wv * gI ws j) 1048576000 1000000) (⟨by omega, by omega, by omega, by omega⟩ : Bd (gI bs q * wv - gI ws q * bv) (wv * gI ws q) 1048576000 1000000) (by decide) (by decide) (by decide)) (fun _ _ => ?_))
                      refine tl_want rfl rfl rfl (oj_val (y_lss (fe_t rfl) fe_c) ?_)
                      refine tl_step rfl (oj_val (y_pickf (fe_t rfl) (fe_t rfl)) ?_)
                      refine tl_nil ?_
                      refine tx_then ?_
                      refine tr_condp (fe_t rfl) (fun hq11 => ?_) (fun hq12 => ?_)
                      · try (exfalso; omega)
                        all_goals
                          refine tr_region ?_
                          refine tl_step rfl (oj_val (y_move (fe_t rfl)) ?_)
                          refine tl_step rfl (oj_val (y_assign (fe_t rfl)) ?_)
                          refine tl_nil ?_
                          refine tx_in ?_
                          refine tx_then ?_
                          refine tr_region ?_
                          refine tl_step rfl (oj_val (y_inc (fe_t rfl) fe_c (by omega)) ?_)
                          refine tl_step rfl (oj_val (y_move (fe_t rfl)) ?_)
                          refine tl_nil ?_
                          apply tx_back7 (j + 1) (eb1) (_) (_) (r7.es) (some by_) (j)
                          · exact (cov_cons (by first | rfl | exact v_int hws | exact v_int (by omega)) (cov_cons (by first | rfl | exact v_int hws | exact v_int (by omega)) (cov_cons (by first | rfl | exact v_int hws | exact v_int (by omega)) (cov_nil))))
                          · repeat (first | exact over_nil | refine over_put rfl ?_ | refine over_drop rfl ?_)
                          · exact fun w h => h.pick [0, 1, 2] _ rfl (by decide)
                          · exact ⟨⟨by omega, hm2.more hM, hrd2, fun i hi h9 => by
                                by_cases e9 : i = j
                                · rw [e9]; exact hfj
                                · exact hun i (by omega) h9, (hnx.more hM).take (fun i hi => (hwr i (by omega)).1) hfj (.inr ⟨by assumption, Int.le_of_lt ((cmp_next hrd2.wp.1).1 (by assumption))⟩) hq7 ((hm2.nl hy.2.2))⟩, by omega⟩
                      · try (exfalso; omega)
                        all_goals
                          refine tr_skip ?_
                          refine tx_in ?_
                          refine tx_then ?_
                          refine tr_region ?_
                          refine tl_step rfl (oj_val (y_inc (fe_t rfl) fe_c (by omega)) ?_)
                          refine tl_step rfl (oj_val (y_move (fe_t rfl)) ?_)
                          refine tl_nil ?_
                          apply tx_back7 (j + 1) (eb1) (_) (_) (r7.es) (nx) (q)
                          · exact (cov_cons (by first | rfl | exact v_int hws | exact v_int (by omega)) (cov_cons (by first | rfl | exact v_int hws | exact v_int (by omega)) (cov_cons (by first | rfl | exact v_int hws | exact v_int (by omega)) (cov_nil))))
                          · repeat (first | exact over_nil | refine over_put rfl ?_ | refine over_drop rfl ?_)
                          · exact fun w h => h.pick [0, 1, 2] _ rfl (by decide)
                          · exact ⟨⟨by omega, hm2.more hM, hrd2, fun i hi h9 => by
                                by_cases e9 : i = j
                                · rw [e9]; exact hfj
                                · exact hun i (by omega) h9, (hnx.more hM).keep (by assumption) (Int.not_lt.1 fun h9 => by have h8 := (cmp_next (b := gI bs) (w := gI ws) (bv := bv) (j := j) (q := q) hrd2.wp.1).2 h9; contradiction)⟩, by omega⟩
          · try (exfalso; omega)
            all_goals
              have hej : gO eb1 j ≠ none := fun h9 => by rw [h9] at hq6; cases hq6
              obtain ⟨pj, hpj⟩ := Option.ne_none_iff_exists'.1 hej
              refine tl_skip rfl rfl rfl rfl ?_
              refine tl_skip rfl rfl rfl rfl ?_
              refine tl_skip rfl rfl rfl rfl ?_
              refine tl_step rfl (oj_val (y_pickf (fe_t rfl) fe_c) ?_)
              refine tl_nil ?_
              refine tx_then ?_
              refine tr_condf (fe_t rfl) ?_
              refine tr_skip ?_
              refine tx_then ?_
              refine tr_seq ?_
              refine tr_seq ?_
              have hfj := hrd2.c j (by omega) hej
              have hws := wsum_fin hfj
              refine tr_region ?_
              refine tl_step rfl (oj_val (y_move (fe_t rfl)) ?_)
              refine tl_step rfl (oj_val (y_move (fe_t rfl)) ?_)
              refine tl_step rfl (oj_val (y_index Try.underlying70 Try.sizeOf72 (fe_t rfl) (fe_t rfl) (rdl_vec 1 rfl) (by rw [List.length_map]; (try rw [List.length_set]); omega) (by decide) (by omega) (Nat.mul_one _)) ?_)
              refine tl_step rfl (oj_val (y_ld (v := P pj) Try.isAgg72 (fe_t rfl) (rdl_vec 1 rfl) (PO_at hpj)) ?_)
              refine tl_step rfl (oj_val (y_neT Try.underlying72 (fe_t rfl) fe_c) ?_)
              refine tl_nil ?_
              refine tx_then ?_
              refine tr_condt (fe_t rfl) ?_
              refine tr_exit ?_
              refine tx_then_exit ?_
              refine tx_in_exit ?_
              refine tx_then ?_
              refine tr_region ?_
              refine tl_step rfl (oj_val (y_inc (fe_t rfl) fe_c (by omega)) ?_)
              refine tl_step rfl (oj_val (y_move (fe_t rfl)) ?_)
              refine tl_nil ?_
              apply tx_back7 (j + 1) (eb1) (_) (_) (es2) (nx) (q)
              · exact (cov_cons (by first | rfl | exact v_int hws | exact v_int (by omega)) (cov_cons (by first | rfl | exact v_int hws | exact v_int (by omega)) (cov_cons (by first | rfl | exact v_int hws | exact v_int (by omega)) (cov_nil))))
              · repeat (first | exact over_nil | refine over_put rfl ?_ | refine over_drop rfl ?_)
              · exact fun w h => h.pick [0, 1, 2] _ rfl (by decide)
              · exact ⟨⟨by omega, hm2, hrd2, fun i hi h9 => by
                    by_cases e9 : i = j
                    · rw [e9] at h9; exact absurd h9 hej
                    · exact hun i (by omega) h9, hnx.pass hfj⟩, by omega⟩
      · try (exfalso; omega)
        all_goals
          refine tr_exit ?_
          refine tx_then_exit ?_
          refine tx_then_exit ?_
          refine tx_in_exit ?_
          refine tx_then ?_
          refine tr_seq ?_
          refine tr_seq ?_
          refine tr_region ?_
          refine tl_step rfl (oj_val (y_move (fe_t rfl)) ?_)
          refine tl_step rfl (oj_val (y_eqO Try.underlying72 (fe_t rfl) fe_c) ?_)
          refine tl_nil ?_
          refine tx_then ?_
          refine tr_cond (fe_t rfl) (fun hq13 => ?_) (fun hq14 => ?_)
          · try (exfalso; omega)
            all_goals
              refine tr_seq ?_
              refine tr_region ?_
              refine tl_step rfl (oj_val (y_move (fe_t rfl)) ?_)
              refine tl_step rfl (oj_val (y_assign (fe_t rfl)) ?_)
              refine tl_nil ?_
              refine tx_then ?_
              refine tr_ret ?_
              refine tx_then_ret ?_
              refine tx_in_ret ?_
              refine tx_then_ret ?_
              refine tx_in_ret ?_
              refine tx_ret (res1 Try.results37 (rok_t rfl)) (fun w' hS => ?_)
              have hjn : j = n := by omega
              have hall := (hnx.none (by assumption)).2
              refine ⟨(⟨ge, _, _, _⟩, eb1), ⟨hm2.el, fun k hk => ?_⟩, rfl, hS.pick [1, 0] _ rfl (by decide)⟩
              cases h9 : gO eb1 k with
              | none => exact absurd (hall k (by omega)) (hun k (by omega) h9)
              | some p => exact ⟨p, rfl, (hm2.eat k hk p h9).1⟩
          · try (exfalso; omega)
            all_goals
              have hjn : j = n := by omega
              obtain ⟨np, hnp, hNn, hNq, hNl⟩ := hnx.some (by simpa using hq14)
              rw [hjn] at hNn
              have hqk := hwr q hNn.lt
              have hpq := mul_in (Int.le_of_lt hw0) hw1 (Int.le_of_lt hqk.1) hqk.2
              have hqq := Int.mul_pos hw0 hqk.1
              have hLq := nxt_bd hrg hNn (Nat.le_refl _) hw0 hw1 hb0
              have hwb := wsum_bd (b := gI bs) (bv := bv) (wv := wv) hwr hn16 (m := j) (by omega)
              have hhb := had_bd (b := gI bs) (w := gI ws) (n := n) (fun i hi => (hrg.ok i hi).1) hwr hn16 hrd2.wp hrd2.bp
              have hNS := mul_in hLq.1 hLq.2 hwb.1 hwb.2
              refine tr_skip ?_
              refine tx_then ?_
              refine tr_seq ?_
              refine tr_region ?_
              refine tl_step rfl (oj_allocQ 0 Try.zeroValue150 rfl (fun ba Ha ea hya => ?_))
              refine tl_step rfl (oj_val (y_move (fe_t rfl)) ?_)
              refine tl_step rfl (oj_allocQ 0 Try.zeroValue150 rfl (fun bb_ Hb eb_ hyb => ?_))
              refine tl_step rfl (oj_val (y_move (fe_t rfl)) ?_)
              refine tl_step rfl (oj_val (y_move (fe_t rfl)) ?_)
              refine tl_step rfl (oj_call2 Try.call38 fe_f (fel_cons (fe_t rfl) (fel_cons fe_c fel_nil)) (fun w' hS => newQ (hS.pick [0, 1, 2] [_, _, _] rfl (by decide)) (wsum (gI bs) (gI ws) bv wv j) 1 (by omega) (by omega) (by decide) (by decide)) (fun r8 h8 => ?_))
              refine tl_step rfl (oj_call2 Try.call79 fe_f (fel_cons (fe_t rfl) (fel_cons (fe_v (congrArg PO hnp) (fe_t rfl)) (fel_cons (fe_t rfl) fel_nil))) (fun w' hS => mulQ (hS.pick [0, 1, 2] [_, _, _] rfl (by decide)) (h8.2.1 _ _ hyb.1) (h8.2.1 _ _ (hyb.2.1 _ _ (hya.2.1 _ _ hNq))) h8.1 (⟨by omega, by omega, by omega, by omega⟩ : Bd (gI bs q * wv - gI ws q * bv) (wv * gI ws q) 1048576000 1000000) (⟨by omega, by omega, by omega, by omega⟩ : Bd (wsum (gI bs) (gI ws) bv wv j) 1 16000 1) (by decide) (by decide) (by decide) (by decide)) (fun r9 h9 => ?_))
              refine tl_step rfl (oj_call2 Try.call78 fe_f (fel_cons (fe_t rfl) (fel_cons (fe_t rfl) (fel_cons (fe_t rfl) fel_nil))) (fun w' hS => addQ (hS.pick [0, 1, 2] [_, _, _] rfl (by decide)) (h9.2 _ _ (hyb.2.2 _ _ hya.1) (h8.2.1 _ _ (hyb.2.1 _ _ hya.1))) (h9.2 _ _ (hyb.2.2 _ _ (hya.2.1 _ _ hm2.now)) (h8.2.1 _ _ (hyb.2.1 _ _ (hya.2.1 _ _ hm2.now)))) h9.1 (⟨by omega, by omega, hw0, hw1⟩ : Bd (had (gI bs) (gI ws) bv wv n) wv 16777216000 1000) (⟨by omega, by omega, by omega, by omega⟩ : Bd ((gI bs q * wv - gI ws q * bv) * wsum (gI bs) (gI ws) bv wv j) (wv * gI ws q * 1) 16777216000000 1000000) (by decide) (by decide) (by decide)) (fun r10 h10 => ?_))
              refine tl_step rfl (oj_val (y_assign (fe_t rfl)) ?_)
              refine tl_nil ?_
              refine tx_then ?_
              refine tr_seq ?_
              have hM9 : More es2 r9.es := (hya.2.1.trans (hyb.2.1.trans h8.2.1)).but (hyb.2.2.less hya.2.1) h9.2
              have hM10 : More es2 r10.es := hM9.but (hya.2.2) h10.2
              have hq10 : Q r10.es ba (mkRat (had (gI bs) (gI ws) (gI bs q) (gI ws q) n) ((gI ws q)).toNat) := by rw [mk_eq hqk.1 (Int.mul_pos hw0 (by omega)) (now_eq (n := n) hwr hw0 hNn)]; have h7 := h10.1; rw [hjn] at h7; exact h7
              have hm4 := (hm2.more hM10).turn hq10 (hm2.nl hya.2.2)
              have hnq4 := hM10 _ _ hNq
              refine tr_region ?_
              refine tl_step rfl (oj_val (y_move (fe_t rfl)) ?_)
              refine tl_step rfl (oj_val (y_len Try.underlying70 (fe_t rfl)) ?_)
              refine tl_step rfl (oj_val (y_move fe_c) ?_)
              refine tl_nil ?_
              refine tx_then ?_
              refine tr_block ?_
              refine tr_loop4 [15, 101, 102, 103, 104, 105, 106, 107, 108, 109, 110, 111, 112, 113, 114, 115, 116, 117, 118, 119, 120, 121, 122, 123, 124, 125, 126] (fun (k : Nat) (Hv : List Nat) (Dv : List Nat) (es3 : List Ent) => [(101, .int .i64 (k : Int))]) 0 (fun (k : Nat) (Hv : List Nat) (Dv : List Nat) (es3 : List Ent) => [(0, bag Hv Dv es3)]) (fun (k : Nat) (Hv : List Nat) (Dv : List Nat) (es3 : List Ent) => k ≤ n ∧ Mo es3 n lb eb1 (eN bs ws n) (gI ws) (fun i => if i < k then mkRat (gI bs i * gI ws q - gI ws i * gI bs q) (gI ws q).toNat else mkRat (gI bs i * wv - gI ws i * bv) wv.toNat) ba (mkRat (had (gI bs) (gI ws) (gI bs q) (gI ws q) n) ((gI ws q)).toNat) ∧ Q es3 np (mkRat (gI bs q * wv - gI ws q * bv) (wv * gI ws q).toNat)) (fun (k : Nat) (Hv : List Nat) (Dv : List Nat) (es3 : List Ent) => n - k) (0) (_) (_) (r10.es) (cov_cons (by first | rfl | exact v_int hws | exact v_int (by omega)) (cov_nil)) (fun w h => h) ?_ ?_
              · try dsimp only
                exact ⟨by omega, hm4.congr (fun i _ _ => by rw [if_neg (by omega)]), hnq4⟩
              intro k Hv Dv es3 hp
              obtain ⟨hk, hm5, hnq⟩ := hp
              refine tr_seq ?_
              refine tr_region ?_
              refine tl_step rfl (oj_val (y_lss (fe_t rfl) (fe_t rfl)) ?_)
              refine tl_nil ?_
              refine tx_then ?_
              refine tr_seq ?_
              refine tr_condp (fe_t rfl) (fun hq15 => ?_) (fun hq16 => ?_)
              · try (exfalso; omega)
                all_goals
                  refine tr_skip ?_
                  refine tx_then ?_
                  refine tr_seq ?_
                  refine tr_block ?_
                  refine tr_seq ?_
                  refine tr_region ?_
                  refine tl_step rfl (oj_val (y_move (fe_t rfl)) ?_)
                  refine tl_step rfl (oj_val (y_assign (fe_t rfl)) ?_)
                  refine tl_nil ?_
                  refine tx_then ?_
                  refine tr_seq ?_
                  refine tr_region ?_
                  refine tl_step rfl (oj_val (y_move (fe_t rfl)) ?_)
                  refine tl_step rfl (oj_val (y_move (fe_t rfl)) ?_)
                  refine tl_step rfl (oj_val (y_index Try.underlying70 Try.sizeOf72 (fe_t rfl) (fe_t rfl) (rdl_vec 1 rfl) (by rw [List.length_map]; (try rw [List.length_set]); omega) (by decide) (by omega) (Nat.mul_one _)) ?_)
                  refine tl_step rfl (oj_val (y_ld (v := PO (gO eb1 k)) Try.isAgg72 (fe_t rfl) (rdl_vec 1 rfl) (PO_get (by omega))) ?_)
                  refine tl_step rfl (oj_val (y_eqO Try.underlying72 (fe_t rfl) fe_c) ?_)
                  refine tl_nil ?_
                  refine tx_then ?_
                  refine tr_cond (fe_t rfl) (fun hq17 => ?_) (fun hq18 => ?_)
                  · try (exfalso; omega)
                    all_goals
                      have hek : gO eb1 k = none := Option.isNone_iff_eq_none.1 hq17
                      obtain ⟨lk, xk, hlk, hqk2, hnk, hvk⟩ := hm5.lat k (by omega)
                      have hxk := hvk hek
                      rw [if_neg (Nat.lt_irrefl k)] at hxk
                      subst hxk
                      have hlek := hrd2.a k (by omega) hek
                      have hLk := lft_bd (k := k) hrg (by omega) hw0 hw1 hb0 hlek
                      have hwk := hwr k (by omega)
                      have hNW := mul_in hLq.1 hLq.2 (Int.le_of_lt hwk.1) hwk.2
                      have hnpk : np ≠ lk := fun h9 => hNl k (by omega) (by rw [hlk, h9])
                      refine tr_draw (sel _ [1, 2]) (fun w h => h.sel _ rfl (by decide)) rfl ?_
                      refine ta_float (i := 0) rfl (by kernel_rfl) (wants_none rfl) (yq_of (y_move (fe_t rfl))) ?_
                      refine ta_float (i := 1) rfl (by kernel_rfl) (wants_none rfl) (yq_of (y_move (fe_t rfl))) ?_
                      refine ta_float (i := 2) rfl (by kernel_rfl) (wants_none rfl) (yq_of (y_index Try.underlying70 Try.sizeOf72 (fe_t rfl) (fe_t rfl) (rdl_vec 1 rfl) (by rw [List.length_map]; omega) (by decide) (by omega) (Nat.mul_one _))) ?_
                      refine ta_float (i := 3) rfl (by kernel_rfl) (wants_none rfl) (yq_of (y_ld (v := P lk) Try.isAgg72 (fe_t rfl) (rdl_vec 1 rfl) (PO_at hlk))) ?_
                      refine ta_float (i := 4) rfl (by kernel_rfl) (wants_none rfl) (yq_of (y_move (fe_t rfl))) ?_
                      refine ta_float (i := 5) rfl (by kernel_rfl) (wants_none rfl) (yq_of (y_move (fe_t rfl))) ?_
                      refine ta_float (i := 6) rfl (by kernel_rfl) (wants_none rfl) (yq_of (y_index Try.underlying70 Try.sizeOf72 (fe_t rfl) (fe_t rfl) (rdl_vec 1 rfl) (by rw [List.length_map]; omega) (by decide) (by omega) (Nat.mul_one _))) ?_
                      refine ta_float (i := 7) rfl (by kernel_rfl) (wants_none rfl) (yq_of (y_ld (v := P lk) Try.isAgg72 (fe_t rfl) (rdl_vec 1 rfl) (PO_at hlk))) ?_
                      refine ta_float (i := 9) rfl (by kernel_rfl) (wants_none rfl) (yq_of (y_move (fe_t rfl))) ?_
                      refine ta_float (i := 10) rfl (by kernel_rfl) (wants_none rfl) (yq_of (y_move (fe_t rfl))) ?_
                      refine ta_float (i := 11) rfl (by kernel_rfl) (wants_none rfl) (yq_of (y_move (fe_t rfl))) ?_
                      refine ta_float (i := 12) rfl (by kernel_rfl) (wants_none rfl) (yq_of (y_index Try.underlying27 Try.sizeOf3 (fe_t rfl) (fe_t rfl) (rdl_out hw) (by simp; omega) (by decide) (by omega) (Nat.mul_one _))) ?_
                      refine ta_float (i := 13) rfl (by kernel_rfl) (wants_none rfl) (yq_of (y_ld Try.isAgg3 (fe_t rfl) (rdl_out hw) (getG (zs := ws) (by omega)))) ?_
                      refine ta_two (i := 8) (j := 14) rfl rfl (by kernel_rfl) (wants_none rfl) (wants_none rfl) ?_ ?_
                      · refine oj_allocQ 0 Try.zeroValue150 rfl (fun bc Hc ec hc => ⟨fun w h => h.pick [1, 2] _ rfl (by decide), ?_⟩)
                        refine ta_one (i := 14) rfl (by kernel_rfl) (wants_none rfl) (oj_call2 Try.call38 fe_f (fel_cons (fe_t rfl) (fel_cons fe_c fel_nil)) (fun w' hS => newQ (hS.pick [0, 1, 2] [_, _, _] rfl (by decide)) (gI ws k) 1 (by omega) (by omega) (by decide) (by decide)) (fun r11 h11 => ⟨fun w h => h.pick [1, 2] _ rfl (by decide), ?_⟩))
                        refine ta_one (i := 15) rfl (by kernel_rfl) (wants_none rfl) (oj_call2 Try.call79 fe_f (fel_cons (fe_t rfl) (fel_cons (fe_v (congrArg PO hnp) (fe_t rfl)) (fel_cons (fe_t rfl) fel_nil))) (fun w' hS => mulQ (hS.pick [0, 1, 2] [_, _, _] rfl (by decide)) (h11.2.1 _ _ hc.1) (h11.2.1 _ _ (hc.2.1 _ _ hnq)) h11.1 (⟨by omega, by omega, by omega, by omega⟩ : Bd (gI bs q * wv - gI ws q * bv) (wv * gI ws q) 1048576000 1000000) (⟨by omega, by omega, by omega, by omega⟩ : Bd (gI ws k) 1 1000 1) (by decide) (by decide) (by decide) (by decide)) (fun r12 h12 => ⟨fun w h => h.pick [1, 2] _ rfl (by decide), ?_⟩))
                        refine ta_one (i := 16) rfl (by kernel_rfl) (wants_none rfl) (oj_call2 Try.call80 fe_f (fel_cons (fe_t rfl) (fel_cons (fe_t rfl) (fel_cons (fe_t rfl) fel_nil))) (fun w' hS => subQ (hS.pick [0, 1, 2] [_, _, _] rfl (by decide)) (((hc.2.1.trans h11.2.1).but hc.2.2 h12.2) _ _ hqk2) (((hc.2.1.trans h11.2.1).but hc.2.2 h12.2) _ _ hqk2) h12.1 (⟨by omega, by omega, by omega, by omega⟩ : Bd (gI bs k * wv - gI ws k * bv) wv 1048576000 1000) (⟨by omega, by omega, by omega, by omega⟩ : Bd ((gI bs q * wv - gI ws q * bv) * gI ws k) (wv * gI ws q * 1) 1048576000000 1000000) (by decide) (by decide) (by decide)) (fun r13 h13 => ⟨fun w h => h.pick [1, 2] _ rfl (by decide), ?_⟩))
                        refine ta_done (by kernel_rfl) ?_
                        refine tx_in ?_
                        refine tx_then ?_
                        have hM12 : More es3 r12.es := (hc.2.1.trans h11.2.1).but hc.2.2 h12.2
                        have h13a : Q r13.es lk (mkRat (gI bs k * gI ws q - gI ws k * gI bs q) (gI ws q).toNat) := by rw [mk_eq hqk.1 (Int.mul_pos hw0 (by omega)) (left_eq _ _ _ _ _ _)]; exact h13.1
                        refine tr_region ?_
                        refine tl_step rfl (oj_val (y_inc (fe_t rfl) fe_c (by omega)) ?_)
                        refine tl_step rfl (oj_val (y_move (fe_t rfl)) ?_)
                        refine tl_nil ?_
                        apply tx_back4 (k + 1) (_) (_) (r13.es)
                        · exact (cov_cons (by first | rfl | exact v_int hws | exact v_int (by omega)) (cov_nil))
                        · repeat (first | exact over_nil | refine over_put rfl ?_ | refine over_drop rfl ?_)
                        · exact fun w h => h.pick [0, 1, 2] _ rfl (by decide)
                        · exact ⟨⟨by omega, ((hm5.more hM12).put (by omega) hlk h13a h13.2).congr (fun i hi h9 => by
                              by_cases e9 : i = k
                              · rw [if_pos e9, if_pos (by omega), e9]
                              · rw [if_neg e9]
                                by_cases h8 : i < k
                                · rw [if_pos h8, if_pos (by omega)]
                                · rw [if_neg h8, if_neg (by omega)]), h13.2 _ _ hnpk (hM12 _ _ hnq)⟩, by omega⟩
                      · refine oj_call2 Try.call38 fe_f (fel_cons (fe_t rfl) (fel_cons fe_c fel_nil)) (fun w' hS => newQ (hS.pick [0, 1, 2] [_, _, _] rfl (by decide)) (gI ws k) 1 (by omega) (by omega) (by decide) (by decide)) (fun r11 h11 => ⟨fun w h => h.pick [1, 2] _ rfl (by decide), ?_⟩)
                        refine ta_one (i := 8) rfl (by kernel_rfl) (wants_none rfl) (oj_allocQ 0 Try.zeroValue150 rfl (fun bc Hc ec hc => ⟨fun w h => h.pick [1, 2] _ rfl (by decide), ?_⟩))
                        refine ta_one (i := 15) rfl (by kernel_rfl) (wants_none rfl) (oj_call2 Try.call79 fe_f (fel_cons (fe_t rfl) (fel_cons (fe_v (congrArg PO hnp) (fe_t rfl)) (fel_cons (fe_t rfl) fel_nil))) (fun w' hS => mulQ (hS.pick [0, 1, 2] [_, _, _] rfl (by decide)) hc.1 (hc.2.1 _ _ (h11.2.1 _ _ hnq)) (hc.2.1 _ _ h11.1) (⟨by omega, by omega, by omega, by omega⟩ : Bd (gI bs q * wv - gI ws q * bv) (wv * gI ws q) 1048576000 1000000) (⟨by omega, by omega, by omega, by omega⟩ : Bd (gI ws k) 1 1000 1) (by decide) (by decide) (by decide) (by decide)) (fun r12 h12 => ⟨fun w h => h.pick [1, 2] _ rfl (by decide), ?_⟩))
                        refine ta_one (i := 16) rfl (by kernel_rfl) (wants_none rfl) (oj_call2 Try.call80 fe_f (fel_cons (fe_t rfl) (fel_cons (fe_t rfl) (fel_cons (fe_t rfl) fel_nil))) (fun w' hS => subQ (hS.pick [0, 1, 2] [_, _, _] rfl (by decide)) (((h11.2.1.trans hc.2.1).but (hc.2.2.less h11.2.1) h12.2) _ _ hqk2) (((h11.2.1.trans hc.2.1).but (hc.2.2.less h11.2.1) h12.2) _ _ hqk2) h12.1 (⟨by omega, by omega, by omega, by omega⟩ : Bd (gI bs k * wv - gI ws k * bv) wv 1048576000 1000) (⟨by omega, by omega, by omega, by omega⟩ : Bd ((gI bs q * wv - gI ws q * bv) * gI ws k) (wv * gI ws q * 1) 1048576000000 1000000) (by decide) (by decide) (by decide)) (fun r13 h13 => ⟨fun w h => h.pick [1, 2] _ rfl (by decide), ?_⟩))
                        refine ta_done (by kernel_rfl) ?_
                        refine tx_in ?_
                        refine tx_then ?_
                        have hM12 : More es3 r12.es := (h11.2.1.trans hc.2.1).but (hc.2.2.less h11.2.1) h12.2
                        have h13a : Q r13.es lk (mkRat (gI bs k * gI ws q - gI ws k * gI bs q) (gI ws q).toNat) := by rw [mk_eq hqk.1 (Int.mul_pos hw0 (by omega)) (left_eq _ _ _ _ _ _)]; exact h13.1
                        refine tr_region ?_
                        refine tl_step rfl (oj_val (y_inc (fe_t rfl) fe_c (by omega)) ?_)
                        refine tl_step rfl (oj_val (y_move (fe_t rfl)) ?_)
                        refine tl_nil ?_
                        apply tx_back4 (k + 1) (_) (_) (r13.es)
                        · exact (cov_cons (by first | rfl | exact v_int hws | exact v_int (by omega)) (cov_nil))
                        · repeat (first | exact over_nil | refine over_put rfl ?_ | refine over_drop rfl ?_)
                        · exact fun w h => h.pick [0, 1, 2] _ rfl (by decide)
                        · exact ⟨⟨by omega, ((hm5.more hM12).put (by omega) hlk h13a h13.2).congr (fun i hi h9 => by
                              by_cases e9 : i = k
                              · rw [if_pos e9, if_pos (by omega), e9]
                              · rw [if_neg e9]
                                by_cases h8 : i < k
                                · rw [if_pos h8, if_pos (by omega)]
                                · rw [if_neg h8, if_neg (by omega)]), h13.2 _ _ hnpk (hM12 _ _ hnq)⟩, by omega⟩
                  · try (exfalso; omega)
                    all_goals
                      have hek : gO eb1 k ≠ none := fun h9 => by rw [h9] at hq18; cases hq18
                      refine tr_skip ?_
                      refine tx_in ?_
                      refine tx_then ?_
                      refine tr_region ?_
                      refine tl_step rfl (oj_val (y_inc (fe_t rfl) fe_c (by omega)) ?_)
                      refine tl_step rfl (oj_val (y_move (fe_t rfl)) ?_)
                      refine tl_nil ?_
                      apply tx_back4 (k + 1) (_) (_) (es3)
                      · exact (cov_cons (by first | rfl | exact v_int hws | exact v_int (by omega)) (cov_nil))
                      · repeat (first | exact over_nil | refine over_put rfl ?_ | refine over_drop rfl ?_)
                      · exact fun w h => h.pick [0, 1, 2] _ rfl (by decide)
                      · exact ⟨⟨by omega, hm5.congr (fun i hi h9 => by
                            by_cases h8 : i < k
                            · rw [if_pos h8, if_pos (by omega)]
                            · by_cases e9 : i = k
                              · rw [e9] at h9; exact absurd h9 hek
                              · rw [if_neg h8, if_neg (by omega)]), hnq⟩, by omega⟩
              · try (exfalso; omega)
                all_goals
                  refine tr_exit ?_
                  refine tx_then_exit ?_
                  refine tx_then_exit ?_
                  refine tx_in_exit ?_
                  refine tx_in ?_
                  apply tx_back7 (gI bs q) (gI ws q) (eb1) (ba) (_) (_) (es3)
                  · exact (cov_cons (by first | rfl | exact v_int hws | exact v_int (by omega)) (cov_nil))
                  · repeat (first | exact over_nil | refine over_put rfl ?_ | refine over_drop rfl ?_)
                  · exact fun w h => h.pick [0, 1, 2] _ rfl (by decide)
                  · exact ⟨⟨hm5.congr (fun i hi _ => by rw [if_pos (by omega)]), rd_next hrd2 (fun i hi h9 => hun i (by omega) h9) (fun i hi => (hrg.ok i hi).1) hwr hNn⟩, hNn.less (fun i hi => (hwr i hi).1) hrd2.wp.1⟩

end Go.Proofs.Ytpknjfeiiaopgaa.Gps
