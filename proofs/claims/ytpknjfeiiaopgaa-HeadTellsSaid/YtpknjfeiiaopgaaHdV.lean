/- Heads in memory; what the walks of HeadTells share. -/
import Derived.Test.YtpknjfeiiaopgaaHdR
namespace Go.Proofs.Ytpknjfeiiaopgaa.Head
open Go.RowKit Go.Proofs.Ytpknjfeiiaopgaa.E

def hC (h : Hd) : List Value := [.int .u8 h.s0, .int .u8 h.s1, .int .u8 h.s2, .int .u8 h.s3, .int .u8 h.d0, .int .u8 h.d1, .int .u8 h.d2, .int .u8 h.d3, (.int .i64 h.pr), (.int .i64 h.sp), (.int .i64 h.dp), (.int .i64 h.ln), (.int .i64 h.mr)]
theorem cB_len (l : List Int) : (cB l).length = l.length := by simp [cB]
theorem oneB {l : List Int} : ∀ u ∈ cB l, u.oneCell' = true := fun u hu => by
  simp only [cB, List.mem_map] at hu
  obtain ⟨z, _, rfl⟩ := hu
  rfl
theorem getB {l : List Int} {j : Nat} (h : j < l.length) : (cB l)[j]? = some (.int .u8 (at_ l j)) := by simp [cB, at_, h]
theorem cB_app (a b : List Int) : cB (a ++ b) = cB a ++ cB b := by simp [cB]
/-- The addresses. -/
def sd (h : Hd) : List Int := [h.s0, h.s1, h.s2, h.s3, h.d0, h.d1, h.d2, h.d3]
/-- The packet while the addresses come in. -/
def base (h : Hd) (r : Nat) : List Int := [69, 4 * h.mr, h.ln / 256, h.ln % 256, 0, 0, 0, 0, 64, h.pr, 0, 0, 0, 0, 0, 0, 0, 0, 0, 0] ++ List.replicate r 0
def ov (h : Hd) (r k : Nat) : List Int := (base h r).take 12 ++ ((sd h).take k ++ (base h r).drop (12 + k))
theorem rep_cB (n : Nat) : List.replicate n (Value.int .u8 0) = cB (List.replicate n 0) := by simp [cB]
theorem ov_set {h : Hd} {r k : Nat} (hk : k < 8) : (cB (ov h r k)).set (12 + (k : Int)).toNat (.int .u8 ((sd h).getD k 0)) = cB (ov h r (k + 1)) := by
  rcases (show k = 0 ∨ k = 1 ∨ k = 2 ∨ k = 3 ∨ k = 4 ∨ k = 5 ∨ k = 6 ∨ k = 7 by omega) with rfl | rfl | rfl | rfl | rfl | rfl | rfl | rfl <;> rfl
theorem ov_len {h : Hd} {r k : Nat} (hk : k ≤ 8) : (ov h r k).length = r + 20 := by
  simp [ov, base, sd]; omega
theorem sd_at {h : Hd} {k : Nat} (hk : k < 8) : (cB (sd h))[k]? = some (.int .u8 ((sd h).getD k 0)) := by
  rcases (show k = 0 ∨ k = 1 ∨ k = 2 ∨ k = 3 ∨ k = 4 ∨ k = 5 ∨ k = 6 ∨ k = 7 by omega) with rfl | rfl | rfl | rfl | rfl | rfl | rfl | rfl <;> rfl
theorem div8 (a : Int) (k : IntKind) (h : (2 : Int) ^ (min (8 : Int).toNat k.bits) = 256) : a.fdiv (2 ^ (min (8 : Int).toNat k.bits)) = a / 256 := by
  rw [h]; exact Int.fdiv_eq_ediv_of_nonneg _ (by decide)
theorem ofE (A : Option Addr) (n c : Nat) (zs : List Int) (w : World) {xs : List Value} (hr : Rd w A xs) (hx : xs = cB zs) (hn : zs.length = n) (hz : ∀ z ∈ zs, 0 ≤ z ∧ z ≤ 255) (hm : n ≤ 140737488355328) : Calls Try.prog 60 #[.slice A n c] w fun e w' => e = .returned (.int .u16 (foldI (wsum zs))) ∧ St w w' [] := of_eq (of_any A n c zs w (show Rd w A (cB zs) from hx ▸ hr) hn hz hm)
theorem checkE (A : Option Addr) (n c : Nat) (zs : List Int) (w : World) {xs : List Value} (hr : Rd w A xs) (hx : xs = cB zs) (hn : zs.length = n) (hz : ∀ z ∈ zs, 0 ≤ z ∧ z ≤ 255) (hm : n ≤ 140737488355328) : Calls Try.prog 53 #[.slice A n c] w fun e w' => e = .returned (.int .u16 (65535 - foldI (wsum zs))) ∧ St w w' [] := of_eq (check_any A n c zs w (show Rd w A (cB zs) from hx ▸ hr) hn hz hm)
theorem dofE (A : Option Addr) (n c : Nat) (zs : List Int) (w : World) {xs : List Value} (hr : Rd w A xs) (hx : xs = cB zs) (hn : zs.length = n) (hz : ∀ z ∈ zs, 0 ≤ z ∧ z ≤ 255) (hm : n ≤ 140737488355328) : Calls Try.prog 56 #[.slice A n c] w fun e w' => e = .returned (.int .i64 (foldI (wsum zs))) ∧ St w w' [] := of_eq (dof_any A n c zs w (show Rd w A (cB zs) from hx ▸ hr) hn hz hm)

/-- The six pieces of the document. -/
def pcs (h : Hd) (s : Int) : List (List Int) := [[69, 4 * h.mr], [h.ln / 256, h.ln % 256], [0, 0, 0, 0, 64, h.pr], [s / 256, s % 256], [h.s0, h.s1, h.s2, h.s3], [h.d0, h.d1, h.d2, h.d3]]
def upTo (h : Hd) (s : Int) (k : Nat) : List Int := ((pcs h s).take k).flatten
theorem six {k : Nat} (hk : k < 6) : k = 0 ∨ k = 1 ∨ k = 2 ∨ k = 3 ∨ k = 4 ∨ k = 5 := by omega
theorem upTo_next {h : Hd} {s : Int} {k : Nat} (hk : k < 6) : cB (upTo h s k) ++ cB ((pcs h s).getD k []) = cB (upTo h s (k + 1)) := by
  rcases six hk with rfl | rfl | rfl | rfl | rfl | rfl <;> rfl
theorem upTo_all {h : Hd} {s : Int} : upTo h s 6 = hdr h s := rfl
def nsix (k : Nat) : Nat := [2, 2, 6, 2, 4, 4].getD k 0
theorem nsix_le {k : Nat} (hk : k < 6) : nsix k ≤ 6 := by
  rcases six hk with rfl | rfl | rfl | rfl | rfl | rfl <;> decide
theorem pcs_len {h : Hd} {s : Int} {k : Nat} (hk : k < 6) : (cB ((pcs h s).getD k [])).length = nsix k * 1 := by
  rcases six hk with rfl | rfl | rfl | rfl | rfl | rfl <;> rfl
def asix (A0 A1 A2 A3 A4 A5 : Option Addr) (k : Nat) : Option Addr := [A0, A1, A2, A3, A4, A5].getD k none
theorem piece6 {A0 A1 A2 A3 A4 A5 : Option Addr} {k : Nat} (hk : k < 6) : [Value.slice A0 2 2, .slice A1 2 2, .slice A2 6 6, .slice A3 2 2, .slice A4 4 4, .slice A5 4 4][k]? = some (.slice (asix A0 A1 A2 A3 A4 A5 k) (nsix k) (nsix k)) := by
  rcases six hk with rfl | rfl | rfl | rfl | rfl | rfl <;> rfl
theorem rdl6 {w0 : World} {L : List Res} {A0 A1 A2 A3 A4 A5 : Option Addr} {h : Hd} {s : Int} {k : Nat} (hk : k < 6) (h0 : RdL w0 L A0 (cB [69, 4 * h.mr])) (h1 : RdL w0 L A1 (cB [h.ln / 256, h.ln % 256])) (h2 : RdL w0 L A2 (cB [0, 0, 0, 0, 64, h.pr])) (h3 : RdL w0 L A3 (cB [s / 256, s % 256])) (h4 : RdL w0 L A4 (cB [h.s0, h.s1, h.s2, h.s3])) (h5 : RdL w0 L A5 (cB [h.d0, h.d1, h.d2, h.d3])) :
    RdL w0 L (asix A0 A1 A2 A3 A4 A5 k) (cB ((pcs h s).getD k [])) := by
  rcases six hk with rfl | rfl | rfl | rfl | rfl | rfl
  · exact h0
  · exact h1
  · exact h2
  · exact h3
  · exact h4
  · exact h5
theorem wb_p {h : Hd} (hp : h.pr = 6 ∨ h.pr = 17) {m : Nat} (hm : h.ln = ((m + 4 + 20 : Nat) : Int)) : wb h = hdr h (ck h) ++ pb h ++ List.replicate m 0 := by
  unfold wb; rw [if_pos hp, show h.ln.toNat - 24 = m by omega]
theorem wb_n {h : Hd} (hp : ¬ (h.pr = 6 ∨ h.pr = 17)) {m : Nat} (hm : h.ln = ((m + 20 : Nat) : Int)) : wb h = hdr h (ck h) ++ List.replicate m 0 := by
  unfold wb; rw [if_neg hp, show h.ln.toNat - 20 = m by omega]

/-- Read's addresses while they come in. -/
def hk4 (l : List Int) (k : Nat) : List Value :=
  [.int .u8 (if 0 < k then at_ l 12 else 0), .int .u8 (if 1 < k then at_ l 13 else 0), .int .u8 (if 2 < k then at_ l 14 else 0), .int .u8 (if 3 < k then at_ l 15 else 0),
   .int .u8 (if 0 < k then at_ l 16 else 0), .int .u8 (if 1 < k then at_ l 17 else 0), .int .u8 (if 2 < k then at_ l 18 else 0), .int .u8 (if 3 < k then at_ l 19 else 0), (.int .i64 (at_ l 9)), (.int .i64 0), (.int .i64 0), (.int .i64 (two l 2)), (.int .i64 (at_ l 1 / 4))]
theorem hk4_set {l : List Int} {k : Nat} (hk : k < 4) : ((hk4 l k).set (0 + k) (.int .u8 (at_ l (12 + k)))).set (4 + k) (.int .u8 (at_ l (16 + k))) = hk4 l (k + 1) := by
  rcases (show k = 0 ∨ k = 1 ∨ k = 2 ∨ k = 3 by omega) with rfl | rfl | rfl | rfl <;> rfl
theorem hk4_all {l : List Int} : hk4 l 4 = hC (h0 l) := rfl
theorem hk4_zero {l : List Int} : hk4 l 0 = [.int .u8 0, .int .u8 0, .int .u8 0, .int .u8 0, .int .u8 0, .int .u8 0, .int .u8 0, .int .u8 0, (.int .i64 (at_ l 9)), (.int .i64 0), (.int .i64 0), (.int .i64 (two l 2)), (.int .i64 (at_ l 1 / 4))] := rfl
section
variable {P : Program} {N : Nat} {w0 : World} {F : Frm} {L : List Res} {d : Option Tmp} {x y : Operand} {v : Value} {t ty t' : TypeId} {pos : String} {af : Array Edge} {gd : Option (Nat × Bool)} {K : Frm → List Res → Prop}
theorem y_indexPO {b o len e : Nat} {z : Int} {k : IntKind} (hu : P.underlying t = some (.array len e)) (hs : ∀ w, (sizeOf e).run P w = .ok 1 w) (hx : FE N F x (.pointer (some ⟨b, o, none⟩))) (hi : FE N F y (.int k z)) (h0 : 0 ≤ z) (h1 : z < len) :
    Yld P N w0 F L ⟨d, .indexAddr t x y, ty, pos, af, gd⟩ (.pointer (some ⟨b, o + z.toNat, none⟩)) := fun a w hF hS => by
  simp [execOp, hx a hF, hi a hF, Instr.indexAt, asIntOf, Instr.sureAddr, run_underlying hu, hs, h0, h1]
  unfold Addr.add
  split
  · rename_i h; simp [h]
  · simp
theorem oj_storeP {b q : Nat} {cs : List Value} (i : Nat) (hs : ∀ w, (sizeOf t).run P w = .ok 1 w) (hx : FE N F x (.pointer (some ⟨b, q, none⟩))) (hy : FE N F y v) (hv : v.cells = #[v]) (h1 : v.oneCell' = true) (hk : lget L i = some (E.blk b cs)) (ho : q < cs.length)
    (h : K (fput F d undef) (lset L i (E.blk b (cs.set q v)))) : OpJ P N w0 F L ⟨d, .store t x y, ty, pos, af, gd⟩ K :=
  oj_store1 (o := q) i hs hx hy hv h1 hk (by simpa [Nat.blt_eq] using ho) h
end
theorem eq_head {x y : Operand} (h : Hd) (w : World) : (do eqGuard .eql 38 x y (.agg (hC h).toArray) (.agg (hC h).toArray); binOp .eql 38 (.agg (hC h).toArray) (.agg (hC h).toArray) : Sem Value).run Try.prog w = .ok (.bool true) w := by
  unfold hC
  have ea := fun (a b c d : Int) (W : World) => eq_addr4 9997 a b c d a b c d W
  simp only [Nat.reduceAdd] at ea
  simp [eqGuard, go_sem, ea]
end Go.Proofs.Ytpknjfeiiaopgaa.Head
