/- Heads of packets, plain. -/
import Derived.Test.YtpknjfeiiaopgaaSumsA
namespace Go.Proofs.Ytpknjfeiiaopgaa.Head
open Go.RowKit

structure Hd where
  s0 : Int
  s1 : Int
  s2 : Int
  s3 : Int
  d0 : Int
  d1 : Int
  d2 : Int
  d3 : Int
  pr : Int
  sp : Int
  dp : Int
  ln : Int
  mr : Int
def zH : Hd := ⟨0, 0, 0, 0, 0, 0, 0, 0, 0, 0, 0, 0, 0⟩
def By (x : Int) : Prop := 0 ≤ x ∧ x ≤ 255
def Hd.ok (h : Hd) : Prop := By h.s0 ∧ By h.s1 ∧ By h.s2 ∧ By h.s3 ∧ By h.d0 ∧ By h.d1 ∧ By h.d2 ∧ By h.d3
/-- What is wrong with a head. -/
def wr (h : Hd) : Int :=
  if h.pr < 0 ∨ 255 < h.pr ∨ h.mr < 0 ∨ 63 < h.mr ∨ h.sp < 0 ∨ 65535 < h.sp ∨ h.dp < 0 ∨ 65535 < h.dp then 2
  else if ¬ (h.pr = 6 ∨ h.pr = 17) ∧ (0 < h.sp ∨ 0 < h.dp) then 1
  else if 65535 < h.ln ∨ ((h.pr = 6 ∨ h.pr = 17) ∧ h.ln < 24) ∨ h.ln < 20 then 2
  else 0
theorem wr_2 {h : Hd} (h1 : h.pr < 0 ∨ 255 < h.pr ∨ h.mr < 0 ∨ 63 < h.mr ∨ h.sp < 0 ∨ 65535 < h.sp ∨ h.dp < 0 ∨ 65535 < h.dp) : wr h = 2 := by unfold wr; rw [if_pos h1]
theorem wr_1 {h : Hd} (h1 : ¬ (h.pr < 0 ∨ 255 < h.pr ∨ h.mr < 0 ∨ 63 < h.mr ∨ h.sp < 0 ∨ 65535 < h.sp ∨ h.dp < 0 ∨ 65535 < h.dp)) (h2 : ¬ (h.pr = 6 ∨ h.pr = 17) ∧ (0 < h.sp ∨ 0 < h.dp)) : wr h = 1 := by unfold wr; rw [if_neg h1, if_pos h2]
theorem wr_l {h : Hd} (h1 : ¬ (h.pr < 0 ∨ 255 < h.pr ∨ h.mr < 0 ∨ 63 < h.mr ∨ h.sp < 0 ∨ 65535 < h.sp ∨ h.dp < 0 ∨ 65535 < h.dp)) (h2 : ¬ (¬ (h.pr = 6 ∨ h.pr = 17) ∧ (0 < h.sp ∨ 0 < h.dp))) (h3 : 65535 < h.ln ∨ ((h.pr = 6 ∨ h.pr = 17) ∧ h.ln < 24) ∨ h.ln < 20) : wr h = 2 := by unfold wr; rw [if_neg h1, if_neg h2, if_pos h3]
theorem wr_0 {h : Hd} (h1 : ¬ (h.pr < 0 ∨ 255 < h.pr ∨ h.mr < 0 ∨ 63 < h.mr ∨ h.sp < 0 ∨ 65535 < h.sp ∨ h.dp < 0 ∨ 65535 < h.dp)) (h2 : ¬ (¬ (h.pr = 6 ∨ h.pr = 17) ∧ (0 < h.sp ∨ 0 < h.dp))) (h3 : ¬ (65535 < h.ln ∨ ((h.pr = 6 ∨ h.pr = 17) ∧ h.ln < 24) ∨ h.ln < 20)) : wr h = 0 := by unfold wr; rw [if_neg h1, if_neg h2, if_neg h3]
theorem wr_fine {h : Hd} (h0 : wr h = 0) : ¬ (h.pr < 0 ∨ 255 < h.pr ∨ h.mr < 0 ∨ 63 < h.mr ∨ h.sp < 0 ∨ 65535 < h.sp ∨ h.dp < 0 ∨ 65535 < h.dp) ∧ ¬ (¬ (h.pr = 6 ∨ h.pr = 17) ∧ (0 < h.sp ∨ 0 < h.dp)) ∧ ¬ (65535 < h.ln ∨ ((h.pr = 6 ∨ h.pr = 17) ∧ h.ln < 24) ∨ h.ln < 20) := by
  unfold wr at h0
  split at h0
  · cases h0
  · rename_i h1
    split at h0
    · cases h0
    · rename_i h2
      split at h0
      · cases h0
      · rename_i h3
        exact ⟨h1, h2, h3⟩

/-- The first twenty bytes, with a sum. -/
def hdr (h : Hd) (s : Int) : List Int := [69, 4 * h.mr, h.ln / 256, h.ln % 256, 0, 0, 0, 0, 64, h.pr, s / 256, s % 256, h.s0, h.s1, h.s2, h.s3, h.d0, h.d1, h.d2, h.d3]
def ck (h : Hd) : Int := 65535 - foldI (wsum (hdr h 0))
def pb (h : Hd) : List Int := [h.sp / 256, h.sp % 256, h.dp / 256, h.dp % 256]
def wb (h : Hd) : List Int := if h.pr = 6 ∨ h.pr = 17 then hdr h (ck h) ++ pb h ++ List.replicate (h.ln.toNat - 24) 0 else hdr h (ck h) ++ List.replicate (h.ln.toNat - 20) 0
theorem ck_bd (h : Hd) : 0 ≤ ck h ∧ ck h ≤ 65535 := by have := foldI_bd (wsum (hdr h 0)); unfold ck; omega
theorem hdr_by {h : Hd} (ho : h.ok) (h0 : wr h = 0) {s : Int} (s0 : 0 ≤ s) (s1 : s ≤ 65535) : ∀ z ∈ hdr h s, 0 ≤ z ∧ z ≤ 255 := by
  obtain ⟨h1, h2, h3⟩ := wr_fine h0
  obtain ⟨⟨a0, a1⟩, ⟨b0, b1⟩, ⟨c0, c1⟩, ⟨e0, e1⟩, ⟨f0, f1⟩, ⟨g0, g1⟩, ⟨i0, i1⟩, j0, j1⟩ := ho
  intro z hz
  simp only [hdr, List.mem_cons, List.not_mem_nil, or_false] at hz
  rcases hz with rfl | rfl | rfl | rfl | rfl | rfl | rfl | rfl | rfl | rfl | rfl | rfl | rfl | rfl | rfl | rfl | rfl | rfl | rfl | rfl <;> omega

/-- A byte of a packet, and two of them. -/
def at_ (l : List Int) (k : Nat) : Int := l.getD k 0
def two (l : List Int) (k : Nat) : Int := at_ l k * 256 + at_ l (k + 1)
def hl (l : List Int) : Nat := (at_ l 0 % 16 * 4).toNat
def h0 (l : List Int) : Hd := ⟨at_ l 12, at_ l 13, at_ l 14, at_ l 15, at_ l 16, at_ l 17, at_ l 18, at_ l 19, at_ l 9, 0, 0, two l 2, at_ l 1 / 4⟩
def ports (l : List Int) : Prop := (at_ l 9 = 6 ∨ at_ l 9 = 17) ∧ two l 6 % 8192 = 0
instance (l : List Int) : Decidable (ports l) := by unfold ports; infer_instance
/-- What Read answers. -/
def rd (l : List Int) : Hd × Int :=
  if l.length < 20 then (zH, 8)
  else if at_ l 0 / 16 ≠ 4 ∨ at_ l 0 % 16 < 5 then (zH, 1)
  else if l.length < hl l ∨ (l.length : Int) < two l 2 then (zH, 8)
  else if two l 2 < hl l then (zH, 1)
  else if foldI (wsum (l.take (hl l))) ≠ 65535 then (zH, 7)
  else if ¬ ports l then (h0 l, 0)
  else if two l 2 < hl l + 4 then (zH, 8)
  else ({ h0 l with sp := two l (hl l), dp := two l (hl l + 2) }, 0)
section
variable {l : List Int}
theorem rd_a (h : l.length < 20) : rd l = (zH, 8) := by unfold rd; rw [if_pos h]
theorem rd_b (h : ¬ l.length < 20) (h1 : at_ l 0 / 16 ≠ 4 ∨ at_ l 0 % 16 < 5) : rd l = (zH, 1) := by unfold rd; rw [if_neg h, if_pos h1]
theorem rd_c (h : ¬ l.length < 20) (h1 : ¬ (at_ l 0 / 16 ≠ 4 ∨ at_ l 0 % 16 < 5)) (h2 : l.length < hl l ∨ (l.length : Int) < two l 2) : rd l = (zH, 8) := by unfold rd; rw [if_neg h, if_neg h1, if_pos h2]
theorem rd_d (h : ¬ l.length < 20) (h1 : ¬ (at_ l 0 / 16 ≠ 4 ∨ at_ l 0 % 16 < 5)) (h2 : ¬ (l.length < hl l ∨ (l.length : Int) < two l 2)) (h3 : two l 2 < hl l) : rd l = (zH, 1) := by unfold rd; rw [if_neg h, if_neg h1, if_neg h2, if_pos h3]
theorem rd_e (h : ¬ l.length < 20) (h1 : ¬ (at_ l 0 / 16 ≠ 4 ∨ at_ l 0 % 16 < 5)) (h2 : ¬ (l.length < hl l ∨ (l.length : Int) < two l 2)) (h3 : ¬ two l 2 < hl l) (h4 : foldI (wsum (l.take (hl l))) ≠ 65535) : rd l = (zH, 7) := by unfold rd; rw [if_neg h, if_neg h1, if_neg h2, if_neg h3, if_pos h4]
theorem rd_f (h : ¬ l.length < 20) (h1 : ¬ (at_ l 0 / 16 ≠ 4 ∨ at_ l 0 % 16 < 5)) (h2 : ¬ (l.length < hl l ∨ (l.length : Int) < two l 2)) (h3 : ¬ two l 2 < hl l) (h4 : foldI (wsum (l.take (hl l))) = 65535) (h5 : ¬ ports l) : rd l = (h0 l, 0) := by unfold rd; rw [if_neg h, if_neg h1, if_neg h2, if_neg h3, if_neg (Decidable.not_not.2 h4), if_pos h5]
theorem rd_g (h : ¬ l.length < 20) (h1 : ¬ (at_ l 0 / 16 ≠ 4 ∨ at_ l 0 % 16 < 5)) (h2 : ¬ (l.length < hl l ∨ (l.length : Int) < two l 2)) (h3 : ¬ two l 2 < hl l) (h4 : foldI (wsum (l.take (hl l))) = 65535) (h5 : ports l) (h6 : two l 2 < hl l + 4) : rd l = (zH, 8) := by unfold rd; rw [if_neg h, if_neg h1, if_neg h2, if_neg h3, if_neg (Decidable.not_not.2 h4), if_neg (Decidable.not_not.2 h5), if_pos h6]
theorem rd_h (h : ¬ l.length < 20) (h1 : ¬ (at_ l 0 / 16 ≠ 4 ∨ at_ l 0 % 16 < 5)) (h2 : ¬ (l.length < hl l ∨ (l.length : Int) < two l 2)) (h3 : ¬ two l 2 < hl l) (h4 : foldI (wsum (l.take (hl l))) = 65535) (h5 : ports l) (h6 : ¬ two l 2 < hl l + 4) : rd l = ({ h0 l with sp := two l (hl l), dp := two l (hl l + 2) }, 0) := by unfold rd; rw [if_neg h, if_neg h1, if_neg h2, if_neg h3, if_neg (Decidable.not_not.2 h4), if_neg (Decidable.not_not.2 h5), if_neg h6]
theorem at_by (hz : ∀ z ∈ l, 0 ≤ z ∧ z ≤ 255) (k : Nat) : 0 ≤ at_ l k ∧ at_ l k ≤ 255 := by
  unfold at_
  rw [List.getD_eq_getElem?_getD]
  cases h : l[k]? with
  | none => decide
  | some z => exact hz z (List.mem_of_getElem? h)
end
/-- Bits. -/
theorem and15 {x : Int} (h0 : 0 ≤ x) (h1 : x ≤ 255) : bits BinOp.and IntKind.u8 x 15 = x % 16 := by
  rw [u8_and x 15 h0 (by omega) (by omega) (by omega), show (15 : Int).toNat = 2 ^ 4 - 1 from rfl, Nat.and_two_pow_sub_one_eq_mod]
  omega
theorem and13 (n : Int) : bits .and .i64 n 8191 = n % 8192 := by
  have h127 : (BitVec.ofInt 64 8191).toNat = 2 ^ 13 - 1 := by decide
  have key : (BitVec.ofInt 64 n &&& BitVec.ofInt 64 8191).toNat = (n % ((2 ^ 64 : Nat) : Int)).toNat % 2 ^ 13 := by
    rw [BitVec.toNat_and, BitVec.toNat_ofInt, h127, Nat.and_two_pow_sub_one_eq_mod]
  show IntKind.i64.wrap ((BitVec.ofInt 64 n &&& BitVec.ofInt 64 8191).toNat : Nat) = n % 8192
  rw [key, IntKind.wrap_i64]
  omega
theorem or8 {a b : Int} (a0 : 0 ≤ a) (a1 : a ≤ 255) (b0 : 0 ≤ b) (b1 : b ≤ 255) : bits .or .i64 (a * 256) b = a * 256 + b :=
  bits_join .i64 63 (by decide) (fun n h0 h1 => by rw [IntKind.wrap_i64]; omega) 8 (a * 256) b (by omega) (by omega) (by omega) b0 (by omega) (by omega)
end Go.Proofs.Ytpknjfeiiaopgaa.Head
