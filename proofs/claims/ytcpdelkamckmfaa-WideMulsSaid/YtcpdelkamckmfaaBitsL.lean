/- Walk: bits.Len64; how large a number of so many bits is. -/
import Derived.Test.YtcpdelkamckmfaaMem
import Derived.Lib.Strings
import Derived.Lib.Slices
import Derived.Lib.Small
import Derived.Lib.Walk
import Derived.Lib.BitFns
namespace Go.Proofs.Ytcpdelkamckmfaa.Frac
open Go.RowKit

theorem tab_fin : ∀ n : Fin 256, (Lib.len8tab.data[n.val]!).toNat = Lib.bitLen n.val := by decide +kernel
theorem tab_size0 : Lib.len8tab.size = 256 := by decide +kernel
theorem tab_size : (Lib.len8tab.size : Int) = 256 := by rw [tab_size0]; rfl
theorem bitLen_le8'' {y : Int} (h : 0 ≤ y ∧ y < (Lib.len8tab.size : Int)) : Lib.bitLen y.toNat ≤ 8 := by
  rw [tab_size] at h
  exact Lib.bitLen_le8 ⟨y.toNat, by omega⟩
theorem tab8 (y : Int) (h : 0 ≤ y ∧ y < (Lib.len8tab.size : Int)) {h' : y.toNat < Lib.len8tab.size} : wrap64 ((Lib.len8tab[y.toNat]'h').toNat : Int) = (Lib.bitLen y.toNat : Int) := by
  have h2 := bitLen_le8'' h
  rw [tab_size] at h
  have e := tab_fin ⟨y.toNat, by omega⟩
  have e2 : Lib.len8tab[y.toNat]'h' = Lib.len8tab.data[y.toNat]! := by
    rw [getElem!_pos Lib.len8tab.data y.toNat h']; rfl
  rw [e2]
  simp only at e
  rw [e]
  unfold wrap64
  omega
set_option maxHeartbeats 4000000 in
set_option maxRecDepth 100000 in
theorem len64 (x : Int) (w : World) (h0 : 0 ≤ x) (h1 : x ≤ 18446744073709551615) :
    Calls Try.prog 110 #[.int .u64 x] w fun e w' => e = .returned (.int .i64 (Lib.bitLen x.toNat)) ∧ w' = w := by
  go_enter Try.func110, Try.ntmps110
  go_wp2
  all_goals first
    | (exfalso; have e := tab_size; omega)
    | (go_ret
       refine ⟨congrArg Ending.returned (congrArg (Value.int IntKind.i64) ?_), rfl⟩
       rw [tab8 (x / 4294967296 / 65536 / 256) (by first | assumption | exact ⟨h0, by assumption⟩)]
       have l := bitLen_le8'' (y := x / 4294967296 / 65536 / 256) (by first | assumption | exact ⟨h0, by assumption⟩)
       have e : (x / 4294967296 / 65536 / 256).toNat = x.toNat / 72057594037927936 := by omega
       have s := Lib.bitLen_shift56 x.toNat (by omega) (by omega)
       rw [e] at l ⊢
       unfold wrap64
       omega)
    | (go_ret
       refine ⟨congrArg Ending.returned (congrArg (Value.int IntKind.i64) ?_), rfl⟩
       rw [tab8 (x / 4294967296 / 65536) (by first | assumption | exact ⟨h0, by assumption⟩)]
       have l := bitLen_le8'' (y := x / 4294967296 / 65536) (by first | assumption | exact ⟨h0, by assumption⟩)
       have e : (x / 4294967296 / 65536).toNat = x.toNat / 281474976710656 := by omega
       have s := Lib.bitLen_shift48 x.toNat (by omega) (by omega)
       rw [e] at l ⊢
       unfold wrap64
       omega)
    | (go_ret
       refine ⟨congrArg Ending.returned (congrArg (Value.int IntKind.i64) ?_), rfl⟩
       rw [tab8 (x / 4294967296 / 256) (by first | assumption | exact ⟨h0, by assumption⟩)]
       have l := bitLen_le8'' (y := x / 4294967296 / 256) (by first | assumption | exact ⟨h0, by assumption⟩)
       have e : (x / 4294967296 / 256).toNat = x.toNat / 1099511627776 := by omega
       have s := Lib.bitLen_shift40 x.toNat (by omega) (by omega)
       rw [e] at l ⊢
       unfold wrap64
       omega)
    | (go_ret
       refine ⟨congrArg Ending.returned (congrArg (Value.int IntKind.i64) ?_), rfl⟩
       rw [tab8 (x / 4294967296) (by first | assumption | exact ⟨h0, by assumption⟩)]
       have l := bitLen_le8'' (y := x / 4294967296) (by first | assumption | exact ⟨h0, by assumption⟩)
       have e : (x / 4294967296).toNat = x.toNat / 4294967296 := by omega
       have s := Lib.bitLen_shift32 x.toNat (by omega) (by omega)
       rw [e] at l ⊢
       unfold wrap64
       omega)
    | (go_ret
       refine ⟨congrArg Ending.returned (congrArg (Value.int IntKind.i64) ?_), rfl⟩
       rw [tab8 (x / 65536 / 256) (by first | assumption | exact ⟨h0, by assumption⟩)]
       have l := bitLen_le8'' (y := x / 65536 / 256) (by first | assumption | exact ⟨h0, by assumption⟩)
       have e : (x / 65536 / 256).toNat = x.toNat / 16777216 := by omega
       have s := Lib.bitLen_shift24 x.toNat (by omega) (by omega)
       rw [e] at l ⊢
       unfold wrap64
       omega)
    | (go_ret
       refine ⟨congrArg Ending.returned (congrArg (Value.int IntKind.i64) ?_), rfl⟩
       rw [tab8 (x / 65536) (by first | assumption | exact ⟨h0, by assumption⟩)]
       have l := bitLen_le8'' (y := x / 65536) (by first | assumption | exact ⟨h0, by assumption⟩)
       have e : (x / 65536).toNat = x.toNat / 65536 := by omega
       have s := Lib.bitLen_shift16 x.toNat (by omega) (by omega)
       rw [e] at l ⊢
       unfold wrap64
       omega)
    | (go_ret
       refine ⟨congrArg Ending.returned (congrArg (Value.int IntKind.i64) ?_), rfl⟩
       rw [tab8 (x / 256) (by first | assumption | exact ⟨h0, by assumption⟩)]
       have l := bitLen_le8'' (y := x / 256) (by first | assumption | exact ⟨h0, by assumption⟩)
       have e : (x / 256).toNat = x.toNat / 256 := by omega
       have s := Lib.bitLen_shift8 x.toNat (by omega) (by omega)
       rw [e] at l ⊢
       unfold wrap64
       omega)
    | (go_ret
       refine ⟨congrArg Ending.returned (congrArg (Value.int IntKind.i64) ?_), rfl⟩
       rw [tab8 (x) (by first | assumption | exact ⟨h0, by assumption⟩)]
       have l := bitLen_le8'' (y := x) (by first | assumption | exact ⟨h0, by assumption⟩)
       unfold wrap64
       omega)

theorem bitLenAux_lt : ∀ (f x : Nat), x < 2 ^ f → x < 2 ^ Lib.bitLenAux f x ∧ Lib.bitLenAux f x ≤ f
  | 0, x, h => by simp [Lib.bitLenAux] at h ⊢; omega
  | f + 1, x, h => by
    rw [Lib.bitLenAux]
    split
    · rename_i h0; subst h0; simp
    · have ih := bitLenAux_lt f (x / 2) (by rw [Nat.pow_succ] at h; omega)
      refine ⟨?_, by omega⟩
      rw [Nat.add_comm, Nat.pow_succ]
      omega
theorem bitLen_lt {x : Nat} (h : x < 18446744073709551616) : x < 2 ^ Lib.bitLen x ∧ Lib.bitLen x ≤ 64 := bitLenAux_lt 64 x h
end Go.Proofs.Ytcpdelkamckmfaa.Frac
