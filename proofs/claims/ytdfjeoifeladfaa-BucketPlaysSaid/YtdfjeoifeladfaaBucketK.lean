/- A bucket's Take, as a function of numbers: the program's and the reference's. -/
import Derived.Test.YtdfjeoifeladfaaBucketU
namespace Go.Proofs.Ytdfjeoifeladfaa.Bucket
open Go.RowKit

structure Bkt where
  num : Int
  den : Int
  burst : Int
  level : Int
  at0 : Int
def Bkt.right (b : Bkt) : Bool := bright b.num b.den b.burst b.level b.at0
def Bkt.lev (b : Bkt) (now : Int) : Int := Bucket.lev b.num b.den b.burst b.level b.at0 now
def zeroB : Bkt := ⟨0, 0, 0, 0, 0⟩
/-- What Take answers. -/
def take (b : Bkt) (sat sb : Int) : Bkt × Bool × Int :=
  if b.right = false then (zeroB, false, 1)
  else if sat < b.at0 ∨ 1099511627776 < sat ∨ sb < 0 ∨ 1048576 < sb then (zeroB, false, 2)
  else if sb * b.den ≤ b.lev sat then (⟨b.num, b.den, b.burst, b.lev sat - sb * b.den, sat⟩, true, 0)
  else (⟨b.num, b.den, b.burst, b.lev sat, sat⟩, false, 0)
/-- The answer as a value. -/
def takeV (r : Bkt × Bool × Int) : Value := .tuple #[.agg #[(.int .i64 r.1.num), (.int .i64 r.1.den), (.int .i64 r.1.burst), (.int .i64 r.1.level), (.int .i64 r.1.at0)], .bool r.2.1, (.int .i64 r.2.2)]

theorem prod_bd {sb den : Int} (h0 : 0 ≤ sb) (h1 : sb ≤ 1048576) (a0 : 1 ≤ den) (a1 : den ≤ 1048576) : 0 ≤ sb * den ∧ sb * den ≤ 1099511627776 :=
  ⟨Int.mul_nonneg h0 (by omega), by have : sb * den ≤ 1048576 * 1048576 := Int.mul_le_mul h1 a1 (by omega) (by omega); omega⟩

theorem take_cases (num den burst level at0 sat sb : Int) :
    (bright num den burst level at0 = false ∧ takeV (take ⟨num, den, burst, level, at0⟩ sat sb) = .tuple #[.agg #[(.int .i64 0), (.int .i64 0), (.int .i64 0), (.int .i64 0), (.int .i64 0)], .bool false, (.int .i64 1)]) ∨
    (bright num den burst level at0 = true ∧ (sat < at0 ∨ 1099511627776 < sat) ∧ takeV (take ⟨num, den, burst, level, at0⟩ sat sb) = .tuple #[.agg #[(.int .i64 0), (.int .i64 0), (.int .i64 0), (.int .i64 0), (.int .i64 0)], .bool false, (.int .i64 2)]) ∨
    (bright num den burst level at0 = true ∧ at0 ≤ sat ∧ sat ≤ 1099511627776 ∧ (sb < 0 ∨ 1048576 < sb) ∧ takeV (take ⟨num, den, burst, level, at0⟩ sat sb) = .tuple #[.agg #[(.int .i64 0), (.int .i64 0), (.int .i64 0), (.int .i64 0), (.int .i64 0)], .bool false, (.int .i64 2)]) ∨
    (bright num den burst level at0 = true ∧ at0 ≤ sat ∧ sat ≤ 1099511627776 ∧ 0 ≤ sb ∧ sb ≤ 1048576 ∧ sb * den ≤ lev num den burst level at0 sat ∧ takeV (take ⟨num, den, burst, level, at0⟩ sat sb) = .tuple #[.agg #[(.int .i64 num), (.int .i64 den), (.int .i64 burst), (.int .i64 (lev num den burst level at0 sat - sb * den)), (.int .i64 sat)], .bool true, (.int .i64 0)]) ∨
    (bright num den burst level at0 = true ∧ at0 ≤ sat ∧ sat ≤ 1099511627776 ∧ 0 ≤ sb ∧ sb ≤ 1048576 ∧ lev num den burst level at0 sat < sb * den ∧ takeV (take ⟨num, den, burst, level, at0⟩ sat sb) = .tuple #[.agg #[(.int .i64 num), (.int .i64 den), (.int .i64 burst), (.int .i64 (lev num den burst level at0 sat)), (.int .i64 sat)], .bool false, (.int .i64 0)]) := by
  cases hr : bright num den burst level at0
  · left; exact ⟨rfl, by rw [take, if_pos (show Bkt.right ⟨num, den, burst, level, at0⟩ = false from hr)]; rfl⟩
  right
  have e : take ⟨num, den, burst, level, at0⟩ sat sb = if sat < at0 ∨ 1099511627776 < sat ∨ sb < 0 ∨ 1048576 < sb then (zeroB, false, 2)
    else if sb * den ≤ lev num den burst level at0 sat then (⟨num, den, burst, lev num den burst level at0 sat - sb * den, sat⟩, true, 0)
    else (⟨num, den, burst, lev num den burst level at0 sat, sat⟩, false, 0) := by rw [take, if_neg (show ¬ Bkt.right ⟨num, den, burst, level, at0⟩ = false from fun h => by rw [show Bkt.right ⟨num, den, burst, level, at0⟩ = true from hr] at h; cases h)]; rfl
  rw [e]
  by_cases h1 : sat < at0 ∨ 1099511627776 < sat
  · left; rw [if_pos (by omega)]; exact ⟨rfl, h1, rfl⟩
  right
  by_cases h2 : sb < 0 ∨ 1048576 < sb
  · left; rw [if_pos (by omega)]; exact ⟨rfl, by omega, by omega, h2, rfl⟩
  right
  rw [if_neg (by omega)]
  by_cases h3 : sb * den ≤ lev num den burst level at0 sat
  · left; rw [if_pos h3]; exact ⟨rfl, by omega, by omega, by omega, by omega, h3, rfl⟩
  · right; rw [if_neg h3]; exact ⟨rfl, by omega, by omega, by omega, by omega, by omega, rfl⟩

theorem take_any (num den burst level at0 sat sb : Int) (w : World) : Calls Try.prog 77 #[.agg #[(.int .i64 num), (.int .i64 den), (.int .i64 burst), (.int .i64 level), (.int .i64 at0)], .agg #[(.int .i64 sat), (.int .i64 sb)]] w fun e w' => e = .returned (takeV (take ⟨num, den, burst, level, at0⟩ sat sb)) ∧ Below w.heap.size w w' := by
  rcases take_cases num den burst level at0 sat sb with ⟨hr, h⟩ | ⟨hr, h1, h⟩ | ⟨hr, h1, h2, h3, h⟩ | ⟨hr, h1, h2, h3, h4, h5, h⟩ | ⟨hr, h1, h2, h3, h4, h5, h⟩ <;> rw [h]
  · exact take_err num den burst level at0 sat sb 1 w rfl (Lib.hid fun W => fill_bad num den burst level at0 sat W hr)
  · exact take_err num den burst level at0 sat sb 2 w rfl (Lib.hid fun W => fill_range num den burst level at0 sat W hr h1)
  · exact take_bytes num den burst level at0 sat sb _ w (by omega) (Lib.hid fun W => fill_ok num den burst level at0 sat W hr h1 h2)
  · obtain ⟨l0, l1, l2, d0, d1⟩ := lev_bd hr h1
    obtain ⟨p0, p1⟩ := prod_bd h3 h4 d0 d1
    exact take_yes num den burst level at0 sat sb _ w h3 h4 p0 p1 h5 (by omega) (Lib.hid fun W => fill_ok num den burst level at0 sat W hr h1 h2)
  · obtain ⟨l0, l1, l2, d0, d1⟩ := lev_bd hr h1
    obtain ⟨p0, p1⟩ := prod_bd h3 h4 d0 d1
    exact take_no num den burst level at0 sat sb _ w h3 h4 p0 p1 h5 (Lib.hid fun W => fill_ok num den burst level at0 sat W hr h1 h2)
end Go.Proofs.Ytdfjeoifeladfaa.Bucket
