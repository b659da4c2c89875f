/- One step of a queue as a plain function; both Step and HStep compute it. -/
import Derived.Test.YtlmnlffbbbcodaaRingD
import Derived.Test.YtlmnlffbbbcodaaRingE
import Derived.Test.YtlmnlffbbbcodaaRingF
import Derived.Test.YtlmnlffbbbcodaaRingG
import Derived.Test.YtlmnlffbbbcodaaRingH
namespace Go.Proofs.Ytlmnlffbbbcodaa.Ring
open Go.RowKit Go.Proofs.Ytlmnlffbbbcodaa.Big

def stp (zs : List Int) (most mb drops kind v : Int) : Option (Int × List Int × Int) :=
  if right zs most mb drops = true then
    if kind = 1 then
      if v < 1 then none
      else if 1500 < v then none
      else if (zs.length : Int) < most ∧ tot zs + v ≤ mb then some (1, zs ++ [v], drops)
      else if drops = 1099511627776 then none
      else some (0, zs, drops + 1)
    else if kind = 2 then
      if zs.length = 0 then none else some (zs.headD 0, zs.tail, drops)
    else none
  else none

def Refuses (A : Option Addr) (n c : Nat) (most mb drops kind v : Int) (w : World) : Prop :=
  ∃ er : Int, er ≠ 0 ∧ (∀ W : World, Below w.heap.size w W → Calls Try.prog 90 #[.agg #[.slice A n c, (.int .i64 most), (.int .i64 mb), (.int .i64 drops)], .agg #[(.int .i64 kind), (.int .i64 v)]] W fun e w' => e = .returned (.tuple #[.agg #[.slice none 0 0, (.int .i64 0), (.int .i64 0), (.int .i64 0)], (.int .i64 0), (.int .i64 er)]) ∧ Below W.heap.size W w') ∧
      (∀ W : World, Below w.heap.size w W → Calls Try.prog 92 #[.agg #[.slice A n c, (.int .i64 most), (.int .i64 mb), (.int .i64 drops)], .agg #[(.int .i64 kind), (.int .i64 v)]] W fun e w' => e = .returned (.tuple #[.agg #[.slice none 0 0, (.int .i64 0), (.int .i64 0), (.int .i64 0)], (.int .i64 0), (.int .i64 er)]) ∧ Below W.heap.size W w')

def Takes (A : Option Addr) (n c : Nat) (most mb drops kind v : Int) (w : World) (r : Int) (xs : List Int) (dr : Int) : Prop :=
  xs.length ≤ 1000 ∧ (∀ W : World, Below w.heap.size w W → Calls Try.prog 90 #[.agg #[.slice A n c, (.int .i64 most), (.int .i64 mb), (.int .i64 drops)], .agg #[(.int .i64 kind), (.int .i64 v)]] W fun e w' => StepR most mb dr r xs W e w') ∧
      (∀ W : World, Below w.heap.size w W → Calls Try.prog 92 #[.agg #[.slice A n c, (.int .i64 most), (.int .i64 mb), (.int .i64 drops)], .agg #[(.int .i64 kind), (.int .i64 v)]] W fun e w' => StepR most mb dr r xs W e w')

theorem step_stp (A : Option Addr) (n c : Nat) (zs : List Int) (most mb drops kind v : Int) (w : World) (hr : RdI .i64 w A zs) (hn : zs.length = n) (hm : n * 8 ≤ 140737488355328) :
    (stp zs most mb drops kind v = none ∧ Refuses A n c most mb drops kind v w) ∨ (∃ r xs dr, stp zs most mb drops kind v = some (r, xs, dr) ∧ Takes A n c most mb drops kind v w r xs dr) := by
  unfold stp
  cases h : right zs most mb drops
  · exact .inl ⟨by simp, 1, by decide, fun W hW => step_form A n c zs most mb drops kind v W (hr.below hW) hn (by omega) h, fun W hW => hstep_form A n c zs most mb drops kind v W (hr.below hW) hn hm h⟩
  · obtain ⟨⟨_, _, ⟨m4, m5⟩, m6⟩, hall, t0, t1⟩ := right_parts h
    have m1 : most ≤ 400 := by
      have := right_parts h
      exact this.1.1.2
    rw [hn] at m6
    rw [if_pos rfl, hn]
    by_cases k1 : kind = 1
    · subst k1
      rw [if_pos rfl]
      by_cases r1 : v < 1
      · exact .inl ⟨by rw [if_pos r1], 2, by decide, fun W hW => step_range A n c zs most mb drops v W (hr.below hW) hn h (.inl r1), fun W hW => hstep_range1 A n c zs most mb drops v W (hr.below hW) hn hm h r1⟩
      rw [if_neg r1]
      by_cases r2 : 1500 < v
      · exact .inl ⟨by rw [if_pos r2], 2, by decide, fun W hW => step_range A n c zs most mb drops v W (hr.below hW) hn h (.inr ⟨by omega, r2⟩), fun W hW => hstep_range2 A n c zs most mb drops v W (hr.below hW) hn hm h (by omega) r2⟩
      rw [if_neg r2]
      by_cases f : (n : Int) < most ∧ tot zs + v ≤ mb
      · exact .inr ⟨1, zs ++ [v], drops, by rw [if_pos f], by simp; omega, fun W hW => step_in A n c zs most mb drops v W (hr.below hW) hn h (by omega) (by omega) f.1 f.2, fun W hW => hstep_in A n c zs most mb drops v W (hr.below hW) hn hm h (by omega) (by omega) (by omega) f.2⟩
      rw [if_neg f]
      by_cases d : drops = 1099511627776
      · exact .inl ⟨by rw [if_pos d], 4, by decide, fun W hW => step_full A n c zs most mb drops v W (hr.below hW) hn h (by omega) (by omega) (by omega) d, fun W hW => hstep_full A n c zs most mb drops v W (hr.below hW) hn hm h (by omega) (by omega) (by omega) d⟩
      · exact .inr ⟨0, zs, drops + 1, by rw [if_neg d], by omega, fun W hW => step_drop A n c zs most mb drops v W (hr.below hW) hn h (by omega) (by omega) (by omega) (by omega), fun W hW => hstep_drop A n c zs most mb drops v W (hr.below hW) hn hm h (by omega) (by omega) (by omega) (by omega)⟩
    rw [if_neg k1]
    by_cases k2 : kind = 2
    · subst k2
      rw [if_pos rfl]
      by_cases h0 : n = 0
      · exact .inl ⟨by rw [if_pos h0], 3, by decide, fun W hW => step_none A n c zs most mb drops v W (hr.below hW) hn h h0, fun W hW => hstep_none A n c zs most mb drops v W (hr.below hW) hn hm h h0⟩
      · exact .inr ⟨zs.headD 0, zs.tail, drops, by rw [if_neg h0], by simp; omega, fun W hW => step_out A n c zs most mb drops v W (hr.below hW) hn h (by omega), fun W hW => hstep_out A n c zs most mb drops v W (hr.below hW) hn hm h (by omega)⟩
    · exact .inl ⟨by rw [if_neg k2], 5, by decide, fun W hW => step_kind A n c zs most mb drops kind v W (hr.below hW) hn h (by simpa using k1) (by simpa using k2), fun W hW => hstep_kind A n c zs most mb drops kind v W (hr.below hW) hn hm h (by simpa using k1) (by simpa using k2)⟩
end Go.Proofs.Ytlmnlffbbbcodaa.Ring
