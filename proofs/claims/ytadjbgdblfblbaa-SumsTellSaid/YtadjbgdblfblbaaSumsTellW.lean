/- The walk of the law SumsTell. -/
import Derived.Test.YtadjbgdblfblbaaSumsA
namespace Go.Proofs.Ytadjbgdblfblbaa.SumsTell
open Go.RowKit

theorem same_eq {x y : Int} (hx0 : 0 ≤ x) (hx1 : x ≤ 65535) (hy0 : 0 ≤ y) (hy1 : y ≤ 65535) : sameI x y = (x == y || (zeroI x && zeroI y)) := by
  unfold sameI zeroI
  rw [Bool.eq_iff_iff]
  simp
  omega

set_option maxHeartbeats 1000000 in
theorem walk (A : Option Addr) (n c : Nat) (zs : List Int) (x y z : Int) (w : World) (hr : RdI .u8 w A zs) (hn : zs.length = n) (hz : ∀ z ∈ zs, 0 ≤ z ∧ z ≤ 255) (hm : n ≤ 140737488355328)
    (hx0 : 0 ≤ x) (hx1 : x ≤ 65535) (hy0 : 0 ≤ y) (hy1 : y ≤ 65535) (hz0 : 0 ≤ z) (hz1 : z ≤ 65535) :
    Calls Try.prog 3 #[.slice A n c, .int .u16 x, .int .u16 y, .int .u16 z] w fun e w' => e = .returned (.bool true) ∧ Below w.heap.size w w' := by
  have hof := of_any A n c zs w hr hn hz hm
  have hdof := dof_any A n c zs w hr hn hz hm
  have hchk := check_any A n c zs w hr hn hz hm
  obtain ⟨hs0, hs1⟩ := foldI_bd (wsum zs)
  generalize foldI (wsum zs) = s at hof hdof hchk hs0 hs1
  have Hof := Lib.hid hof; clear hof
  have Hdof := Lib.hid hdof; clear hdof
  have Hchk := Lib.hid hchk; clear hchk
  clear hr hn hz hm
  have hturn := turn_any x y z hx0 hx1 hy0 hy1 hz0 hz1 w
  obtain ⟨hp0, hp1⟩ := foldI_bd ((65535 - x) + (65535 - y))
  have hd1 := dadd_any (65535 - x) (65535 - y) (by omega) (by omega) (by omega) (by omega) w
  generalize foldI ((65535 - x) + (65535 - y)) = p at hturn hd1 hp0 hp1
  obtain ⟨hq0, hq1⟩ := foldI_bd (p + z)
  have hd2 := dadd_any p z hp0 hp1 hz0 hz1 w
  generalize foldI (p + z) = q at hturn hd2 hq0 hq1
  have Hturn := Lib.hid hturn; clear hturn
  have Hd1 := Lib.hid hd1; clear hd1
  have Hd2 := Lib.hid hd2; clear hd2
  have ha1 := add_any x y ⟨hx0, hx1⟩ ⟨hy0, hy1⟩ w
  have ha2 := dadd_any x y hx0 hx1 hy0 hy1 w
  obtain ⟨hr0, hr1⟩ := foldI_bd (x + y)
  generalize foldI (x + y) = r at ha1 ha2 hr0 hr1
  have Ha1 := Lib.hid ha1; clear ha1
  have Ha2 := Lib.hid ha2; clear ha2
  have hsame := same_any x y hx0 hx1 hy0 hy1 w
  rw [same_eq hx0 hx1 hy0 hy1] at hsame
  have hzx := zero_any x w
  have hzy := zero_any y w
  generalize zeroI x = bx at hsame hzx
  generalize zeroI y = b2 at hsame hzy
  have Hzx := Lib.hid hzx; clear hzx
  have Hzy := Lib.hid hzy; clear hzy
  have hcase : (∃ b, (x == y) = b) := ⟨_, rfl⟩
  obtain ⟨b1, hb1⟩ := hcase
  rw [hb1] at hsame
  have Hsame := Lib.hid hsame; clear hsame
  go_enter Try.func3, Try.ntmps3
  go_wp2_with fail
  refine Hdof.out.mono ?_
  rintro e w' ⟨rfl, rfl⟩
  go_wp2_with fail
  refine Hd1.out.mono ?_
  rintro e w' ⟨rfl, rfl⟩
  go_wp2_with fail
  refine Hd2.out.mono ?_
  rintro e w' ⟨rfl, rfl⟩
  go_wp2_with fail
  refine Hof.out.mono ?_
  rintro e w' ⟨rfl, rfl⟩
  go_wp2_with fail
  refine Ha1.out.mono ?_
  rintro e w' ⟨rfl, rfl⟩
  go_wp2_with fail
  refine Ha2.out.mono ?_
  rintro e w' ⟨rfl, rfl⟩
  go_wp2_with fail
  refine Hchk.out.mono ?_
  rintro e w' ⟨rfl, rfl⟩
  go_wp2_with fail
  refine Hturn.out.mono ?_
  rintro e w' ⟨rfl, rfl⟩
  go_wp2_with fail
  refine Hsame.out.mono ?_
  rintro e w' ⟨rfl, rfl⟩
  cases b1
  · go_wp2_with fail
    refine Hzx.out.mono ?_
    rintro e w' ⟨rfl, rfl⟩
    cases bx
    · go_wp2_with fail
      go_ret
      exact ⟨rfl, Below.refl _ _⟩
    · go_wp2_with fail
      refine Hzy.out.mono ?_
      rintro e w' ⟨rfl, rfl⟩
      go_wp2_with fail
      go_ret
      exact ⟨rfl, Below.refl _ _⟩
  · go_wp2_with fail
    go_ret
    exact ⟨rfl, Below.refl _ _⟩
end Go.Proofs.Ytadjbgdblfblbaa.SumsTell
