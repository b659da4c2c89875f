/- What flows by turns get is what they get side by side. The tied card. -/
import Derived.Test.YtoibebmhfcjpfaaGreatDoorZfTopFairR
import Derived.Test.YtoibebmhfcjpfaaGreatDoorCards
namespace Go.Proofs.YtoibebmhfcjpfaaGreatDoor

theorem topFair_holds : Rows.TopFairCardSaid :=
  Claim7.holds_tied_plain_at .later [] [.data, .data, .data, .data, .sentinel, .sentinel, .pinned] true Rows.topFairCard.stood.harness true TopFair.over (fun _ h => by cases h) (by kernel_rfl) (fun _ h => by cases h) topFair_row_tie rfl ⟨rfl, rfl⟩ (by kernel_rfl) rfl
    (fun f fn hf hfn => by
      obtain rfl : f = 3 := Option.some.inj ((show Tryz.prog.funcNamed Rows.topFairRow.func = some 3 by kernel_rfl).symm.trans hf) |>.symm
      obtain rfl : fn = Tryz.f3 := (Option.some.inj (Tryz.func3.symm.trans hfn)).symm
      refine ⟨by kernel_rfl, fun j t ht => ?_⟩
      have hall : (Tryz.f3.params.toList.all fun u => !Tryz.prog.wantsStandIn u) = true := by kernel_rfl
      have hm : t ∈ Tryz.f3.params.toList := by simpa using Array.mem_of_getElem? ht
      show Tryz.prog.wantsStandIn t = false
      simpa using List.all_eq_true.1 hall t hm)
    (by kernel_rfl)
end Go.Proofs.YtoibebmhfcjpfaaGreatDoor
