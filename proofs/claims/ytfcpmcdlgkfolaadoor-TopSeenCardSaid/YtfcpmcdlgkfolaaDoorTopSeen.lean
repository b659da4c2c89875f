/- A sketch sees the greatest: for all ids and widths the law returns true, and its arguments read afterwards as they did. The tied card. -/
import Derived.Test.YtfcpmcdlgkfolaaDoorTopSeenR
import Derived.Test.YtfcpmcdlgkfolaaDoorCards
namespace Go.Proofs.YtfcpmcdlgkfolaaDoor

theorem topSeen_holds : Rows.TopSeenCardSaid :=
  Claim7.holds_tied_plain_at .later [] [.data, .data, .data, .data, .sentinel, .sentinel, .pinned] true Rows.topSeenCard.stood.harness true TopSeen.over (fun _ h => by cases h) (by kernel_rfl) (fun _ h => by cases h) topSeen_row_tie rfl ⟨rfl, rfl⟩ (by kernel_rfl) rfl
    (fun f fn hf hfn => by
      obtain rfl : f = 6 := Option.some.inj ((show Tryd.prog.funcNamed Rows.topSeenRow.func = some 6 by kernel_rfl).symm.trans hf) |>.symm
      obtain rfl : fn = Tryd.f6 := (Option.some.inj (Tryd.func6.symm.trans hfn)).symm
      refine ⟨by kernel_rfl, fun j t ht => ?_⟩
      have hall : (Tryd.f6.params.toList.all fun u => !Tryd.prog.wantsStandIn u) = true := by kernel_rfl
      have hm : t ∈ Tryd.f6.params.toList := by simpa using Array.mem_of_getElem? ht
      show Tryd.prog.wantsStandIn t = false
      simpa using List.all_eq_true.1 hall t hm)
    (by kernel_rfl)
end Go.Proofs.YtfcpmcdlgkfolaaDoor
