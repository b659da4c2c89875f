/- By a heap, and by a row: for all bytes and weights the law returns true, and its arguments read afterwards as they did. The tied card. -/
import Derived.Test.YtfcpmcdlgkfolaaDoorZsTopSortedR
import Derived.Test.YtfcpmcdlgkfolaaDoorCards
namespace Go.Proofs.YtfcpmcdlgkfolaaDoor

theorem topSorted_holds : Rows.TopSortedCardSaid :=
  Claim7.holds_tied_plain_at .later [] [.data, .data, .data, .data, .sentinel, .sentinel, .pinned] true Rows.topSortedCard.stood.harness true TopSorted.over (fun _ h => by cases h) (by kernel_rfl) (fun _ h => by cases h) topSorted_row_tie rfl ⟨rfl, rfl⟩ (by kernel_rfl) rfl
    (fun f fn hf hfn => by
      obtain rfl : f = 8 := Option.some.inj ((show Tryd.prog.funcNamed Rows.topSortedRow.func = some 8 by kernel_rfl).symm.trans hf) |>.symm
      obtain rfl : fn = Tryd.f8 := (Option.some.inj (Tryd.func8.symm.trans hfn)).symm
      refine ⟨by kernel_rfl, fun j t ht => ?_⟩
      have hall : (Tryd.f8.params.toList.all fun u => !Tryd.prog.wantsStandIn u) = true := by kernel_rfl
      have hm : t ∈ Tryd.f8.params.toList := by simpa using Array.mem_of_getElem? ht
      show Tryd.prog.wantsStandIn t = false
      simpa using List.all_eq_true.1 hall t hm)
    (by kernel_rfl)
end Go.Proofs.YtfcpmcdlgkfolaaDoor
