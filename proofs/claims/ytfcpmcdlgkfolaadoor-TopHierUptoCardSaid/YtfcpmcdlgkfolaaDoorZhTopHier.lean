/- Each leaf has its part, however many steps it is below: for all trees, bytes and numbers the law returns true, and its arguments read afterwards as they did. The tied card of the second form. -/
import Derived.Test.YtfcpmcdlgkfolaaDoorZhTopHierR
import Derived.Test.YtfcpmcdlgkfolaaDoorCards
namespace Go.Proofs.YtfcpmcdlgkfolaaDoor

theorem topHier_holds : Rows.TopHierUptoCardSaid :=
  Claim7.holds_tied_plain_at .later [] [.data, .data, .data, .data, .sentinel, .sentinel, .pinned] true Rows.topHierUptoCard.stood.harness true TopHier.over (fun _ h => by cases h) (by kernel_rfl) (fun _ h => by cases h) topHierUpto_row_tie rfl ⟨rfl, rfl⟩ (by kernel_rfl) rfl
    (fun f fn hf hfn => by
      obtain rfl : f = 7 := Option.some.inj ((show Tryd.prog.funcNamed Rows.topHierUptoRow.func = some 7 by kernel_rfl).symm.trans hf) |>.symm
      obtain rfl : fn = Tryd.f7 := (Option.some.inj (Tryd.func7.symm.trans hfn)).symm
      refine ⟨by kernel_rfl, fun j t ht => ?_⟩
      have hall : (Tryd.f7.params.toList.all fun u => !Tryd.prog.wantsStandIn u) = true := by kernel_rfl
      have hm : t ∈ Tryd.f7.params.toList := by simpa using Array.mem_of_getElem? ht
      show Tryd.prog.wantsStandIn t = false
      simpa using List.all_eq_true.1 hall t hm)
    (by kernel_rfl)
end Go.Proofs.YtfcpmcdlgkfolaaDoor
