/- bench.Tell answers what the reference does: for every text of bulk at most 1048576 the law returns true, and its argument reads afterwards as it did. The tied card of the second form. -/
import Derived.Test.YtfcpmcdlgkfolaaDoorBenchTellsR
import Derived.Test.YtfcpmcdlgkfolaaDoorCards
namespace Go.Proofs.YtfcpmcdlgkfolaaDoor

theorem benchTells_holds : Rows.BenchTellsUptoCardSaid :=
  Claim7.holds_tied_plain_at .later [] [.data, .data, .data, .data, .sentinel, .sentinel, .pinned] true Rows.benchTellsUptoCard.stood.harness true BenchTells.over (fun _ h => by cases h) (by kernel_rfl) (fun _ h => by cases h) benchTellsUpto_row_tie rfl ⟨rfl, rfl⟩ (by kernel_rfl) rfl
    (fun f fn hf hfn => by
      obtain rfl : f = 4 := Option.some.inj ((show Tryd.prog.funcNamed Rows.benchTellsUptoRow.func = some 4 by kernel_rfl).symm.trans hf) |>.symm
      obtain rfl : fn = Tryd.f4 := (Option.some.inj (Tryd.func4.symm.trans hfn)).symm
      refine ⟨by kernel_rfl, fun j t ht => ?_⟩
      have hall : (Tryd.f4.params.toList.all fun u => !Tryd.prog.wantsStandIn u) = true := by kernel_rfl
      have hm : t ∈ Tryd.f4.params.toList := by simpa using Array.mem_of_getElem? ht
      show Tryd.prog.wantsStandIn t = false
      simpa using List.all_eq_true.1 hall t hm)
    (by kernel_rfl)
end Go.Proofs.YtfcpmcdlgkfolaaDoor
