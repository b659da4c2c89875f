/- Arguments that are structs with slices among their fields, slices of slices, strings: opened to plain values. -/
import Derived.Test.YtoibebmhfcjpfaaGreatDoorZfFrame
import Derived.Test.YtoibebmhfcjpfaaGreatDoorZfBnK
import Derived.Test.YtoibebmhfcjpfaaGreatDoorRows
import Derived.Deep.CondSized
import Derived.Test.YtoibebmhfcjpfaaGreatDoorTie
import Derived.ProofKit
import Derived.OpenShut
import Derived.LaidMore
import Derived.Lay
import Derived.SevenTiedAt
import Derived.JoinedCond
import Derived.Stop.Joined
import Derived.Stop.LaidErr
namespace Go.Proofs.YtoibebmhfcjpfaaGreatDoor
open Go.RowKit Go.ChangeShapes Go.WideShapes Go.ChangeAt

section
variable {H : Type} {enc : TypeId × Value → H} {P : Program} {W : World} {base base' : Nat} {spare : Nat → Bool} {held : Bool}

end

section
variable {H : Type} {enc : TypeId × Value → H} {P : Program} {W : World} {base base' : Nat} {spare : Nat → Bool} {held : Bool}

end
end Go.Proofs.YtoibebmhfcjpfaaGreatDoor

namespace Go.Proofs.YtoibebmhfcjpfaaGreatDoor
open Go.ChangeShapes Go.WideShapes Go.ChangeAt Go.RowKit Go.Lib

section
variable {H : Type} {enc : TypeId × Value → H}
/-- The same for a row without a condition. -/
theorem ret_all {a : Assume} {C : Checked} {os : Os} {f : FuncId} {fn : Func} {s : ChangeSpec} {conds : List PathCond} {apart fresh handsOn again : Bool} {X : World → Prop} (hX : ∀ w w' : World, w.heap = w'.heap → X w → X w')
    (own : ownKnob C.prog.godebug = none) (started : os.Started) (noInit : C.prog.inits.idxOf? f = none) (hfn : C.prog.funcs[f]? = some fn)
    (witness : ∃ (w : World) (tape : Tape) (i : Input), w.os = os ∧ (w.forCall tape i).Shaped C.prog ∧ i.vars = [] ∧ Input.okWide C.prog (w.forCall tape i) .any w.heap.size f i ∧
      ((s.pre enc C.prog fn conds apart (w.forCall tape i).memory i.args ∧ X (w.forCall tape i).memory) ∧ sizedMet enc C.prog fn (OpenSpec.ofChange s) apart (w.forCall tape i).memory i.args) ∧ a.holds C.prog (lone (Frame.enter C.prog f i.args .normal) [] (w.forCall tape i)))
    (contract : ∀ (W : World) (base : Nat) (args : Array Value) (ds gs : List (DataW H)) (before : List MemPlace),
      (∀ (j : Nat) t v, fn.params[j]? = some t → args[j]? = some v → Value.okWide C.prog W .any base t v) →
      DataW.Whole enc C.prog fn.params.toList s.vars apart W args.toList ds gs before →
      (DataW.weightsEach C.prog (fn.params.toList ++ s.plain.varTypes C.prog) (ds ++ gs)).all (· ≤ reachBytes) = true → X W → W.ShapedOpen C.prog →
      Calls C.prog f args W fun e W' => ∃ v, e = .returned v ∧ s.post enc C.prog fn apart fresh handsOn again W args v W') :
    ReturnsInHanded a C os f .any (fun w args => (s.pre enc C.prog fn conds apart w args ∧ X w) ∧ sizedMet enc C.prog fn (OpenSpec.ofChange s) apart w args) (s.post enc C.prog fn apart fresh handsOn again) := by
  refine returnsInHanded_of_calls own started noInit witness ?_
  intro w tape i _ hsh _ hok hpre _
  obtain ⟨_, _, _, fn', hfn', _, _, _, _, hval⟩ := hok
  obtain rfl : fn' = fn := Option.some.inj (hfn'.symm.trans hfn)
  obtain ⟨⟨⟨ds, gs, before, hw, _⟩, hx⟩, hz⟩ := hpre
  have hw' := DataW.Whole.of_heap (w' := w.forCall tape i) (by rfl) hw
  refine (contract (w.forCall tape i) w.heap.size i.args ds gs before hval hw' (hz.weights hw) (hX _ _ (by rfl) hx) hsh).mono fun e W' ⟨v, he, hpost⟩ => ?_
  subst he
  exact ChangeSpec.post_blind hpost
end

/-- What the rows list. -/
abbrev LD : List (String × DataW Unit) := Rows.topFairRow.laid
theorem laid_heap (w w' : World) (hh : w.heap = w'.heap) (h : laidMetH Tryz.prog LD w) : laidMetH Tryz.prog LD w' := h.of_heap hh
theorem laid_plain {w : World} (h : laidMetH Tryz.prog LD w) : laidMet Tryz.prog LD w := by
  rwa [MakeChecks.laidMetH_plain _ _ _ (by kernel_rfl)] at h

def esN : String := match (Rows.laid_strconv_ErrRange : DataW Unit) with
  | .iface nm _ => nm
  | _ => ""
theorem esRow (u : TypeId) (h : Tryz.prog.typeName? 3 u = some esN) : u = 176 :=
  typeName_ptr_named (nm := "errors.errorString") (by kernel_rfl) (by kernel_rfl) (by decide) u (h.trans (congrArg some (by kernel_rfl)))

theorem gw_of {W : World} (hsh : W.ShapedOpen Tryz.prog) (hL : laidMetH Tryz.prog LD W) : Bn.Gw W := by
  have h := laid_plain hL
  obtain ⟨m, hm⟩ := YtoibebmhfcjpfaaGreatDoor.Bench.cutL.s1_3 W hsh
  have htab := tabIs_of_head (k := .u64) (zs := pow10Tab) (g := YtoibebmhfcjpfaaGreatDoor.Bench.itoaL_ren.g 17) (t := 145) (e := 72) (n := 20) (by kernel_rfl) (by kernel_rfl) Tryz.underlying145 Tryz.underlying72 (by kernel_rfl) (by kernel_rfl) h.tail.tail
  obtain ⟨a1, s1, hr, _, _, _⟩ := laid_sentinel h.tail.tail.tail.tail (g := YtoibebmhfcjpfaaGreatDoor.Bench.atoiL_ren.g 16) (ti := 119) (by kernel_rfl) (by kernel_rfl) Tryz.underlying119 esRow Tryz.underlying176 Tryz.underlying178 rfl rfl Tryz.underlying9 (by kernel_rfl) (by kernel_rfl)
  obtain ⟨a2, s2, hs, _, _, _⟩ := laid_sentinel h.tail.tail.tail.tail.tail (g := YtoibebmhfcjpfaaGreatDoor.Bench.atoiL_ren.g 15) (ti := 119) (by kernel_rfl) (by kernel_rfl) Tryz.underlying119 esRow Tryz.underlying176 Tryz.underlying178 rfl rfl Tryz.underlying9 (by kernel_rfl) (by kernel_rfl)
  refine ⟨⟨m, hm⟩, ?_, ⟨176, .pointer (some a2), ?_⟩, ⟨176, .pointer (some a1), ?_⟩⟩
  · have e : ∀ {s : String}, s = Bn.pow10N → TabIs Tryz.prog W s .u64 pow10Tab → TabIs Tryz.prog W Bn.pow10N .u64 pow10Tab := fun e h => e ▸ h
    exact e (by kernel_rfl) htab
  · have h0 := World.var?_cell (g := YtoibebmhfcjpfaaGreatDoor.Bench.atoiL_ren.g 15) (by kernel_rfl) hs 0
    simpa using h0
  · have h0 := World.var?_cell (g := YtoibebmhfcjpfaaGreatDoor.Bench.atoiL_ren.g 16) (by kernel_rfl) hr 0
    simpa using h0
end Go.Proofs.YtoibebmhfcjpfaaGreatDoor

namespace Go.Proofs.YtoibebmhfcjpfaaGreatDoor
open Go.RowKit Go.ChangeShapes Go.WideShapes Go.ChangeAt

end Go.Proofs.YtoibebmhfcjpfaaGreatDoor
