/- Arguments that are structs with slices among their fields, slices of slices, strings: opened to plain values. -/
import Derived.Test.YtfcpmcdlgkfolaaDoorZhFrame
import Derived.Test.YtfcpmcdlgkfolaaDoorZhBnK
import Derived.Test.YtfcpmcdlgkfolaaDoorZhUpto
import Derived.Test.YtfcpmcdlgkfolaaDoorTie
import Derived.ProofKit
import Derived.OpenShut
import Derived.LaidMore
import Derived.Lay
import Derived.SevenTiedAt
import Derived.JoinedCond
import Derived.Stop.Joined
import Derived.Stop.LaidErr
namespace Go.Proofs.YtfcpmcdlgkfolaaDoor
open Go.RowKit Go.ChangeShapes Go.WideShapes Go.ChangeAt

section
variable {H : Type} {enc : TypeId × Value → H} {P : Program} {W : World} {base base' : Nat} {spare : Nat → Bool} {held : Bool}

end

section
variable {H : Type} {enc : TypeId × Value → H} {P : Program} {W : World} {base base' : Nat} {spare : Nat → Bool} {held : Bool}

end
end Go.Proofs.YtfcpmcdlgkfolaaDoor

namespace Go.Proofs.YtfcpmcdlgkfolaaDoor
open Go.ChangeShapes Go.WideShapes Go.ChangeAt Go.RowKit Go.Lib

section
variable {H : Type} {enc : TypeId × Value → H}
/-- A row with a condition, beside what holds of the world's blocks, at a world of the program's shape. -/
theorem ret_cond {a : Assume} {C : Checked} {os : Os} {f : FuncId} {fn : Func} {s : OpenSpec} {k : (H : Type) → List (DataW H) → Bool} (hk : s.cond = some k) {F : Stop.Interp} {conds : List PathCond} {apart fresh handsOn again : Bool} {X : World → Prop} (hX : ∀ w w' : World, w.heap = w'.heap → X w → X w')
    (own : ownKnob C.prog.godebug = none) (started : os.Started) (noInit : C.prog.inits.idxOf? f = none) (hfn : C.prog.funcs[f]? = some fn)
    (witness : ∃ (w : World) (tape : Tape) (i : Input), w.os = os ∧ (w.forCall tape i).Shaped C.prog ∧ i.vars = [] ∧ Input.okWide C.prog (w.forCall tape i) .any w.heap.size f i ∧
      ((s.pre enc C.prog fn conds apart (w.forCall tape i).memory i.args ∧ X (w.forCall tape i).memory) ∧ sizedMet enc C.prog fn s apart (w.forCall tape i).memory i.args) ∧ a.holds C.prog (lone (Frame.enter C.prog f i.args .normal) [] (w.forCall tape i)))
    (contract : ∀ (W : World) (base : Nat) (args : Array Value) (ds gs : List (DataW H)) (before : List MemPlace),
      (∀ (j : Nat) t v, fn.params[j]? = some t → args[j]? = some v → Value.okWide C.prog W .any base t v) →
      DataW.Whole enc C.prog fn.params.toList s.vars apart W args.toList ds gs before → k H (ds ++ gs) = true →
      (DataW.weightsEach C.prog (fn.params.toList ++ s.bare.plain.varTypes C.prog) (ds ++ gs)).all (· ≤ reachBytes) = true → X W → W.ShapedOpen C.prog →
      Calls C.prog f args W fun e W' => ∃ v, e = .returned v ∧ (s.at F).post enc C.prog fn apart fresh handsOn again W args v W') :
    ReturnsInHanded a C os f .any (fun w args => (s.pre enc C.prog fn conds apart w args ∧ X w) ∧ sizedMet enc C.prog fn s apart w args) ((s.at F).post enc C.prog fn apart fresh handsOn again) := by
  refine returnsInHanded_of_calls own started noInit witness ?_
  intro w tape i _ hsh _ hok hpre _
  obtain ⟨_, _, _, fn', hfn', _, _, _, _, hval⟩ := hok
  obtain rfl : fn' = fn := Option.some.inj (hfn'.symm.trans hfn)
  obtain ⟨⟨hp, hx⟩, hz⟩ := hpre
  obtain ⟨ds, gs, before, hw, _, hkk⟩ := (OpenSpec.pre_some hk conds apart _ _).1 hp
  have hw' := DataW.Whole.of_heap (w' := w.forCall tape i) (by rfl) hw
  refine (contract (w.forCall tape i) w.heap.size i.args ds gs before hval hw' hkk (hz.weights hw) (hX _ _ (by rfl) hx) hsh).mono fun e W' ⟨v, he, hpost⟩ => ?_
  subst he
  exact ChangeSpec.post_blind hpost
/-- One start that fits. -/
theorem wit_cond {C : Checked} {os : Os} {f : FuncId} {fn : Func} {s : OpenSpec} {k : (H : Type) → List (DataW H) → Bool} (hk : s.cond = some k) {conds : List PathCond} {apart : Bool} {X : World → Prop} (w0 : World) (args : Array Value) (fuel : Nat) (hos : w0.os = os)
    (hsh : (w0.forCall (fun _ _ => 0) ⟨#[], args, []⟩).Shaped C.prog)
    (hok : Input.okWideB C.prog (w0.forCall (fun _ _ => 0) ⟨#[], args, []⟩) f ⟨#[], args, []⟩ = true)
    {x : List (DataW H) × List (DataW H) × List MemPlace} (hx : DataW.whole enc C.prog (w0.forCall (fun _ _ => 0) ⟨#[], args, []⟩).memory fn.params.toList s.vars apart args.toList fuel = some x)
    (hconds : conds.all (PathCond.test C.prog ⟨fn.params.toList, x.1, s.bare.plain.varTypes C.prog, x.2.1⟩) = true) (hkk : k H (x.1 ++ x.2.1) = true)
    (hsz : s.bare.sizedB enc C.prog fn apart (w0.forCall (fun _ _ => 0) ⟨#[], args, []⟩).memory args fuel = true)
    (hX : X (w0.forCall (fun _ _ => 0) ⟨#[], args, []⟩).memory) :
    ∃ (w : World) (tape : Tape) (i : Input), w.os = os ∧ (w.forCall tape i).Shaped C.prog ∧ i.vars = [] ∧ Input.okWide C.prog (w.forCall tape i) .any w.heap.size f i ∧
      ((s.pre enc C.prog fn conds apart (w.forCall tape i).memory i.args ∧ X (w.forCall tape i).memory) ∧ sizedMet enc C.prog fn s apart (w.forCall tape i).memory i.args) ∧ ({ modest := false } : Assume).holds C.prog (lone (Frame.enter C.prog f i.args .normal) [] (w.forCall tape i)) :=
  ⟨w0, fun _ _ => 0, ⟨#[], args, []⟩, hos, hsh, (Input.okWide_of_okWideB (base := 0) hok).1, (Input.okWide_of_okWideB hok).2,
    ⟨⟨(OpenSpec.pre_some hk conds apart _ _).2 ⟨x.1, x.2.1, x.2.2, DataW.Whole_of_whole hx, hconds, hkk⟩, hX⟩, sizedMet_of_sizedB hsz⟩, by
    simp only [Assume.holds]
    exact ⟨by simp, by simp, fun _ => Modest.zero, by simp, by simp⟩⟩
end

/-- What the rows list. -/
abbrev LD : List (String × DataW Unit) := Rows.benchReadsRow.laid
theorem laid_heap (w w' : World) (hh : w.heap = w'.heap) (h : laidMetH Tryd.prog LD w) : laidMetH Tryd.prog LD w' := h.of_heap hh
theorem laid_plain {w : World} (h : laidMetH Tryd.prog LD w) : laidMet Tryd.prog LD w := by
  rwa [MakeChecks.laidMetH_plain _ _ _ (by kernel_rfl)] at h

def esN : String := match (Rows.laid_strconv_ErrRange : DataW Unit) with
  | .iface nm _ => nm
  | _ => ""
theorem esRow (u : TypeId) (h : Tryd.prog.typeName? 3 u = some esN) : u = 239 :=
  typeName_ptr_named (nm := "errors.errorString") (by kernel_rfl) (by kernel_rfl) (by decide) u (h.trans (congrArg some (by kernel_rfl)))

theorem gw_of {W : World} (hsh : W.ShapedOpen Tryd.prog) (hL : laidMetH Tryd.prog LD W) : Bn.Gw W := by
  have h := laid_plain hL
  obtain ⟨m, hm⟩ := YtfcpmcdlgkfolaaDoor.Bench.cutL.s1_3 W hsh
  have htab := tabIs_of_head (k := .u64) (zs := pow10Tab) (g := YtfcpmcdlgkfolaaDoor.Bench.itoaL_ren.g 17) (t := 199) (e := 60) (n := 20) (by kernel_rfl) (by kernel_rfl) Tryd.underlying199 Tryd.underlying60 (by kernel_rfl) (by kernel_rfl) h.tail.tail
  obtain ⟨a1, s1, hr, _, _, _⟩ := laid_sentinel h.tail.tail.tail.tail (g := YtfcpmcdlgkfolaaDoor.Bench.atoiL_ren.g 16) (ti := 100) (by kernel_rfl) (by kernel_rfl) Tryd.underlying100 esRow Tryd.underlying239 Tryd.underlying241 rfl rfl Tryd.underlying9 (by kernel_rfl) (by kernel_rfl)
  obtain ⟨a2, s2, hs, _, _, _⟩ := laid_sentinel h.tail.tail.tail.tail.tail (g := YtfcpmcdlgkfolaaDoor.Bench.atoiL_ren.g 15) (ti := 100) (by kernel_rfl) (by kernel_rfl) Tryd.underlying100 esRow Tryd.underlying239 Tryd.underlying241 rfl rfl Tryd.underlying9 (by kernel_rfl) (by kernel_rfl)
  refine ⟨⟨m, hm⟩, ?_, ⟨239, .pointer (some a2), ?_⟩, ⟨239, .pointer (some a1), ?_⟩⟩
  · have e : ∀ {s : String}, s = Bn.pow10N → TabIs Tryd.prog W s .u64 pow10Tab → TabIs Tryd.prog W Bn.pow10N .u64 pow10Tab := fun e h => e ▸ h
    exact e (by kernel_rfl) htab
  · have h0 := World.var?_cell (g := YtfcpmcdlgkfolaaDoor.Bench.atoiL_ren.g 15) (by kernel_rfl) hs 0
    simpa using h0
  · have h0 := World.var?_cell (g := YtfcpmcdlgkfolaaDoor.Bench.atoiL_ren.g 16) (by kernel_rfl) hr 0
    simpa using h0
end Go.Proofs.YtfcpmcdlgkfolaaDoor

namespace Go.Proofs.YtfcpmcdlgkfolaaDoor
open Go.RowKit Go.ChangeShapes Go.WideShapes Go.ChangeAt

end Go.Proofs.YtfcpmcdlgkfolaaDoor
