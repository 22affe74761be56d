/- signatorylaw22.sane, in the form in which its callers take it. -/
import Derived.Test.YtipdpfnjobfbpaaHSane
namespace Go.Proofs.Ytipdpfnjobfbpaa.P
open Go.RowKit Go.Shelf Go.Proofs.YtipdpfnjobfbpaaW.PrintWords Go.Proofs.YtipdpfnjobfbpaaW.PrintLast Go.Proofs.YtipdpfnjobfbpaaW.PrintMore
set_option linter.unusedVariables false
def signatorylaw22_sane.f : Option Bool := some true
theorem signatorylaw22_sane.calls (r : Bool) (w : World) (h : signatorylaw22_sane.f = some r) :
    Calls Try.prog 19 #[] w fun e w' => e = .returned (.bool r) ∧ Below w.heap.size w w' := by
  cases h
  exact H.sane22_calls w
end Go.Proofs.Ytipdpfnjobfbpaa.P
