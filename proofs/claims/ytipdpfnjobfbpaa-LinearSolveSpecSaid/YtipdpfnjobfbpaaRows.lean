/-
  NARROWER THAN 'FOR EVERY INPUT', by the rows' own cells (each row's printed sentence says how): FormulasMonotone: loops · FormulasDual: loops · FormulasCounted: loops · ProgramSpec: loops · ProgramShape: loops · ProgramMeans: loops.
  DERIVED. THE GIVEN ROWS OF THIS SEAT. 16 by the template 'for every input the law returns true; each argument reads behind the call as it read before'; 0 by the template 'total and deterministic' (their statements: YtipdpfnjobfbpaaTotals.lean).
  GIVEN WITH THE SEED: the statements are not yours to turn. If you find one false, say at which input.
  Laid BY PROGRAM, IN A SANDBOX (cutbox-rows.mjs): the forced cells as the released guide's own fill.sh prints them over the translation 234aec506ad70d60… (all of the seat's roots in one cut). By AI agents, Wed Nov 11 2026. No macro, syntax, notation, axiom, sorry.
-/
import Derived.Test.YtipdpfnjobfbpaaChecked
import GoSem.Claim
import GoSem.ClaimJoined
import GoSem.ClaimMapViews
import Derived.JoinedTies
import Derived.KernelRfl
namespace Go.Proofs.Ytipdpfnjobfbpaa
/- THE CELL 'sum', in the pinned program and in every row, IS THE sha256 OF THE DUMP (.gsa) THAT YtipdpfnjobfbpaaProg.lean LOADS. Nothing in Lean hashes anything: it is a label: what it is worth is what the hold of that sum in a sandbox is worth. -/
noncomputable def Try.pinned : Pinned := { name := "ytipdpfnjobfbpaa", sum := "234aec506ad70d60ede8d8200ffb212e0bc7acbaf9a45af729fcdd8c40615e30", checked := Try.checked }
namespace Rows
def none {H : Type} : Left H := { results := [], args := [] }

/-- 'signatorylaw22.FormulasMonotone': WHATEVER THE INPUT: true; the input reads as it did. -/
def formulasMonotoneSpec : ChangeSpec := { name := "formulasMonotone", fn := fun _ => fun
  | [d1, d2, d3] => { results := [.lit (.bool true)], args := [d1, d2, d3] }
  | _ => none }
def formulasMonotoneRow : OpenClaim := { program := "ytipdpfnjobfbpaa", sum := "234aec506ad70d60ede8d8200ffb212e0bc7acbaf9a45af729fcdd8c40615e30", func := "signatory/signatorylaw22.FormulasMonotone", spec := "formulasMonotone", unfollowed := true, recurses := true, loops := true, apart := false }
def FormulasMonotoneSaid : Prop := formulasMonotoneRow.holds Try.pinned (OpenSpec.ofChange formulasMonotoneSpec)

/-- ITS FALSE NEIGHBOUR: 'it returns false'. Refute it at one input. -/
def formulasMonotoneWrong : ChangeSpec := { name := "formulasMonotone", fn := fun _ => fun
  | [d1, d2, d3] => { results := [.lit (.bool false)], args := [d1, d2, d3] }
  | _ => none }
def FormulasMonotoneWrongFalsely : Prop := formulasMonotoneRow.holds Try.pinned (OpenSpec.ofChange formulasMonotoneWrong)

/-- 'signatorylaw22.FormulasDual': WHATEVER THE INPUT: true; the input reads as it did. -/
def formulasDualSpec : ChangeSpec := { name := "formulasDual", fn := fun _ => fun
  | [d1, d2] => { results := [.lit (.bool true)], args := [d1, d2] }
  | _ => none }
def formulasDualRow : OpenClaim := { program := "ytipdpfnjobfbpaa", sum := "234aec506ad70d60ede8d8200ffb212e0bc7acbaf9a45af729fcdd8c40615e30", func := "signatory/signatorylaw22.FormulasDual", spec := "formulasDual", unfollowed := true, recurses := true, loops := true, apart := false }
def FormulasDualSaid : Prop := formulasDualRow.holds Try.pinned (OpenSpec.ofChange formulasDualSpec)

/-- ITS FALSE NEIGHBOUR: 'it returns false'. Refute it at one input. -/
def formulasDualWrong : ChangeSpec := { name := "formulasDual", fn := fun _ => fun
  | [d1, d2] => { results := [.lit (.bool false)], args := [d1, d2] }
  | _ => none }
def FormulasDualWrongFalsely : Prop := formulasDualRow.holds Try.pinned (OpenSpec.ofChange formulasDualWrong)

/-- 'signatorylaw22.FormulasCounted': WHATEVER THE INPUT: true; the input reads as it did. -/
def formulasCountedSpec : ChangeSpec := { name := "formulasCounted", fn := fun _ => fun
  | [d1, d2, d3] => { results := [.lit (.bool true)], args := [d1, d2, d3] }
  | _ => none }
def formulasCountedRow : OpenClaim := { program := "ytipdpfnjobfbpaa", sum := "234aec506ad70d60ede8d8200ffb212e0bc7acbaf9a45af729fcdd8c40615e30", func := "signatory/signatorylaw22.FormulasCounted", spec := "formulasCounted", unfollowed := true, recurses := true, loops := true, apart := false }
def FormulasCountedSaid : Prop := formulasCountedRow.holds Try.pinned (OpenSpec.ofChange formulasCountedSpec)

/-- ITS FALSE NEIGHBOUR: 'it returns false'. Refute it at one input. -/
def formulasCountedWrong : ChangeSpec := { name := "formulasCounted", fn := fun _ => fun
  | [d1, d2, d3] => { results := [.lit (.bool false)], args := [d1, d2, d3] }
  | _ => none }
def FormulasCountedWrongFalsely : Prop := formulasCountedRow.holds Try.pinned (OpenSpec.ofChange formulasCountedWrong)

/-- 'signatorylaw13.LinearSpec': WHATEVER THE INPUT: true; the input reads as it did. -/
def linearSpecSpec : ChangeSpec := { name := "linearSpec", fn := fun _ => fun
  | [d] => { results := [.lit (.bool true)], args := [d] }
  | _ => none }
def linearSpecRow : OpenClaim := { program := "ytipdpfnjobfbpaa", sum := "234aec506ad70d60ede8d8200ffb212e0bc7acbaf9a45af729fcdd8c40615e30", func := "signatory/signatorylaw13.LinearSpec", spec := "linearSpec", unfollowed := true, recurses := true, apart := false }
def LinearSpecSaid : Prop := linearSpecRow.holds Try.pinned (OpenSpec.ofChange linearSpecSpec)

/-- ITS FALSE NEIGHBOUR: 'it returns false'. Refute it at one input. -/
def linearSpecWrong : ChangeSpec := { name := "linearSpec", fn := fun _ => fun
  | [d] => { results := [.lit (.bool false)], args := [d] }
  | _ => none }
def LinearSpecWrongFalsely : Prop := linearSpecRow.holds Try.pinned (OpenSpec.ofChange linearSpecWrong)

/-- 'signatorylaw13.LinearSolveSpec': WHATEVER THE INPUT: true; the input reads as it did. -/
def linearSolveSpecSpec : ChangeSpec := { name := "linearSolveSpec", fn := fun _ => fun
  | [d1, d2] => { results := [.lit (.bool true)], args := [d1, d2] }
  | _ => none }
def linearSolveSpecRow : OpenClaim := { program := "ytipdpfnjobfbpaa", sum := "234aec506ad70d60ede8d8200ffb212e0bc7acbaf9a45af729fcdd8c40615e30", func := "signatory/signatorylaw13.LinearSolveSpec", spec := "linearSolveSpec", unfollowed := true, recurses := true, apart := false }
def LinearSolveSpecSaid : Prop := linearSolveSpecRow.holds Try.pinned (OpenSpec.ofChange linearSolveSpecSpec)

/-- ITS FALSE NEIGHBOUR: 'it returns false'. Refute it at one input. -/
def linearSolveSpecWrong : ChangeSpec := { name := "linearSolveSpec", fn := fun _ => fun
  | [d1, d2] => { results := [.lit (.bool false)], args := [d1, d2] }
  | _ => none }
def LinearSolveSpecWrongFalsely : Prop := linearSolveSpecRow.holds Try.pinned (OpenSpec.ofChange linearSolveSpecWrong)

/-- 'signatorylaw13.LinearEither': WHATEVER THE INPUT: true; the input reads as it did. -/
def linearEitherSpec : ChangeSpec := { name := "linearEither", fn := fun _ => fun
  | [d1, d2, d3, d4] => { results := [.lit (.bool true)], args := [d1, d2, d3, d4] }
  | _ => none }
def linearEitherRow : OpenClaim := { program := "ytipdpfnjobfbpaa", sum := "234aec506ad70d60ede8d8200ffb212e0bc7acbaf9a45af729fcdd8c40615e30", func := "signatory/signatorylaw13.LinearEither", spec := "linearEither", unfollowed := true, recurses := true, apart := false }
def LinearEitherSaid : Prop := linearEitherRow.holds Try.pinned (OpenSpec.ofChange linearEitherSpec)

/-- ITS FALSE NEIGHBOUR: 'it returns false'. Refute it at one input. -/
def linearEitherWrong : ChangeSpec := { name := "linearEither", fn := fun _ => fun
  | [d1, d2, d3, d4] => { results := [.lit (.bool false)], args := [d1, d2, d3, d4] }
  | _ => none }
def LinearEitherWrongFalsely : Prop := linearEitherRow.holds Try.pinned (OpenSpec.ofChange linearEitherWrong)

/-- 'signatorylaw13.LinearRank': WHATEVER THE INPUT: true; the input reads as it did. -/
def linearRankSpec : ChangeSpec := { name := "linearRank", fn := fun _ => fun
  | [d1, d2] => { results := [.lit (.bool true)], args := [d1, d2] }
  | _ => none }
def linearRankRow : OpenClaim := { program := "ytipdpfnjobfbpaa", sum := "234aec506ad70d60ede8d8200ffb212e0bc7acbaf9a45af729fcdd8c40615e30", func := "signatory/signatorylaw13.LinearRank", spec := "linearRank", unfollowed := true, recurses := true, apart := false }
def LinearRankSaid : Prop := linearRankRow.holds Try.pinned (OpenSpec.ofChange linearRankSpec)

/-- ITS FALSE NEIGHBOUR: 'it returns false'. Refute it at one input. -/
def linearRankWrong : ChangeSpec := { name := "linearRank", fn := fun _ => fun
  | [d1, d2] => { results := [.lit (.bool false)], args := [d1, d2] }
  | _ => none }
def LinearRankWrongFalsely : Prop := linearRankRow.holds Try.pinned (OpenSpec.ofChange linearRankWrong)

/-- 'signatorylaw13.LinearColumns': WHATEVER THE INPUT: true; the input reads as it did. -/
def linearColumnsSpec : ChangeSpec := { name := "linearColumns", fn := fun _ => fun
  | [d] => { results := [.lit (.bool true)], args := [d] }
  | _ => none }
def linearColumnsRow : OpenClaim := { program := "ytipdpfnjobfbpaa", sum := "234aec506ad70d60ede8d8200ffb212e0bc7acbaf9a45af729fcdd8c40615e30", func := "signatory/signatorylaw13.LinearColumns", spec := "linearColumns", unfollowed := true, recurses := true, apart := false }
def LinearColumnsSaid : Prop := linearColumnsRow.holds Try.pinned (OpenSpec.ofChange linearColumnsSpec)

/-- ITS FALSE NEIGHBOUR: 'it returns false'. Refute it at one input. -/
def linearColumnsWrong : ChangeSpec := { name := "linearColumns", fn := fun _ => fun
  | [d] => { results := [.lit (.bool false)], args := [d] }
  | _ => none }
def LinearColumnsWrongFalsely : Prop := linearColumnsRow.holds Try.pinned (OpenSpec.ofChange linearColumnsWrong)

/-- 'signatorylaw13.LinearSums': WHATEVER THE INPUT: true; the input reads as it did. -/
def linearSumsSpec : ChangeSpec := { name := "linearSums", fn := fun _ => fun
  | [d1, d2, d3, d4] => { results := [.lit (.bool true)], args := [d1, d2, d3, d4] }
  | _ => none }
def linearSumsRow : OpenClaim := { program := "ytipdpfnjobfbpaa", sum := "234aec506ad70d60ede8d8200ffb212e0bc7acbaf9a45af729fcdd8c40615e30", func := "signatory/signatorylaw13.LinearSums", spec := "linearSums", unfollowed := true, recurses := true, apart := false }
def LinearSumsSaid : Prop := linearSumsRow.holds Try.pinned (OpenSpec.ofChange linearSumsSpec)

/-- ITS FALSE NEIGHBOUR: 'it returns false'. Refute it at one input. -/
def linearSumsWrong : ChangeSpec := { name := "linearSums", fn := fun _ => fun
  | [d1, d2, d3, d4] => { results := [.lit (.bool false)], args := [d1, d2, d3, d4] }
  | _ => none }
def LinearSumsWrongFalsely : Prop := linearSumsRow.holds Try.pinned (OpenSpec.ofChange linearSumsWrong)

/-- 'signatorylaw13.LinearChanged': WHATEVER THE INPUT: true; the input reads as it did. -/
def linearChangedSpec : ChangeSpec := { name := "linearChanged", fn := fun _ => fun
  | [d1, d2, d3, d4, d5] => { results := [.lit (.bool true)], args := [d1, d2, d3, d4, d5] }
  | _ => none }
def linearChangedRow : OpenClaim := { program := "ytipdpfnjobfbpaa", sum := "234aec506ad70d60ede8d8200ffb212e0bc7acbaf9a45af729fcdd8c40615e30", func := "signatory/signatorylaw13.LinearChanged", spec := "linearChanged", unfollowed := true, recurses := true, apart := false }
def LinearChangedSaid : Prop := linearChangedRow.holds Try.pinned (OpenSpec.ofChange linearChangedSpec)

/-- ITS FALSE NEIGHBOUR: 'it returns false'. Refute it at one input. -/
def linearChangedWrong : ChangeSpec := { name := "linearChanged", fn := fun _ => fun
  | [d1, d2, d3, d4, d5] => { results := [.lit (.bool false)], args := [d1, d2, d3, d4, d5] }
  | _ => none }
def LinearChangedWrongFalsely : Prop := linearChangedRow.holds Try.pinned (OpenSpec.ofChange linearChangedWrong)

/-- 'signatorylaw23.ProgramSpec': WHATEVER THE INPUT: true; the input reads as it did. -/
def programSpecSpec : ChangeSpec := { name := "programSpec", fn := fun _ => fun
  | [d1, d2] => { results := [.lit (.bool true)], args := [d1, d2] }
  | _ => none }
def programSpecRow : OpenClaim := { program := "ytipdpfnjobfbpaa", sum := "234aec506ad70d60ede8d8200ffb212e0bc7acbaf9a45af729fcdd8c40615e30", func := "signatory/signatorylaw23.ProgramSpec", spec := "programSpec", unfollowed := true, recurses := true, loops := true, apart := false }
def ProgramSpecSaid : Prop := programSpecRow.holds Try.pinned (OpenSpec.ofChange programSpecSpec)

/-- ITS FALSE NEIGHBOUR: 'it returns false'. Refute it at one input. -/
def programSpecWrong : ChangeSpec := { name := "programSpec", fn := fun _ => fun
  | [d1, d2] => { results := [.lit (.bool false)], args := [d1, d2] }
  | _ => none }
def ProgramSpecWrongFalsely : Prop := programSpecRow.holds Try.pinned (OpenSpec.ofChange programSpecWrong)

/-- 'signatorylaw23.ProgramAcceptsSpec': WHATEVER THE INPUT: true; the input reads as it did. -/
def programAcceptsSpecSpec : ChangeSpec := { name := "programAcceptsSpec", fn := fun _ => fun
  | [d1, d2] => { results := [.lit (.bool true)], args := [d1, d2] }
  | _ => none }
def programAcceptsSpecRow : OpenClaim := { program := "ytipdpfnjobfbpaa", sum := "234aec506ad70d60ede8d8200ffb212e0bc7acbaf9a45af729fcdd8c40615e30", func := "signatory/signatorylaw23.ProgramAcceptsSpec", spec := "programAcceptsSpec", unfollowed := true, recurses := true, apart := false }
def ProgramAcceptsSpecSaid : Prop := programAcceptsSpecRow.holds Try.pinned (OpenSpec.ofChange programAcceptsSpecSpec)

/-- ITS FALSE NEIGHBOUR: 'it returns false'. Refute it at one input. -/
def programAcceptsSpecWrong : ChangeSpec := { name := "programAcceptsSpec", fn := fun _ => fun
  | [d1, d2] => { results := [.lit (.bool false)], args := [d1, d2] }
  | _ => none }
def ProgramAcceptsSpecWrongFalsely : Prop := programAcceptsSpecRow.holds Try.pinned (OpenSpec.ofChange programAcceptsSpecWrong)

/-- 'signatorylaw23.ProgramProves': WHATEVER THE INPUT: true; the input reads as it did. -/
def programProvesSpec : ChangeSpec := { name := "programProves", fn := fun _ => fun
  | [d1, d2] => { results := [.lit (.bool true)], args := [d1, d2] }
  | _ => none }
def programProvesRow : OpenClaim := { program := "ytipdpfnjobfbpaa", sum := "234aec506ad70d60ede8d8200ffb212e0bc7acbaf9a45af729fcdd8c40615e30", func := "signatory/signatorylaw23.ProgramProves", spec := "programProves", unfollowed := true, recurses := true, apart := false }
def ProgramProvesSaid : Prop := programProvesRow.holds Try.pinned (OpenSpec.ofChange programProvesSpec)

/-- ITS FALSE NEIGHBOUR: 'it returns false'. Refute it at one input. -/
def programProvesWrong : ChangeSpec := { name := "programProves", fn := fun _ => fun
  | [d1, d2] => { results := [.lit (.bool false)], args := [d1, d2] }
  | _ => none }
def ProgramProvesWrongFalsely : Prop := programProvesRow.holds Try.pinned (OpenSpec.ofChange programProvesWrong)

/-- 'signatorylaw23.ProgramMore': WHATEVER THE INPUT: true; the input reads as it did. -/
def programMoreSpec : ChangeSpec := { name := "programMore", fn := fun _ => fun
  | [d1, d2, d3] => { results := [.lit (.bool true)], args := [d1, d2, d3] }
  | _ => none }
def programMoreRow : OpenClaim := { program := "ytipdpfnjobfbpaa", sum := "234aec506ad70d60ede8d8200ffb212e0bc7acbaf9a45af729fcdd8c40615e30", func := "signatory/signatorylaw23.ProgramMore", spec := "programMore", unfollowed := true, recurses := true, apart := false }
def ProgramMoreSaid : Prop := programMoreRow.holds Try.pinned (OpenSpec.ofChange programMoreSpec)

/-- ITS FALSE NEIGHBOUR: 'it returns false'. Refute it at one input. -/
def programMoreWrong : ChangeSpec := { name := "programMore", fn := fun _ => fun
  | [d1, d2, d3] => { results := [.lit (.bool false)], args := [d1, d2, d3] }
  | _ => none }
def ProgramMoreWrongFalsely : Prop := programMoreRow.holds Try.pinned (OpenSpec.ofChange programMoreWrong)

/-- 'signatorylaw23.ProgramShape': WHATEVER THE INPUT: true; the input reads as it did. -/
def programShapeSpec : ChangeSpec := { name := "programShape", fn := fun _ => fun
  | [d] => { results := [.lit (.bool true)], args := [d] }
  | _ => none }
def programShapeRow : OpenClaim := { program := "ytipdpfnjobfbpaa", sum := "234aec506ad70d60ede8d8200ffb212e0bc7acbaf9a45af729fcdd8c40615e30", func := "signatory/signatorylaw23.ProgramShape", spec := "programShape", unfollowed := true, recurses := true, loops := true, apart := false }
def ProgramShapeSaid : Prop := programShapeRow.holds Try.pinned (OpenSpec.ofChange programShapeSpec)

/-- ITS FALSE NEIGHBOUR: 'it returns false'. Refute it at one input. -/
def programShapeWrong : ChangeSpec := { name := "programShape", fn := fun _ => fun
  | [d] => { results := [.lit (.bool false)], args := [d] }
  | _ => none }
def ProgramShapeWrongFalsely : Prop := programShapeRow.holds Try.pinned (OpenSpec.ofChange programShapeWrong)

/-- 'signatorylaw23.ProgramMeans': WHATEVER THE INPUT: true; the input reads as it did. -/
def programMeansSpec : ChangeSpec := { name := "programMeans", fn := fun _ => fun
  | [d1, d2] => { results := [.lit (.bool true)], args := [d1, d2] }
  | _ => none }
def programMeansRow : OpenClaim := { program := "ytipdpfnjobfbpaa", sum := "234aec506ad70d60ede8d8200ffb212e0bc7acbaf9a45af729fcdd8c40615e30", func := "signatory/signatorylaw23.ProgramMeans", spec := "programMeans", unfollowed := true, recurses := true, loops := true, apart := false }
def ProgramMeansSaid : Prop := programMeansRow.holds Try.pinned (OpenSpec.ofChange programMeansSpec)

/-- ITS FALSE NEIGHBOUR: 'it returns false'. Refute it at one input. -/
def programMeansWrong : ChangeSpec := { name := "programMeans", fn := fun _ => fun
  | [d1, d2] => { results := [.lit (.bool false)], args := [d1, d2] }
  | _ => none }
def ProgramMeansWrongFalsely : Prop := programMeansRow.holds Try.pinned (OpenSpec.ofChange programMeansWrong)

/- THE SECOND FORM. 'bulk': how many values and letters a reading holds, each counted each time it is reached (what is shared counts as often as it is met; a slice's spare places count too). A statement '..UptoSaid' is the law's where the arguments, and the package variables that the reading takes, are together of bulk at most 1048576: NARROWER than '..Said'. Prove '..Said' where nothing that the law and all that it calls make is longer than what came in: it says more and counts as full. Else prove '..UptoSaid'. A law counts once. -/
mutual
def uptoBulk {H : Type} : DataW H → Nat
  | .lit (.string bytes) => bytes.length + 1
  | .lit _ => 1
  | .nil => 1
  | .ptr d => uptoBulk d + 1
  | .slice elems spare => uptoBulkAll elems + uptoBulkAll spare + 1
  | .agg parts => uptoBulkAll parts + 1
  | .iface _ d => uptoBulk d + 1
  | .map entries => uptoBulkEntries entries + 1
  | .held _ => 1
def uptoBulkAll {H : Type} : List (DataW H) → Nat
  | [] => 0
  | d :: r => uptoBulk d + uptoBulkAll r
def uptoBulkEntries {H : Type} : List (Lit × DataW H) → Nat
  | [] => 0
  | x :: r => uptoBulkEntry x + uptoBulkEntries r
def uptoBulkEntry {H : Type} : Lit × DataW H → Nat
  | (.string bytes, d) => bytes.length + uptoBulk d + 1
  | (_, d) => uptoBulk d + 1
 end
def uptoSmall : (H : Type) → List (DataW H) → Bool := fun _ ds => decide (uptoBulkAll ds ≤ 1048576)
def OpenSpec.upto (s : _root_.Go.ChangeSpec) : _root_.Go.OpenSpec := { _root_.Go.OpenSpec.ofChange s with cond := some uptoSmall }

/-- 'signatorylaw22.FormulasMonotone', WHERE WHAT IT READS IS OF BULK AT MOST 1048576: true; the input reads as it did. -/
def formulasMonotoneUptoRow : OpenClaim := { program := "ytipdpfnjobfbpaa", sum := "234aec506ad70d60ede8d8200ffb212e0bc7acbaf9a45af729fcdd8c40615e30", func := "signatory/signatorylaw22.FormulasMonotone", spec := "formulasMonotone", unfollowed := true, recurses := true, loops := true, apart := false, narrowed := true }
def FormulasMonotoneUptoSaid : Prop := formulasMonotoneUptoRow.holds Try.pinned (OpenSpec.upto formulasMonotoneSpec)

/-- 'signatorylaw22.FormulasDual', WHERE WHAT IT READS IS OF BULK AT MOST 1048576: true; the input reads as it did. -/
def formulasDualUptoRow : OpenClaim := { program := "ytipdpfnjobfbpaa", sum := "234aec506ad70d60ede8d8200ffb212e0bc7acbaf9a45af729fcdd8c40615e30", func := "signatory/signatorylaw22.FormulasDual", spec := "formulasDual", unfollowed := true, recurses := true, loops := true, apart := false, narrowed := true }
def FormulasDualUptoSaid : Prop := formulasDualUptoRow.holds Try.pinned (OpenSpec.upto formulasDualSpec)

/-- 'signatorylaw22.FormulasCounted', WHERE WHAT IT READS IS OF BULK AT MOST 1048576: true; the input reads as it did. -/
def formulasCountedUptoRow : OpenClaim := { program := "ytipdpfnjobfbpaa", sum := "234aec506ad70d60ede8d8200ffb212e0bc7acbaf9a45af729fcdd8c40615e30", func := "signatory/signatorylaw22.FormulasCounted", spec := "formulasCounted", unfollowed := true, recurses := true, loops := true, apart := false, narrowed := true }
def FormulasCountedUptoSaid : Prop := formulasCountedUptoRow.holds Try.pinned (OpenSpec.upto formulasCountedSpec)

/-- 'signatorylaw13.LinearSpec', WHERE WHAT IT READS IS OF BULK AT MOST 1048576: true; the input reads as it did. -/
def linearSpecUptoRow : OpenClaim := { program := "ytipdpfnjobfbpaa", sum := "234aec506ad70d60ede8d8200ffb212e0bc7acbaf9a45af729fcdd8c40615e30", func := "signatory/signatorylaw13.LinearSpec", spec := "linearSpec", unfollowed := true, recurses := true, apart := false, narrowed := true }
def LinearSpecUptoSaid : Prop := linearSpecUptoRow.holds Try.pinned (OpenSpec.upto linearSpecSpec)

/-- 'signatorylaw13.LinearSolveSpec', WHERE WHAT IT READS IS OF BULK AT MOST 1048576: true; the input reads as it did. -/
def linearSolveSpecUptoRow : OpenClaim := { program := "ytipdpfnjobfbpaa", sum := "234aec506ad70d60ede8d8200ffb212e0bc7acbaf9a45af729fcdd8c40615e30", func := "signatory/signatorylaw13.LinearSolveSpec", spec := "linearSolveSpec", unfollowed := true, recurses := true, apart := false, narrowed := true }
def LinearSolveSpecUptoSaid : Prop := linearSolveSpecUptoRow.holds Try.pinned (OpenSpec.upto linearSolveSpecSpec)

/-- 'signatorylaw13.LinearEither', WHERE WHAT IT READS IS OF BULK AT MOST 1048576: true; the input reads as it did. -/
def linearEitherUptoRow : OpenClaim := { program := "ytipdpfnjobfbpaa", sum := "234aec506ad70d60ede8d8200ffb212e0bc7acbaf9a45af729fcdd8c40615e30", func := "signatory/signatorylaw13.LinearEither", spec := "linearEither", unfollowed := true, recurses := true, apart := false, narrowed := true }
def LinearEitherUptoSaid : Prop := linearEitherUptoRow.holds Try.pinned (OpenSpec.upto linearEitherSpec)

/-- 'signatorylaw13.LinearRank', WHERE WHAT IT READS IS OF BULK AT MOST 1048576: true; the input reads as it did. -/
def linearRankUptoRow : OpenClaim := { program := "ytipdpfnjobfbpaa", sum := "234aec506ad70d60ede8d8200ffb212e0bc7acbaf9a45af729fcdd8c40615e30", func := "signatory/signatorylaw13.LinearRank", spec := "linearRank", unfollowed := true, recurses := true, apart := false, narrowed := true }
def LinearRankUptoSaid : Prop := linearRankUptoRow.holds Try.pinned (OpenSpec.upto linearRankSpec)

/-- 'signatorylaw13.LinearColumns', WHERE WHAT IT READS IS OF BULK AT MOST 1048576: true; the input reads as it did. -/
def linearColumnsUptoRow : OpenClaim := { program := "ytipdpfnjobfbpaa", sum := "234aec506ad70d60ede8d8200ffb212e0bc7acbaf9a45af729fcdd8c40615e30", func := "signatory/signatorylaw13.LinearColumns", spec := "linearColumns", unfollowed := true, recurses := true, apart := false, narrowed := true }
def LinearColumnsUptoSaid : Prop := linearColumnsUptoRow.holds Try.pinned (OpenSpec.upto linearColumnsSpec)

/-- 'signatorylaw13.LinearSums', WHERE WHAT IT READS IS OF BULK AT MOST 1048576: true; the input reads as it did. -/
def linearSumsUptoRow : OpenClaim := { program := "ytipdpfnjobfbpaa", sum := "234aec506ad70d60ede8d8200ffb212e0bc7acbaf9a45af729fcdd8c40615e30", func := "signatory/signatorylaw13.LinearSums", spec := "linearSums", unfollowed := true, recurses := true, apart := false, narrowed := true }
def LinearSumsUptoSaid : Prop := linearSumsUptoRow.holds Try.pinned (OpenSpec.upto linearSumsSpec)

/-- 'signatorylaw13.LinearChanged', WHERE WHAT IT READS IS OF BULK AT MOST 1048576: true; the input reads as it did. -/
def linearChangedUptoRow : OpenClaim := { program := "ytipdpfnjobfbpaa", sum := "234aec506ad70d60ede8d8200ffb212e0bc7acbaf9a45af729fcdd8c40615e30", func := "signatory/signatorylaw13.LinearChanged", spec := "linearChanged", unfollowed := true, recurses := true, apart := false, narrowed := true }
def LinearChangedUptoSaid : Prop := linearChangedUptoRow.holds Try.pinned (OpenSpec.upto linearChangedSpec)

/-- 'signatorylaw23.ProgramSpec', WHERE WHAT IT READS IS OF BULK AT MOST 1048576: true; the input reads as it did. -/
def programSpecUptoRow : OpenClaim := { program := "ytipdpfnjobfbpaa", sum := "234aec506ad70d60ede8d8200ffb212e0bc7acbaf9a45af729fcdd8c40615e30", func := "signatory/signatorylaw23.ProgramSpec", spec := "programSpec", unfollowed := true, recurses := true, loops := true, apart := false, narrowed := true }
def ProgramSpecUptoSaid : Prop := programSpecUptoRow.holds Try.pinned (OpenSpec.upto programSpecSpec)

/-- 'signatorylaw23.ProgramAcceptsSpec', WHERE WHAT IT READS IS OF BULK AT MOST 1048576: true; the input reads as it did. -/
def programAcceptsSpecUptoRow : OpenClaim := { program := "ytipdpfnjobfbpaa", sum := "234aec506ad70d60ede8d8200ffb212e0bc7acbaf9a45af729fcdd8c40615e30", func := "signatory/signatorylaw23.ProgramAcceptsSpec", spec := "programAcceptsSpec", unfollowed := true, recurses := true, apart := false, narrowed := true }
def ProgramAcceptsSpecUptoSaid : Prop := programAcceptsSpecUptoRow.holds Try.pinned (OpenSpec.upto programAcceptsSpecSpec)

/-- 'signatorylaw23.ProgramProves', WHERE WHAT IT READS IS OF BULK AT MOST 1048576: true; the input reads as it did. -/
def programProvesUptoRow : OpenClaim := { program := "ytipdpfnjobfbpaa", sum := "234aec506ad70d60ede8d8200ffb212e0bc7acbaf9a45af729fcdd8c40615e30", func := "signatory/signatorylaw23.ProgramProves", spec := "programProves", unfollowed := true, recurses := true, apart := false, narrowed := true }
def ProgramProvesUptoSaid : Prop := programProvesUptoRow.holds Try.pinned (OpenSpec.upto programProvesSpec)

/-- 'signatorylaw23.ProgramMore', WHERE WHAT IT READS IS OF BULK AT MOST 1048576: true; the input reads as it did. -/
def programMoreUptoRow : OpenClaim := { program := "ytipdpfnjobfbpaa", sum := "234aec506ad70d60ede8d8200ffb212e0bc7acbaf9a45af729fcdd8c40615e30", func := "signatory/signatorylaw23.ProgramMore", spec := "programMore", unfollowed := true, recurses := true, apart := false, narrowed := true }
def ProgramMoreUptoSaid : Prop := programMoreUptoRow.holds Try.pinned (OpenSpec.upto programMoreSpec)

/-- 'signatorylaw23.ProgramShape', WHERE WHAT IT READS IS OF BULK AT MOST 1048576: true; the input reads as it did. -/
def programShapeUptoRow : OpenClaim := { program := "ytipdpfnjobfbpaa", sum := "234aec506ad70d60ede8d8200ffb212e0bc7acbaf9a45af729fcdd8c40615e30", func := "signatory/signatorylaw23.ProgramShape", spec := "programShape", unfollowed := true, recurses := true, loops := true, apart := false, narrowed := true }
def ProgramShapeUptoSaid : Prop := programShapeUptoRow.holds Try.pinned (OpenSpec.upto programShapeSpec)

/-- 'signatorylaw23.ProgramMeans', WHERE WHAT IT READS IS OF BULK AT MOST 1048576: true; the input reads as it did. -/
def programMeansUptoRow : OpenClaim := { program := "ytipdpfnjobfbpaa", sum := "234aec506ad70d60ede8d8200ffb212e0bc7acbaf9a45af729fcdd8c40615e30", func := "signatory/signatorylaw23.ProgramMeans", spec := "programMeans", unfollowed := true, recurses := true, loops := true, apart := false, narrowed := true }
def ProgramMeansUptoSaid : Prop := programMeansUptoRow.holds Try.pinned (OpenSpec.upto programMeansSpec)

end Rows
end Go.Proofs.Ytipdpfnjobfbpaa
