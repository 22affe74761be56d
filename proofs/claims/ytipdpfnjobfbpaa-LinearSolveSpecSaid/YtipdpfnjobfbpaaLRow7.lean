/- The row of signatorylaw13.LinearSolveSpec: what came in is read; the walk is laid into the statement. -/
import Derived.Test.YtipdpfnjobfbpaaRows
import Derived.Test.YtipdpfnjobfbpaaLLaw7
import Derived.Test.YtipdpfnjobfbpaaLRead
import Derived.WalkKit
import Derived.ProofKit
import Derived.OpenShut
import Derived.ShutString
import Derived.ChangeOld
import Derived.Below
import Derived.SizedLaws
namespace Go.Proofs.Ytipdpfnjobfbpaa.linearSolveSpec
open Go.ChangeShapes Go.WideShapes Go.ChangeAt Go.RowKit Go.Proofs.Ytipdpfnjobfbpaa.H Go.Proofs.Ytipdpfnjobfbpaa.P
open Go.ChangeMaps (open_string shut_string)
set_option linter.unusedVariables false
theorem own : ownKnob Try.prog.godebug = none := by kernel_rfl
theorem laidOut : laidOutB Try.prog = true := by kernel_rfl
set_option maxRecDepth 100000 in
theorem lifted (os : Os) (started : os.Started) (H : Type) (enc : TypeId × Value → H) :
    ReturnsInHanded {} Try.checked os 7 .any (Rows.linearSolveSpecSpec.pre6 enc Try.prog Try.f7 Rows.linearSolveSpecRow.domain false) (Rows.linearSolveSpecSpec.post enc Try.prog Try.f7 false true false false) := by
  refine returnsInHanded_of_change_sized (C := Try.checked) own started (by kernel_rfl) Try.func7
    (ChangeSpec.witness6 (enc := enc) (C := Try.checked) false ⟨#[], #[.slice none 0 0, .slice none 0 0], []⟩ 8 (by kernel_rfl) (by kernel_rfl) (by kernel_rfl) (by kernel_rfl)) ?_
  intro W base args ds gs before hval0 hW hcnd hsz0 _
  have hval : ∀ (j : Nat) t v, Try.f7.params[j]? = some t → args[j]? = some v → Value.okWide Try.prog W .any base t v := hval0
  have hW' := hW
  obtain ⟨p, q, hA0, hV, rfl, hfz, hnd⟩ := hW
  have hA : DataW.TrodAll enc Try.prog W 0 (fun _ => true) true Try.f7.params.toList args.toList ds p := hA0
  rw [Try.params7] at hA hval
  obtain ⟨v0, vs0, d0, ds0, p0, q0, hargs, rfl, rfl, h0, r0⟩ := trodAll_cons hA
  obtain ⟨v1, vs1, d1, ds1, p1, q1, rfl, rfl, rfl, h1, r1⟩ := trodAll_cons r0
  obtain ⟨rfl, rfl, rfl⟩ := trodAll_nil r1
  obtain rfl : args = #[v0, v1] := by cases args; simp_all
  obtain ⟨rfl, rfl⟩ := trodVars_none hV
  have k0 := h0
  have lt0 : ∀ x ∈ p0, x.block < W.heap.size := by obtain ⟨m, hm⟩ := k0; exact DataW.trod_lt m _ _ _ hm
  obtain ⟨z0, A0, c0, rfl, hc0, hC0⟩ := open_rows40 (hval 0 40 v0 rfl rfl) h0
  have k1 := h1
  have lt1 : ∀ x ∈ p1, x.block < W.heap.size := by obtain ⟨m, hm⟩ := k1; exact DataW.trod_lt m _ _ _ hm
  obtain ⟨z1, A1, c1, rfl, hc1, hC1⟩ := open_ints31 (hval 1 31 v1 rfl rfl) h1
  clear hA0 hval0 hsz0
  refine (law7_calls A0 c0 z0 A1 c1 z1 W hC0 hc0 hC1 hc1).mono fun e W' ⟨he, bel⟩ => ?_
  subst he
  exact ⟨_, rfl, _, _, _, [], _, [], hW', trodAll_mk1 (shut_bool Try.underlying4 _), (trodAll_cons_mk (Below.trod laidOut (by kernel_rfl) (of_decide_eq_true (by kernel_rfl)) k0 bel lt0) (trodAll_cons_mk (Below.trod laidOut (by kernel_rfl) (of_decide_eq_true (by kernel_rfl)) k1 bel lt1) trodAll_mk0)), rfl, bel.frame _, fun h => by cases h⟩
theorem cl0 : Try.pinned.checked.prog.funcNamed Rows.linearSolveSpecRow.func = some 7 := by kernel_rfl
theorem cl1 : joinedFacts Try.pinned.checked.prog 7 Try.f7 Rows.linearSolveSpecSpec Rows.linearSolveSpecRow = true := by kernel_rfl
theorem cl2 : Try.f7.isInstance Try.pinned.checked.prog Rows.linearSolveSpecRow.origin Rows.linearSolveSpecRow.targs := of_decide_eq_true (by kernel_rfl)
theorem cl3 : Try.f7.isWrapper Try.pinned.checked.prog Rows.linearSolveSpecRow.wrapper Rows.linearSolveSpecRow.mainSum := by unfold Func.isWrapper; first | (rw [if_pos (by decide +kernel)]; kernel_rfl) | (rw [if_neg (by decide +kernel)]; exact ⟨rfl, rfl⟩)
theorem over : Rows.linearSolveSpecRow.holds Try.pinned (OpenSpec.ofChange Rows.linearSolveSpecSpec) :=
  OpenClaim.holds_of_wide 7 Try.f7 rfl rfl rfl rfl rfl rfl rfl ⟨rfl, rfl, rfl, rfl, rfl⟩ rfl rfl rfl rfl rfl cl0 Try.func7 cl1 cl2 cl3
    (fun os started H enc _ => lifted os started H enc)
theorem proved : Rows.LinearSolveSpecSaid := over
#print axioms proved
end Go.Proofs.Ytipdpfnjobfbpaa.linearSolveSpec
namespace Go.Proofs.Ytipdpfnjobfbpaa
/-- The row, under a short name, for the claim. -/
theorem linearSolveSpec_holds : Rows.LinearSolveSpecSaid := linearSolveSpec.proved
end Go.Proofs.Ytipdpfnjobfbpaa
