/- The row of signatorylaw13.LinearColumns: what came in is read; the walk is laid into the statement. -/
import Derived.Test.YtipdpfnjobfbpaaRows
import Derived.Test.YtipdpfnjobfbpaaLLaw10
import Derived.Test.YtipdpfnjobfbpaaLRead
import Derived.WalkKit
import Derived.ProofKit
import Derived.OpenShut
import Derived.ShutString
import Derived.ChangeOld
import Derived.Below
import Derived.SizedLaws
namespace Go.Proofs.Ytipdpfnjobfbpaa.linearColumns
open Go.ChangeShapes Go.WideShapes Go.ChangeAt Go.RowKit Go.Proofs.Ytipdpfnjobfbpaa.H Go.Proofs.Ytipdpfnjobfbpaa.P
open Go.ChangeMaps (open_string shut_string)
set_option linter.unusedVariables false
theorem own : ownKnob Try.prog.godebug = none := by kernel_rfl
theorem laidOut : laidOutB Try.prog = true := by kernel_rfl
set_option maxRecDepth 100000 in
theorem lifted (os : Os) (started : os.Started) (H : Type) (enc : TypeId × Value → H) :
    ReturnsInHanded {} Try.checked os 10 .any (Rows.linearColumnsSpec.pre6 enc Try.prog Try.f10 Rows.linearColumnsRow.domain false) (Rows.linearColumnsSpec.post enc Try.prog Try.f10 false true false false) := by
  refine returnsInHanded_of_change_sized (C := Try.checked) own started (by kernel_rfl) Try.func10
    (ChangeSpec.witness6 (enc := enc) (C := Try.checked) false ⟨#[], #[.slice none 0 0], []⟩ 8 (by kernel_rfl) (by kernel_rfl) (by kernel_rfl) (by kernel_rfl)) ?_
  intro W base args ds gs before hval0 hW hcnd hsz0 _
  have hval : ∀ (j : Nat) t v, Try.f10.params[j]? = some t → args[j]? = some v → Value.okWide Try.prog W .any base t v := hval0
  have hW' := hW
  obtain ⟨p, q, hA0, hV, rfl, hfz, hnd⟩ := hW
  have hA : DataW.TrodAll enc Try.prog W 0 (fun _ => true) true Try.f10.params.toList args.toList ds p := hA0
  rw [Try.params10] at hA hval
  obtain ⟨v0, vs0, d0, ds0, p0, q0, hargs, rfl, rfl, h0, r0⟩ := trodAll_cons hA
  obtain ⟨rfl, rfl, rfl⟩ := trodAll_nil r0
  obtain rfl : args = #[v0] := by cases args; simp_all
  obtain ⟨rfl, rfl⟩ := trodVars_none hV
  have k0 := h0
  have lt0 : ∀ x ∈ p0, x.block < W.heap.size := by obtain ⟨m, hm⟩ := k0; exact DataW.trod_lt m _ _ _ hm
  obtain ⟨z0, A0, c0, rfl, hc0, hC0⟩ := open_rows40 (hval 0 40 v0 rfl rfl) h0
  clear hA0 hval0 hsz0
  refine (signatorylaw13_LinearColumns.calls (997 + 3) A0 c0 z0 true W hC0 hc0 (columns_law 997 (by omega) z0)).mono fun e W' ⟨he, bel⟩ => ?_
  subst he
  exact ⟨_, rfl, _, _, _, [], _, [], hW', trodAll_mk1 (shut_bool Try.underlying4 _), (trodAll_cons_mk (Below.trod laidOut (by kernel_rfl) (of_decide_eq_true (by kernel_rfl)) k0 bel lt0) trodAll_mk0), rfl, bel.frame _, fun h => by cases h⟩
theorem cl0 : Try.pinned.checked.prog.funcNamed Rows.linearColumnsRow.func = some 10 := by kernel_rfl
theorem cl1 : joinedFacts Try.pinned.checked.prog 10 Try.f10 Rows.linearColumnsSpec Rows.linearColumnsRow = true := by kernel_rfl
theorem cl2 : Try.f10.isInstance Try.pinned.checked.prog Rows.linearColumnsRow.origin Rows.linearColumnsRow.targs := of_decide_eq_true (by kernel_rfl)
theorem cl3 : Try.f10.isWrapper Try.pinned.checked.prog Rows.linearColumnsRow.wrapper Rows.linearColumnsRow.mainSum := by unfold Func.isWrapper; first | (rw [if_pos (by decide +kernel)]; kernel_rfl) | (rw [if_neg (by decide +kernel)]; exact ⟨rfl, rfl⟩)
theorem over : Rows.linearColumnsRow.holds Try.pinned (OpenSpec.ofChange Rows.linearColumnsSpec) :=
  OpenClaim.holds_of_wide 10 Try.f10 rfl rfl rfl rfl rfl rfl rfl ⟨rfl, rfl, rfl, rfl, rfl⟩ rfl rfl rfl rfl rfl cl0 Try.func10 cl1 cl2 cl3
    (fun os started H enc _ => lifted os started H enc)
theorem proved : Rows.LinearColumnsSaid := over
#print axioms proved
end Go.Proofs.Ytipdpfnjobfbpaa.linearColumns
namespace Go.Proofs.Ytipdpfnjobfbpaa
/-- The row, under a short name, for the claim. -/
theorem linearColumns_holds : Rows.LinearColumnsSaid := linearColumns.proved
end Go.Proofs.Ytipdpfnjobfbpaa
