/- The row of signatorylaw13.LinearSpec: what came in is read; the walk is laid into the statement. -/
import Derived.Test.YtipdpfnjobfbpaaRows
import Derived.Test.YtipdpfnjobfbpaaLLaw6
import Derived.Test.YtipdpfnjobfbpaaLRead
import Derived.WalkKit
import Derived.ProofKit
import Derived.OpenShut
import Derived.ShutString
import Derived.ChangeOld
import Derived.Below
import Derived.SizedLaws
namespace Go.Proofs.Ytipdpfnjobfbpaa.linearSpec
open Go.ChangeShapes Go.WideShapes Go.ChangeAt Go.RowKit Go.Proofs.Ytipdpfnjobfbpaa.H Go.Proofs.Ytipdpfnjobfbpaa.P
open Go.ChangeMaps (open_string shut_string)
set_option linter.unusedVariables false
theorem own : ownKnob Try.prog.godebug = none := by kernel_rfl
theorem laidOut : laidOutB Try.prog = true := by kernel_rfl
set_option maxRecDepth 100000 in
theorem lifted (os : Os) (started : os.Started) (H : Type) (enc : TypeId × Value → H) :
    ReturnsInHanded {} Try.checked os 6 .any (Rows.linearSpecSpec.pre6 enc Try.prog Try.f6 Rows.linearSpecRow.domain false) (Rows.linearSpecSpec.post enc Try.prog Try.f6 false true false false) := by
  refine returnsInHanded_of_change_sized (C := Try.checked) own started (by kernel_rfl) Try.func6
    (ChangeSpec.witness6 (enc := enc) (C := Try.checked) false ⟨#[], #[.slice none 0 0], []⟩ 8 (by kernel_rfl) (by kernel_rfl) (by kernel_rfl) (by kernel_rfl)) ?_
  intro W base args ds gs before hval0 hW hcnd hsz0 _
  have hval : ∀ (j : Nat) t v, Try.f6.params[j]? = some t → args[j]? = some v → Value.okWide Try.prog W .any base t v := hval0
  have hW' := hW
  obtain ⟨p, q, hA0, hV, rfl, hfz, hnd⟩ := hW
  have hA : DataW.TrodAll enc Try.prog W 0 (fun _ => true) true Try.f6.params.toList args.toList ds p := hA0
  rw [Try.params6] at hA hval
  obtain ⟨v0, vs0, d0, ds0, p0, q0, hargs, rfl, rfl, h0, r0⟩ := trodAll_cons hA
  obtain ⟨rfl, rfl, rfl⟩ := trodAll_nil r0
  obtain rfl : args = #[v0] := by cases args; simp_all
  obtain ⟨rfl, rfl⟩ := trodVars_none hV
  have k0 := h0
  have lt0 : ∀ x ∈ p0, x.block < W.heap.size := by obtain ⟨m, hm⟩ := k0; exact DataW.trod_lt m _ _ _ hm
  obtain ⟨z0, A0, c0, rfl, hc0, hC0⟩ := open_rows40 (hval 0 40 v0 rfl rfl) h0
  clear hA0 hval0 hsz0
  refine (law6_calls A0 c0 z0 W hC0 hc0).mono fun e W' ⟨he, bel⟩ => ?_
  subst he
  exact ⟨_, rfl, _, _, _, [], _, [], hW', trodAll_mk1 (shut_bool Try.underlying4 _), (trodAll_cons_mk (Below.trod laidOut (by kernel_rfl) (of_decide_eq_true (by kernel_rfl)) k0 bel lt0) trodAll_mk0), rfl, bel.frame _, fun h => by cases h⟩
theorem cl0 : Try.pinned.checked.prog.funcNamed Rows.linearSpecRow.func = some 6 := by kernel_rfl
theorem cl1 : joinedFacts Try.pinned.checked.prog 6 Try.f6 Rows.linearSpecSpec Rows.linearSpecRow = true := by kernel_rfl
theorem cl2 : Try.f6.isInstance Try.pinned.checked.prog Rows.linearSpecRow.origin Rows.linearSpecRow.targs := of_decide_eq_true (by kernel_rfl)
theorem cl3 : Try.f6.isWrapper Try.pinned.checked.prog Rows.linearSpecRow.wrapper Rows.linearSpecRow.mainSum := by unfold Func.isWrapper; first | (rw [if_pos (by decide +kernel)]; kernel_rfl) | (rw [if_neg (by decide +kernel)]; exact ⟨rfl, rfl⟩)
theorem over : Rows.linearSpecRow.holds Try.pinned (OpenSpec.ofChange Rows.linearSpecSpec) :=
  OpenClaim.holds_of_wide 6 Try.f6 rfl rfl rfl rfl rfl rfl rfl ⟨rfl, rfl, rfl, rfl, rfl⟩ rfl rfl rfl rfl rfl cl0 Try.func6 cl1 cl2 cl3
    (fun os started H enc _ => lifted os started H enc)
theorem proved : Rows.LinearSpecSaid := over
#print axioms proved
end Go.Proofs.Ytipdpfnjobfbpaa.linearSpec
namespace Go.Proofs.Ytipdpfnjobfbpaa
/-- The row, under a short name, for the claim. -/
theorem linearSpec_holds : Rows.LinearSpecSaid := linearSpec.proved
end Go.Proofs.Ytipdpfnjobfbpaa
