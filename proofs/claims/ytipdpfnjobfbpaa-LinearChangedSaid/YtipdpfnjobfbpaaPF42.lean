/- A function's Lean twin and its contract, written by a program of this claim's session (the kit's printer, turned). -/
import Derived.Test.YtipdpfnjobfbpaaP0
namespace Go.Proofs.Ytipdpfnjobfbpaa.P
open Go.RowKit Go.Proofs.YtipdpfnjobfbpaaW.PrintWords Go.Proofs.YtipdpfnjobfbpaaW.PrintLast Go.Proofs.YtipdpfnjobfbpaaW.PrintMore
attribute [local go_sem] max2_int min2_int max_two min_two max_three min_three max_four min_four   -- for this text's walks alone
set_option linter.unusedVariables false
set_option linter.unusedSimpArgs false

/-! ### field_Mod: function 42 -/
def field_Mod.f (a0 : Int) : Option (Int) := if (Int.tmod a0 1073741789) < 0 then (some (wrap64 ((Int.tmod a0 1073741789) + 1073741789))) else (some (Int.tmod a0 1073741789))
set_option maxHeartbeats 8000000 in
set_option maxRecDepth 100000 in
theorem field_Mod.calls (a0 : Int) (r : Int) (w : World) (h : field_Mod.f a0 = some r) :
    Calls Try.prog 42 #[.int .i64 a0] w fun e w' => e = .returned (.int .i64 r) ∧ Drawn0 w w' := by
  have H : (if (Int.tmod a0 1073741789) < 0 then (some (wrap64 ((Int.tmod a0 1073741789) + 1073741789))) else (some (Int.tmod a0 1073741789))) = some r := h
  clear h
  by_cases c2 : (Int.tmod a0 1073741789) < 0
  · rw [if_pos c2] at H
    have c2b0 : decide ((Int.tmod a0 1073741789) < 0) = true := decide_eq_true c2
    clear c2
    obtain rfl := Option.some.inj H
    go_enter Try.func42, Try.ntmps42
    go_wp2
    go_ret
    exact ⟨by first | rfl | (simp; done) | (simp [*]; done), by repeat (first | exact Drawn0.refl _ | apply Drawn0.step)⟩
  · rw [if_neg c2] at H
    have c2b0 : decide ((Int.tmod a0 1073741789) < 0) = false := decide_eq_false c2
    clear c2
    obtain rfl := Option.some.inj H
    go_enter Try.func42, Try.ntmps42
    go_wp2
    go_ret
    exact ⟨by first | rfl | (simp; done) | (simp [*]; done), by repeat (first | exact Drawn0.refl _ | apply Drawn0.step)⟩

end Go.Proofs.Ytipdpfnjobfbpaa.P
