/- formulas.Check and formulas.Holds, in the form in which their callers take them. -/
import Derived.Test.YtipdpfnjobfbpaaHHolds
namespace Go.Proofs.Ytipdpfnjobfbpaa.P
open Go.RowKit Go.Shelf Go.Proofs.YtipdpfnjobfbpaaW.PrintWords Go.Proofs.YtipdpfnjobfbpaaW.PrintLast Go.Proofs.YtipdpfnjobfbpaaW.PrintMore
set_option linter.unusedVariables false

def formulas_Check.f (a0_0 : Int) (a0_1 : Int) (l0_2 : List S24) : Option Int := some (H.checkG ⟨a0_0, a0_1, l0_2⟩)
theorem formulas_Check.calls (a0_0 : Int) (a0_1 : Int) (A0_2 : Option Addr) (c0_2 : Nat) (l0_2 : List (S24)) (r : Int) (w : World) (hr0_2 : Kd.C k24 w A0_2 l0_2.length l0_2) (hc0_2 : l0_2.length ≤ c0_2) (h : formulas_Check.f a0_0 a0_1 l0_2 = some r) :
    Calls Try.prog 25 #[.agg #[.int .i64 a0_0, .int .i64 a0_1, .slice A0_2 l0_2.length c0_2]] w fun e w' => e = .returned (.int .i64 r) ∧ Below w.heap.size w w' := by
  cases h
  exact H.check_calls ⟨a0_0, a0_1, l0_2⟩ A0_2 c0_2 w ⟨hc0_2, hr0_2⟩

def formulas_Holds.f (a0_0 : Int) (a0_1 : Int) (l0_2 : List S24) (l1 : List Int) : Option (Bool × Int) := some (H.holdsAns ⟨a0_0, a0_1, l0_2⟩ l1)
theorem formulas_Holds.calls (a0_0 : Int) (a0_1 : Int) (A0_2 : Option Addr) (c0_2 : Nat) (l0_2 : List (S24)) (A1 : Option Addr) (c1 : Nat) (l1 : List Int) (r1 : Bool) (r2 : Int) (w : World) (hr0_2 : Kd.C k24 w A0_2 l0_2.length l0_2) (hc0_2 : l0_2.length ≤ c0_2)
    (hr1 : Kd.C (Kd.int .i64) w A1 l1.length l1) (hc1 : l1.length ≤ c1) (h : formulas_Holds.f a0_0 a0_1 l0_2 l1 = some (r1, r2)) :
    Calls Try.prog 21 #[.agg #[.int .i64 a0_0, .int .i64 a0_1, .slice A0_2 l0_2.length c0_2], .slice A1 l1.length c1] w fun e w' => e = .returned (.tuple #[.bool r1, .int .i64 r2]) ∧ Below w.heap.size w w' := by
  have h2 : H.holdsAns ⟨a0_0, a0_1, l0_2⟩ l1 = (r1, r2) := Option.some.inj h
  have := H.Holds_calls ⟨a0_0, a0_1, l0_2⟩ l1 A0_2 c0_2 A1 c1 w ⟨hc0_2, hr0_2⟩ hr1
  rw [h2] at this
  exact this
end Go.Proofs.Ytipdpfnjobfbpaa.P
