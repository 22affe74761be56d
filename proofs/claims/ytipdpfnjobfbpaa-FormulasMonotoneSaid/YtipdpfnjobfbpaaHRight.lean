/- formulas.right: what it tells of every gate. -/
import Derived.Test.YtipdpfnjobfbpaaHIdxG
namespace Go.Proofs.Ytipdpfnjobfbpaa.H
open Go.RowKit Go.Shelf Go.Proofs.YtipdpfnjobfbpaaW.PrintWords Go.Proofs.YtipdpfnjobfbpaaW.PrintLast Go.Proofs.YtipdpfnjobfbpaaW.PrintMore Go.Proofs.Ytipdpfnjobfbpaa.P
set_option linter.unusedVariables false
set_option linter.unusedSimpArgs false

def rightB (T : S24) : Bool :=
  if 0 ≤ T.f0 then decide (T.f0 < 64) && (T.f1 == 0) && (T.f2.length == 0)
  else (T.f0 == -1) && decide (1 ≤ T.f1) && decide (T.f1 ≤ 4096) && T.f2.attach.all fun x => rightB x.1
termination_by SizeOf.sizeOf T
decreasing_by exact lt_of_mem_gate x.2
theorem rightB_eq (T : S24) : rightB T = if 0 ≤ T.f0 then decide (T.f0 < 64) && (T.f1 == 0) && (T.f2.length == 0)
  else (T.f0 == -1) && decide (1 ≤ T.f1) && decide (T.f1 ≤ 4096) && T.f2.all rightB := by
  rw [rightB]
  by_cases h : 0 ≤ T.f0
  · rw [if_pos h, if_pos h]
  · rw [if_neg h, if_neg h]; congr 1; simp

theorem right1_enters : ∀ args w, (callFunc 110 args).run Try.prog w = .ok (.enter 110 args) w := enters_of Try.func110 (by kernel_rfl) rfl

set_option maxRecDepth 100000 in
set_option maxHeartbeats 2000000 in
theorem right1_of (T : S24) (A2 : Option Addr) (c2 : Nat) (w : World)
    (ih : ∀ W, Below w.heap.size w W → Calls Try.prog 68 #[gv T A2 c2] W fun e W' => e = .returned (.bool (rightB T)) ∧ Below W.heap.size W W') :
    Calls Try.prog 110 #[gv T A2 c2] w fun e W' => e = .returned (.bool (!rightB T)) ∧ Below w.heap.size w W' := by
  have IH := Aside0.mk ih
  clear ih
  unfold gv at *
  generalize rightB T = b at *
  have hu24 := Try.underlying24
  have hnot := hnot_
  go_enter Try.func110, Try.ntmps110
  go_wp2_with fail
  have hb := below_alloc (Below.refl w.heap.size w) (Obj.cells #[Value.int IntKind.i64 T.f0, Value.int IntKind.i64 T.f1, Value.slice A2 T.f2.length c2] 24)
  refine (IH.out _ hb).mono ?_
  have HB := Aside0.mk hb
  clear hb
  rintro e w' ⟨rfl, hb0⟩
  have HB' := Aside0.mk hb0
  clear hb0
  go_wp2_with fail
  go_ret
  exact ⟨rfl, below_call HB.out HB'.out⟩

/-- **formulas.right**, at every gate. -/
theorem right_calls (T : S24) : ∀ (A2 : Option Addr) (c2 : Nat) (w : World), RdG w T A2 c2 →
    Calls Try.prog 68 #[gv T A2 c2] w fun e W' => e = .returned (.bool (rightB T)) ∧ Below w.heap.size w W' := by
  induction h : SizeOf.sizeOf T using Nat.strongRecOn generalizing T with
  | _ n ih =>
  intro A2 c2 w hR
  subst h
  have hcont : ∀ W, Below w.heap.size w W → Calls Try.prog 108 #[.slice A2 T.f2.length c2, .func (.func 110) #[] #[]] W fun e W' => e = .returned (.bool (!T.f2.all rightB)) ∧ Below W.heap.size W W' := by
    intro W hW
    refine (ContainsFuncG (fun _ W' => Below W.heap.size W W') 110 #[] right1_enters A2 c2 T.f2 W W (fun j => !rightB (T.f2.getD j z24)) (hR.below hW).C (hR.below hW).C.2.1 (Below.refl _ _) (fun _ _ h => h) ?_).mono ?_
    · intro j W1 hj _ hW1 A3 c3 hR3
      have := right1_of (T.f2.getD j z24) A3 c3 W1 (fun W2 hW2 => ih _ (lt_of_mem_gate (getD_mem_gate hj)) _ rfl A3 c3 W2 (hR3.below (below_call hW1 hW2)))
      exact this.mono (fun e W' ⟨he, hb⟩ => ⟨he, below_call hW1 hb⟩)
    · rintro e W' ⟨rfl, hb⟩
      refine ⟨?_, hb⟩
      rw [firstOf_lt_all rightB z24 T.f2]
  have HC := Aside0.mk hcont
  have hle := hR.le
  clear hcont hR ih
  have hu24 := Try.underlying24
  have hnot := hnot_
  have hrb := rightB_eq T
  generalize rightB T = b at *
  unfold gv
  by_cases h0 : 0 ≤ T.f0
  · rw [if_pos h0] at hrb
    obtain ⟨x1, e1⟩ : ∃ x, decide (T.f0 < 64) = x := ⟨_, rfl⟩
    obtain ⟨x2, e2⟩ : ∃ x, (T.f1 == 0) = x := ⟨_, rfl⟩
    obtain ⟨x3, e3⟩ : ∃ x, ((T.f2.length : Int) == 0) = x := ⟨_, rfl⟩
    have e3' : (T.f2.length == 0) = x3 := by rw [← e3, Bool.eq_iff_iff]; simp only [beq_iff_eq]; omega
    rw [e1, e2, e3'] at hrb
    clear e3'
    subst hrb
    cases x1 <;> cases x2 <;> cases x3
    all_goals
      go_enter Try.func68, Try.ntmps68
      go_wp2_with fail
      go_ret
      exact ⟨rfl, below_alloc (Below.refl w.heap.size w) _⟩
  · rw [if_neg h0] at hrb
    obtain ⟨x1, e1⟩ : ∃ x, (T.f0 == -1) = x := ⟨_, rfl⟩
    obtain ⟨x2, e2⟩ : ∃ x, decide (1 ≤ T.f1) = x := ⟨_, rfl⟩
    obtain ⟨x3, e3⟩ : ∃ x, decide (T.f1 ≤ 4096) = x := ⟨_, rfl⟩
    rw [e1, e2, e3] at hrb
    have hd : decide (0 ≤ T.f0) = false := by simpa using h0
    generalize T.f2.all rightB = x4 at *
    cases x1
    case' true =>
      cases x2
      case' true =>
        cases x3
        case' true =>
          subst hrb
          go_enter Try.func68, Try.ntmps68
          go_wp2_with fail
          have hb := below_alloc (Below.refl w.heap.size w) (Obj.cells #[Value.int IntKind.i64 T.f0, Value.int IntKind.i64 T.f1, Value.slice A2 T.f2.length c2] 24)
          refine (HC.out _ hb).mono ?_
          have HB := Aside0.mk hb
          clear hb
          rintro e w' ⟨rfl, hb0⟩
          have HB' := Aside0.mk hb0
          clear hb0
          go_wp2_with fail
          go_ret
          exact ⟨rfl, below_call HB.out HB'.out⟩
    all_goals
      subst hrb
      go_enter Try.func68, Try.ntmps68
      go_wp2_with fail
      go_ret
      exact ⟨rfl, below_alloc (Below.refl w.heap.size w) _⟩
end Go.Proofs.Ytipdpfnjobfbpaa.H
