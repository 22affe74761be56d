/- signatorylaw13.LinearSpec returns true, whatever it is given. -/
import Derived.Test.YtipdpfnjobfbpaaMRed
import Derived.Test.YtipdpfnjobfbpaaMSane
namespace Go.Proofs.Ytipdpfnjobfbpaa.H
open Go.RowKit Go.Shelf Go.Proofs.YtipdpfnjobfbpaaW.PrintWords Go.Proofs.YtipdpfnjobfbpaaW.PrintLast Go.Proofs.YtipdpfnjobfbpaaW.PrintMore Go.Proofs.Ytipdpfnjobfbpaa.P SG SG.Lin
set_option linter.unusedVariables false
set_option linter.unusedSimpArgs false
set_option maxRecDepth 100000 in
set_option maxHeartbeats 4000000 in
theorem law6_calls (A : Option Addr) (c : Nat) (zs : List (List Int)) (w : World) (hC : Kd.C kRows w A zs.length zs) (hc : zs.length ≤ c) :
    Calls Try.prog 6 #[.slice A zs.length c] w fun e w' => e = .returned (.bool true) ∧ Below w.heap.size w w' := by
  have HC := Aside0.mk hC
  obtain ⟨b, hr1, _⟩ := few_run zs
  have HR1 := Aside0.mk (hr1 144 (Nat.le_refl _))
  have HCK := Aside0.mk (check_run zs 301 (by omega))
  clear hC hr1
  obtain ⟨r1, hr1⟩ : ∃ r, (rankAns zs).1 = r := ⟨_, rfl⟩
  obtain ⟨r2, hr2⟩ : ∃ r, (rankAns zs).2 = r := ⟨_, rfl⟩
  have HRA := Aside0.mk hr1
  have HRB := Aside0.mk hr2
  clear hr1 hr2
  go_enter Try.func6, Try.ntmps6
  go_wp2_with fail
  refine (sane13_calls w).mono ?_
  rintro e w1 ⟨rfl, hb1⟩
  have HB1 := Aside0.mk hb1
  clear hb1
  go_wp2_with fail
  refine (signatoryref13_Few.calls 144 A c zs b w1 (Kd.C_below HC.out HB1.out) hc HR1.out).mono ?_
  rintro e w2 ⟨rfl, hb2⟩
  have HB2 := Aside0.mk (below_call HB1.out hb2.below)
  clear hb2 HB1 HR1
  cases b with
  | false =>
    go_wp2_with fail
    go_ret
    exact ⟨rfl, HB2.out⟩
  | true =>
    go_wp2_with fail
    refine (Rank_calls A c zs w2 (Kd.C_below HC.out HB2.out) hc).mono ?_
    rintro e w3 ⟨rfl, hb3⟩
    have HB3 := Aside0.mk (below_call HB2.out hb3)
    clear hb3
    rw [HRA.out, HRB.out]
    go_wp2_with fail
    refine (rRank_calls A c zs w3 (Kd.C_below HC.out HB3.out) hc).mono ?_
    rintro e w4 ⟨rfl, hb4⟩
    have HB4 := Aside0.mk (below_call HB3.out hb4)
    clear hb4
    rw [HRA.out, HRB.out]
    go_wp2_with fail
    refine (Check_calls A c zs w4 (Kd.C_below HC.out HB4.out) hc).mono ?_
    rintro e w5 ⟨rfl, hb5⟩
    have HB5 := Aside0.mk (below_call HB4.out hb5)
    clear hb5
    go_wp2_with fail
    refine (signatoryref13_Check.calls 301 A c zs (checkP zs) w5 (Kd.C_below HC.out HB5.out) hc HCK.out).mono ?_
    rintro e w6 ⟨rfl, hb6⟩
    have HB6 := Aside0.mk (below_call HB5.out hb6.below)
    clear hb6
    go_wp2_with fail
    go_ret
    exact ⟨rfl, HB6.out⟩
end Go.Proofs.Ytipdpfnjobfbpaa.H
