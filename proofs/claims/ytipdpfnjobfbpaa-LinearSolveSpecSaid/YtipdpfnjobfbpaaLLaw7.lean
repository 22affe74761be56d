/- signatorylaw13.LinearSolveSpec returns true, whatever it is given. -/
import Derived.Test.YtipdpfnjobfbpaaRSep
namespace Go.Proofs.Ytipdpfnjobfbpaa.H
open Go.RowKit Go.Shelf Go.Proofs.YtipdpfnjobfbpaaW.PrintWords Go.Proofs.YtipdpfnjobfbpaaW.PrintLast Go.Proofs.YtipdpfnjobfbpaaW.PrintMore Go.Proofs.Ytipdpfnjobfbpaa.P SG SG.Lin
set_option linter.unusedVariables false
set_option linter.unusedSimpArgs false
theorem combAns_len (zs : List (List Int)) (t : List Int) : (combAns zs t).1.length ≤ 1000 := by
  unfold combAns
  by_cases hz : exam zs t = 0
  · rw [if_neg (fun h => h hz)]
    obtain ⟨h64, _, hG, hf⟩ := exam_zero hz
    cases hc : combineP zs t with
    | none => exact Nat.zero_le _
    | some y =>
      have := (either_made hG rfl hf hc).1
      show y.length ≤ 1000
      omega
  · rw [if_pos hz]; exact Nat.zero_le _
theorem sepAns_len (zs : List (List Int)) (t : List Int) : (sepAns zs t).1.length ≤ 1000 := by
  unfold sepAns
  by_cases hz : exam zs t = 0
  · rw [if_neg (fun h => h hz)]
    obtain ⟨_, h64, hG, hf⟩ := exam_zero hz
    cases hc : separateP zs t with
    | none => exact Nat.zero_le _
    | some y =>
      have := (either_proves hG rfl hc).1
      show y.length ≤ 1000
      omega
  · rw [if_pos hz]; exact Nat.zero_le _
theorem same_self {A A1 : Option Addr} {c c1 : Nat} {W : World} (a : List Int) (hC : Kd.C (Kd.int .i64) W A a.length a) (hc : a.length ≤ c) (hC1 : Kd.C (Kd.int .i64) W A1 a.length a) (hc1 : a.length ≤ c1) (hl : a.length ≤ 1000) :
    Calls Try.prog 36 #[.slice A a.length c, .slice A1 a.length c1] W fun e w' => e = .returned (.bool true) ∧ Drawn0 W w' :=
  signatoryref13_SameInts.calls 1001 A c a A1 c1 a true W hC hc hC1 hc1 (by rw [same_run a a hl 1001 (by omega), decide_eq_true rfl])
set_option maxRecDepth 100000 in
set_option maxHeartbeats 4000000 in
theorem law7_calls (A : Option Addr) (c : Nat) (zs : List (List Int)) (A1 : Option Addr) (c1 : Nat) (t : List Int) (w : World) (hC : Kd.C kRows w A zs.length zs) (hc : zs.length ≤ c) (hC1 : Kd.C (Kd.int .i64) w A1 t.length t) (hc1 : t.length ≤ c1) :
    Calls Try.prog 7 #[.slice A zs.length c, .slice A1 t.length c1] w fun e w' => e = .returned (.bool true) ∧ Below w.heap.size w w' := by
  have HC := Aside0.mk hC
  have HC1 := Aside0.mk hC1
  obtain ⟨b, hr1, _⟩ := few_run zs
  have HR1 := Aside0.mk (hr1 144 (Nat.le_refl _))
  clear hC hC1 hr1
  go_enter Try.func7, Try.ntmps7
  go_wp2_with fail
  refine (sane13_calls w).mono ?_
  rintro e w1 ⟨rfl, hb1⟩
  have HB1 := Aside0.mk hb1
  clear hb1
  go_wp2_with fail
  refine (signatoryref13_Few.calls 144 A c zs b w1 (Kd.C_below HC.out HB1.out) hc HR1.out).mono ?_
  rintro e w2 ⟨rfl, hb2⟩
  have HB2 := Aside0.mk (below_call HB1.out hb2.below)
  clear hb2 HB1 HR1
  cases b with
  | false =>
    go_wp2_with fail
    go_ret
    exact ⟨rfl, HB2.out⟩
  | true =>
    by_cases h100 : 100 < t.length
    · have h100z : (100 : Int) < (t.length : Int) := by omega
      clear h100
      go_wp2_with fail
      go_ret
      exact ⟨rfl, HB2.out⟩
    · have h100z : ¬ (100 : Int) < (t.length : Int) := by omega
      clear h100
      have hcl := combAns_len zs t
      have hsl := sepAns_len zs t
      have HK1 := Aside0.mk (fun (w : World) hC hC1 => Combine_calls A c zs A1 c1 t w hC hc hC1 hc1)
      have HK2 := Aside0.mk (fun (w : World) hC hC1 => rCombine_calls A c zs A1 c1 t w hC hc hC1 hc1)
      have HK3 := Aside0.mk (fun (w : World) hC hC1 => Separate_calls A c zs A1 c1 t w hC hc hC1 hc1)
      have HK4 := Aside0.mk (fun (w : World) hC hC1 => rSeparate_calls A c zs A1 c1 t w hC hc hC1 hc1)
      generalize combAns zs t = ca at *
      generalize sepAns zs t = sa at *
      obtain ⟨ya, oka, ea⟩ := ca
      obtain ⟨ys, oks, es⟩ := sa
      simp only at hcl hsl
      go_wp2_with fail
      refine (HK1.out w2 (Kd.C_below HC.out HB2.out) (Kd.C_below HC1.out HB2.out)).mono ?_
      rintro e w3 ⟨v3, rfl, hR3, hb3⟩
      obtain ⟨A3, c3, rfl, hle3, hC3⟩ := Kd.R_reads hR3
      simp only at hle3 hC3 ⊢
      have HB3 := Aside0.mk (below_call HB2.out hb3)
      have HC3 := Aside0.mk hC3
      clear hR3 hC3 hb3
      go_wp2_with fail
      refine (HK2.out w3 (Kd.C_below HC.out HB3.out) (Kd.C_below HC1.out HB3.out)).mono ?_
      rintro e w4 ⟨v4, rfl, hR4, hb4⟩
      obtain ⟨A4, c4, rfl, hle4, hC4⟩ := Kd.R_reads hR4
      simp only at hle4 hC4 ⊢
      have HB4 := Aside0.mk (below_call HB3.out hb4)
      have HC34 := Aside0.mk (Kd.C_below HC3.out hb4)
      have HC4 := Aside0.mk hC4
      clear hR4 hC4 hb4 HC3
      go_wp2_with fail
      refine (HK3.out w4 (Kd.C_below HC.out HB4.out) (Kd.C_below HC1.out HB4.out)).mono ?_
      rintro e w5 ⟨v5, rfl, hR5, hb5⟩
      obtain ⟨A5, c5, rfl, hle5, hC5⟩ := Kd.R_reads hR5
      simp only at hle5 hC5 ⊢
      have HB5 := Aside0.mk (below_call HB4.out hb5)
      have HC35 := Aside0.mk (Kd.C_below HC34.out hb5)
      have HC45 := Aside0.mk (Kd.C_below HC4.out hb5)
      have HC5 := Aside0.mk hC5
      clear hR5 hC5 hb5 HC34 HC4
      go_wp2_with fail
      refine (HK4.out w5 (Kd.C_below HC.out HB5.out) (Kd.C_below HC1.out HB5.out)).mono ?_
      rintro e w6 ⟨v6, rfl, hR6, hb6⟩
      obtain ⟨A6, c6, rfl, hle6, hC6⟩ := Kd.R_reads hR6
      simp only at hle6 hC6 ⊢
      have HB6 := Aside0.mk (below_call HB5.out hb6)
      have HC36 := Aside0.mk (Kd.C_below HC35.out hb6)
      have HC46 := Aside0.mk (Kd.C_below HC45.out hb6)
      have HC56 := Aside0.mk (Kd.C_below HC5.out hb6)
      have HC6 := Aside0.mk hC6
      clear hR6 hC6 hb6 HC35 HC45 HC5
      go_wp2_with fail
      refine (same_self ya HC36.out hle3 HC46.out hle4 hcl).mono ?_
      rintro e w7 ⟨rfl, ⟨n7, rfl⟩⟩
      go_wp2_with fail
      refine (same_self ys (Kd.C_drewN HC56.out n7) hle5 (Kd.C_drewN HC6.out n7) hle6 hsl).mono ?_
      rintro e w8 ⟨rfl, ⟨n8, rfl⟩⟩
      go_wp2_with fail
      go_ret
      exact ⟨rfl, pw_below_drewN HB6.out _⟩
end Go.Proofs.Ytipdpfnjobfbpaa.H
