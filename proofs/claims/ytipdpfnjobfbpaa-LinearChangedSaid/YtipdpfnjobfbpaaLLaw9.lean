/- signatorylaw13.LinearRank returns true, whatever it is given. -/
import Derived.Test.YtipdpfnjobfbpaaLHead
import Derived.Test.YtipdpfnjobfbpaaMRun
import Derived.Test.YtipdpfnjobfbpaaMSane
namespace Go.Proofs.Ytipdpfnjobfbpaa.H
open Go.RowKit Go.Shelf Go.Proofs.YtipdpfnjobfbpaaW.PrintWords Go.Proofs.YtipdpfnjobfbpaaW.PrintLast Go.Proofs.YtipdpfnjobfbpaaW.PrintMore Go.Proofs.Ytipdpfnjobfbpaa.P SG SG.Lin
set_option linter.unusedVariables false
set_option linter.unusedSimpArgs false
/-- Combine, at rows and a target that are right: what comes back is a list, its length, and what is known. -/
theorem comb_good {A A1 : Option Addr} {c c1 n : Nat} {zs : List (List Int)} {t : List Int} {W : World} (he : exam zs t = 0) (hn : zs.length = n) (hC : Kd.C kRows W A zs.length zs) (hc : n ≤ c) (hC1 : Kd.C (Kd.int .i64) W A1 t.length t) (hc1 : t.length ≤ c1) :
    Calls Try.prog 32 #[.slice A n c, .slice A1 t.length c1] W fun e w' => (∃ A2 c2, e = .returned (.tuple #[.slice A2 ((combineP zs t).getD []).length c2, .bool (combineP zs t).isSome, .int .i64 0]) ∧ ((combineP zs t).getD []).length ≤ c2 ∧ Kd.C (Kd.int .i64) w' A2 ((combineP zs t).getD []).length ((combineP zs t).getD [])) ∧ Below W.heap.size W w' := by
  subst hn
  refine (Combine_calls A c zs A1 c1 t W hC hc hC1 hc1).mono ?_
  have ea : combAns zs t = ((combineP zs t).getD [], (combineP zs t).isSome, 0) := by
    unfold combAns
    rw [if_neg (fun h => h he)]
    cases combineP zs t <;> rfl
  rw [ea]
  rintro e w' ⟨v, rfl, hR, hb⟩
  obtain ⟨A2, c2, rfl, hle, hC2⟩ := Kd.R_reads hR
  exact ⟨⟨A2, c2, rfl, hle, hC2⟩, hb⟩
theorem rank_good {A : Option Addr} {c n : Nat} {zs : List (List Int)} {W : World} (he : checkP zs = 0) (hn : zs.length = n) (hC : Kd.C kRows W A zs.length zs) (hc : n ≤ c) :
    Calls Try.prog 28 #[.slice A n c] W fun e w' => e = .returned (.tuple #[.int .i64 (rankP zs), .int .i64 0]) ∧ Below W.heap.size W w' := by
  subst hn
  have := Rank_calls A c zs W hC hc
  have ea : rankAns zs = ((rankP zs : Int), 0) := by unfold rankAns; rw [if_neg (fun q => q he)]
  rw [ea] at this
  exact this
set_option maxRecDepth 100000 in
set_option maxHeartbeats 4000000 in
theorem law9_calls (A : Option Addr) (c : Nat) (zs : List (List Int)) (A1 : Option Addr) (c1 : Nat) (t : List Int) (w : World) (hC : Kd.C kRows w A zs.length zs) (hc : zs.length ≤ c) (hC1 : Kd.C (Kd.int .i64) w A1 t.length t) (hc1 : t.length ≤ c1) :
    Calls Try.prog 9 #[.slice A zs.length c, .slice A1 t.length c1] w fun e w' => e = .returned (.bool true) ∧ Below w.heap.size w w' := by
  have HC := Aside0.mk hC
  have HC1 := Aside0.mk hC1
  obtain ⟨b, hr1, hr2⟩ := right_run zs t
  have HR1 := Aside0.mk (hr1 400 (Nat.le_refl _))
  have HR2 := Aside0.mk hr2
  clear hC hC1 hr1 hr2
  go_enter Try.func9, Try.ntmps9
  go_wp2_with fail
  refine (sane13_calls w).mono ?_
  rintro e w1 ⟨rfl, hb1⟩
  have HB1 := Aside0.mk hb1
  clear hb1
  go_wp2_with fail
  refine (signatorylaw13_right.calls 400 A c zs A1 c1 t b w1 (Kd.C_below HC.out HB1.out) hc (Kd.C_below HC1.out HB1.out) hc1 HR1.out).mono ?_
  rintro e w2 ⟨rfl, hb2⟩
  have HB2 := Aside0.mk (below_call HB1.out hb2.below)
  clear hb2 HB1 HR1
  cases b with
  | false =>
    clear HR2
    go_wp2_with fail
    go_ret
    exact ⟨rfl, HB2.out⟩
  | true =>
    obtain ⟨hn, hm, he⟩ := HR2.out rfl
    obtain ⟨_, _, hG, hf⟩ := exam_zero he
    have HE := Aside0.mk he
    have HG := Aside0.mk hG
    have HF := Aside0.mk hf
    clear HR2 he hG hf
    go_wp2_with fail
    refine (comb_good HE.out rfl (Kd.C_below HC.out HB2.out) hc (Kd.C_below HC1.out HB2.out) hc1).mono ?_
    rintro e w3 ⟨⟨A3, c3, rfl, hle3, hC3⟩, hb3⟩
    have HB3 := Aside0.mk (below_call HB2.out hb3)
    clear hb3 HB2
    obtain ⟨ok, hok⟩ : ∃ b, (combineP zs t).isSome = b := ⟨_, rfl⟩
    obtain ⟨y, hy⟩ : ∃ y, (combineP zs t).getD [] = y := ⟨_, rfl⟩
    rw [hy] at hle3 hC3
    rw [hok, hy]
    have HOK := Aside0.mk hok
    have HYL := Aside0.mk (show ok = true → y.length = zs.length by
      intro h
      rw [h] at hok
      obtain ⟨y', e'⟩ := Option.isSome_iff_exists.1 hok
      rw [e'] at hy
      rw [← hy]
      exact (either_made HG.out rfl HF.out e').1)
    have HYZ := Aside0.mk (show ok = true → ∀ i, i < zs.length → (combineP (zs.take i) (zs.getD i [])).isSome = true → y.getD i 0 = 0 by
      intro h i hi hm
      rw [h] at hok
      obtain ⟨y', e'⟩ := Option.isSome_iff_exists.1 hok
      rw [e'] at hy
      rw [← hy]
      exact rank_zero HG.out rfl HF.out e' hi hm)
    have HMT := Aside0.mk (show ok = true → rankP (zs ++ [t]) = rankP zs by
      intro h
      have := rank_more HG.out rfl HF.out
      rw [hok, h, if_pos rfl] at this; exact this)
    have HMF := Aside0.mk (show ok = false → rankP (zs ++ [t]) = rankP zs + 1 by
      intro h
      have := rank_more HG.out rfl HF.out
      rw [hok, h, if_neg (by decide)] at this; exact this)
    have hrb := rank_le HG.out
    have HC3 := Aside0.mk hC3
    have HLE3 := Aside0.mk hle3
    have HRW := Aside0.mk (fun i (hi : i < zs.length) => rank_row HG.out hi)
    have HCK := Aside0.mk (fun i (hi : i ≤ zs.length) => checkP_good (HG.out.take hi) (by omega) (by omega))
    have HEX := Aside0.mk (fun i (hi : i < zs.length) => exam_good (HG.out.take (Nat.le_of_lt hi)) (by omega) (by omega) (HG.out.row hi) (fun a ha => HG.out.fld _ (getD_mem hi) a ha))
    have HMX := Aside0.mk (checkP_good (HG.out.put rfl HF.out) (by omega) (by omega))
    have HR0 := Aside0.mk (show rankP (zs.take 0) = 0 from rfl)
    clear hok hy hle3 hC3
    cases ok with
    | true =>
      have HYL2 := Aside0.mk (HYL.out rfl)
      have HYZ2 := Aside0.mk (HYZ.out rfl)
      have hyl : ((y.length : Int) != (zs.length : Int)) = false := by rw [bne_eq_false_iff_eq, HYL2.out]
      have HMO := Aside0.mk (HMT.out rfl)
      clear HYL HYZ HMT HMF
      go_wp2_with fail
      go_loopw [8, 45] (fun v8 v45 wr => ∃ k : Nat, k ≤ zs.length ∧ v45 = .int .i64 k ∧ v8 = .int .i64 (rankP (zs.take k)) ∧ Aside0 (Below w3.heap.size w3 wr)) (fun _ v45 _ => zs.length - (intOf v45).toNat)
      case atStart => exact ⟨0, Nat.zero_le _, rfl, by rw [HR0.out]; rfl, ⟨Below.refl _ _⟩⟩
      case round =>
        obtain ⟨k, hk, rfl, rfl, HBR⟩ := hrel
        have HB := Aside0.mk (below_call HB3.out HBR.out)
        by_cases hlt : k < zs.length
        · have hltz : (k : Int) < (zs.length : Int) := by omega
          obtain ⟨ad, A2, c2, rfl, l0, hle2, hC2⟩ := at_row HC.out HB.out k hlt
          have HEX1 := Aside0.mk (HEX.out k hlt)
          have HRW1 := Aside0.mk (HRW.out k hlt)
          have HCK1 := Aside0.mk (HCK.out (k + 1) hlt)
          have HYK := Aside0.mk (HYZ2.out k hlt)
          generalize zs.getD k [] = x at l0 hle2 hC2 HEX1 HRW1 HYK
          have HC2 := Aside0.mk hC2
          have HLE2 := Aside0.mk hle2
          have hk1 : (k : Int) + 1 ≤ (c : Int) := by omega
          have hk2 : (k : Int) ≤ (c : Int) := by omega
          have hn1 : 0 ≤ (k : Int) + 1 := by omega
          clear hC2 hle2
          obtain ⟨md, hmd⟩ : ∃ b, (combineP (zs.take k) x).isSome = b := ⟨_, rfl⟩
          rw [hmd] at HRW1 HYK
          have HMD := Aside0.mk hmd
          have e0 : (zs.take k).length = k := by rw [List.length_take]; omega
          have e1 : (zs.take (k + 1)).length = k + 1 := by rw [List.length_take]; omega
          have HE0 := Aside0.mk e0
          have HE1 := Aside0.mk e1
          have HT0 := Aside0.mk (Kd.C_take HC.out (show k ≤ zs.length by omega))
          have HT1 := Aside0.mk (Kd.C_take HC.out (show k + 1 ≤ zs.length by omega))
          clear hmd e0 e1
          go_wp2_with fail
          refine (rank_good HCK1.out HE1.out (Kd.C_below HT1.out HB.out) (by omega)).mono ?_
          rintro e w4 ⟨rfl, hb4⟩
          have HB4 := Aside0.mk (below_call HB.out hb4)
          have HBW := Aside0.mk hb4
          have HC24 := Aside0.mk (Kd.C_below HC2.out hb4)
          clear hb4
          go_wp2_with fail
          refine (comb_good HEX1.out HE0.out (Kd.C_below HT0.out HB4.out) (by omega) HC24.out HLE2.out).mono ?_
          rintro e w5 ⟨⟨A5, c5, rfl, _, _⟩, hb5⟩
          have HB5 := Aside0.mk (below_call HB4.out hb5)
          have HB4b := Aside0.mk (below_call HBW.out hb5)
          rw [HMD.out]
          generalize ((combineP (zs.take k) x).getD []).length = n5
          clear hb5
          cases md with
          | true =>
            have hr : rankP (zs.take (k + 1)) = rankP (zs.take k) := by rw [HRW1.out, if_pos rfl]; omega
            have HYC := Aside0.mk (HYK.out rfl)
            obtain ⟨ad3, rfl, q3⟩ := at_int HC3.out HBR.out k (by rw [HYL2.out]; exact hlt)
            rw [HYC.out] at q3
            have hyk : (k : Int) < (y.length : Int) := by rw [HYL2.out]; exact hltz
            have q4 := pw_cell_below HB4b.out q3
            have HRQ := Aside0.mk hr
            rw [hr]
            clear hr
            go_wp2_with fail
            go_roundw
            case rel => exact ⟨k + 1, by omega, by go_num, by rw [HRQ.out], ⟨below_call HBR.out HB4b.out⟩⟩
            case measure => simp [intOf]; omega
          | false =>
            have hr : rankP (zs.take (k + 1)) = rankP (zs.take k) + 1 := by rw [HRW1.out, if_neg (by decide)]
            have hr16 := rank_le (HG.out.take hk)
            have HRQ := Aside0.mk hr
            rw [hr, Int.natCast_succ]
            generalize rankP (zs.take k) = r at *
            have hn1 : (((r : Int) + 1) == (r : Int)) = false := by rw [beq_eq_false_iff_ne]; omega
            clear hr
            go_wp2_with fail
            go_roundw
            case rel => exact ⟨k + 1, by omega, by go_num, by rw [HRQ.out, Int.natCast_succ], ⟨below_call HBR.out HB4b.out⟩⟩
            case measure => simp [intOf]; omega
        · have hltz : ¬ (k : Int) < (zs.length : Int) := by omega
          obtain rfl : k = zs.length := by omega
          rw [List.take_length]
          obtain ⟨hs, hsl, hCh, hok⟩ := heads (Kd.C_below HC.out HB.out)
          have HCH := Aside0.mk hCh
          have HHK := Aside0.mk hok
          have HSL := Aside0.mk hsl
          have hsb : hs.length ≤ 16 := by omega
          have HN1 := Aside0.mk (Kd.C_below HC1.out HB.out)
          clear hsl hok hCh hk hlt
          go_wp2_with (first | ((with_reducible refine gate_dst (N := 106) rfl ?_); refine Kd.R_lit kH wr.heap.size 31 ?hg (w0 := wr) (N := 106) ?hd (xs := ([] : List (Option Addr × Nat × Nat))) (inner := []) (ok := fun _ => True) (okp := fun _ => True) ?hr ?hp (fun _ hk => hk) trivial (Below.refl _ _) (Nat.le_refl _) (by simp) ?_; (case hd => rfl); (case hg => rfl); (case hr => first | (go_simp; done) | (go_simp; rfl)); (case hp => exact (Reps.none _ _)); intro v6 w6 ho hb hg_ hnew_; have HO := Aside0.mk ho; have HB1 := Aside0.mk hb; clear ho hb hg_ hnew_) | ((with_reducible refine gate_builtin (b := .append) (xs := #[.tmp 106, .tmp 107]) rfl ?_); at_builtin; refine Kd.R_append_rows kH (w0 := wr) wr.heap.size rfl (.tmp 106) (.tmp 107) 40 31 (.slice none 0 0) 24 rfl Try.underlying40 info31 rfl (by decide) (by omega) v6 [] hs A _ _ (fun _ => True) (fun _ => False) rfl rfl HO.out (Kd.C_below HCH.out HB1.out) (fun _ _ h => h) (fun _ hk => hk.elim) (fun _ _ => trivial) HB1.out HB1.out.size (by simp only [List.length_nil]; omega) ?_; intro v7 w7 ho hb hg hat; have HO2 := Aside0.mk ho; have HB2 := Aside0.mk hb; clear ho hb hg hat) | ((with_reducible refine gate_builtin (b := .append) (xs := #[.tmp 108, .tmp 110]) rfl ?_); at_builtin; refine Kd.R_append kH (w0 := wr) wr.heap.size rfl (.tmp 108) (.tmp 110) 40 31 (.slice none 0 0) 24 rfl Try.underlying40 info31 rfl (by decide) (by omega) v7 ([] ++ hs) (A1, t.length, c1) [.slice A1 t.length c1] (fun _ => True) (fun _ => False) rfl rfl rfl (fun _ hk => hk.elim) (fun _ _ => trivial) HO2.out HB2.out HB2.out.size (by rw [List.nil_append]; omega) ?_; intro v8 w8 ho hb hg hat; have HO3 := Aside0.mk ho; have HB3' := Aside0.mk hb; clear ho hb hg hat))
          obtain ⟨A8, c8, e8, hle8, hC8⟩ := Kd.R_reads HO3.out
          rw [List.nil_append] at e8 hle8 hC8
          have hl8 : (hs ++ [((A1, t.length, c1) : Option Addr × Nat × Nat)]).length = (zs ++ [t]).length := by rw [List.length_append, List.length_append, HSL.out]; rfl
          have HR8 := Aside0.mk (rows_of (zs := zs ++ [t]) hC8 hl8 (fun i p x hp hx => by
            by_cases hi : i < zs.length
            · rw [List.getElem?_append_left (by rw [HSL.out]; exact hi)] at hp
              rw [List.getElem?_append_left hi] at hx
              exact (HHK.out i p x hp hx).below HB3'.out
            · rw [List.getElem?_append_right (by rw [HSL.out]; omega)] at hp
              rw [List.getElem?_append_right (by omega)] at hx
              rw [HSL.out] at hp
              rcases hq : i - zs.length with _ | q
              · rw [hq] at hp hx
                cases hp; cases hx
                exact ⟨rfl, hc1, Kd.C_below HN1.out HB3'.out⟩
              · rw [hq] at hp; simp at hp))
          rw [hl8] at e8 hle8 HR8
          subst e8
          have HB8 := Aside0.mk (below_call HB.out HB3'.out)
          clear hC8 hl8
          refine (rank_good HMX.out rfl HR8.out hle8).mono ?_
          rintro e w9 ⟨rfl, hb9⟩
          have HB9 := Aside0.mk (below_call HB8.out hb9)
          rw [HMO.out]
          clear hb9
          generalize rankP zs = r at *
          have hn2 : (r : Int) ≤ (r : Int) + 1 := by omega
          go_wp2_with fail
          go_ret
          exact ⟨rfl, HB9.out⟩
    | false =>
      have HMO := Aside0.mk (HMF.out rfl)
      clear HYL HYZ HMT HMF
      go_wp2_with fail
      go_loopw [8, 45] (fun v8 v45 wr => ∃ k : Nat, k ≤ zs.length ∧ v45 = .int .i64 k ∧ v8 = .int .i64 (rankP (zs.take k)) ∧ Aside0 (Below w3.heap.size w3 wr)) (fun _ v45 _ => zs.length - (intOf v45).toNat)
      case atStart => exact ⟨0, Nat.zero_le _, rfl, by rw [HR0.out]; rfl, ⟨Below.refl _ _⟩⟩
      case round =>
        obtain ⟨k, hk, rfl, rfl, HBR⟩ := hrel
        have HB := Aside0.mk (below_call HB3.out HBR.out)
        by_cases hlt : k < zs.length
        · have hltz : (k : Int) < (zs.length : Int) := by omega
          obtain ⟨ad, A2, c2, rfl, l0, hle2, hC2⟩ := at_row HC.out HB.out k hlt
          have HEX1 := Aside0.mk (HEX.out k hlt)
          have HRW1 := Aside0.mk (HRW.out k hlt)
          have HCK1 := Aside0.mk (HCK.out (k + 1) hlt)
          generalize zs.getD k [] = x at l0 hle2 hC2 HEX1 HRW1
          have HC2 := Aside0.mk hC2
          have HLE2 := Aside0.mk hle2
          have hk1 : (k : Int) + 1 ≤ (c : Int) := by omega
          have hk2 : (k : Int) ≤ (c : Int) := by omega
          have hn1 : 0 ≤ (k : Int) + 1 := by omega
          clear hC2 hle2
          obtain ⟨md, hmd⟩ : ∃ b, (combineP (zs.take k) x).isSome = b := ⟨_, rfl⟩
          rw [hmd] at HRW1
          have HMD := Aside0.mk hmd
          have e0 : (zs.take k).length = k := by rw [List.length_take]; omega
          have e1 : (zs.take (k + 1)).length = k + 1 := by rw [List.length_take]; omega
          have HE0 := Aside0.mk e0
          have HE1 := Aside0.mk e1
          have HT0 := Aside0.mk (Kd.C_take HC.out (show k ≤ zs.length by omega))
          have HT1 := Aside0.mk (Kd.C_take HC.out (show k + 1 ≤ zs.length by omega))
          clear hmd e0 e1
          go_wp2_with fail
          refine (rank_good HCK1.out HE1.out (Kd.C_below HT1.out HB.out) (by omega)).mono ?_
          rintro e w4 ⟨rfl, hb4⟩
          have HB4 := Aside0.mk (below_call HB.out hb4)
          have HBW := Aside0.mk hb4
          have HC24 := Aside0.mk (Kd.C_below HC2.out hb4)
          clear hb4
          go_wp2_with fail
          refine (comb_good HEX1.out HE0.out (Kd.C_below HT0.out HB4.out) (by omega) HC24.out HLE2.out).mono ?_
          rintro e w5 ⟨⟨A5, c5, rfl, _, _⟩, hb5⟩
          have HB5 := Aside0.mk (below_call HB4.out hb5)
          have HB4b := Aside0.mk (below_call HBW.out hb5)
          rw [HMD.out]
          generalize ((combineP (zs.take k) x).getD []).length = n5
          clear hb5
          cases md with
          | true =>
            have hr : rankP (zs.take (k + 1)) = rankP (zs.take k) := by rw [HRW1.out, if_pos rfl]; omega
            have HRQ := Aside0.mk hr
            rw [hr]
            clear hr
            go_wp2_with fail
            go_roundw
            case rel => exact ⟨k + 1, by omega, by go_num, by rw [HRQ.out], ⟨below_call HBR.out HB4b.out⟩⟩
            case measure => simp [intOf]; omega
          | false =>
            have hr : rankP (zs.take (k + 1)) = rankP (zs.take k) + 1 := by rw [HRW1.out, if_neg (by decide)]
            have hr16 := rank_le (HG.out.take hk)
            have HRQ := Aside0.mk hr
            rw [hr, Int.natCast_succ]
            generalize rankP (zs.take k) = r at *
            have hn1 : (((r : Int) + 1) == (r : Int)) = false := by rw [beq_eq_false_iff_ne]; omega
            clear hr
            go_wp2_with fail
            go_roundw
            case rel => exact ⟨k + 1, by omega, by go_num, by rw [HRQ.out, Int.natCast_succ], ⟨below_call HBR.out HB4b.out⟩⟩
            case measure => simp [intOf]; omega
        · have hltz : ¬ (k : Int) < (zs.length : Int) := by omega
          obtain rfl : k = zs.length := by omega
          rw [List.take_length]
          obtain ⟨hs, hsl, hCh, hok⟩ := heads (Kd.C_below HC.out HB.out)
          have HCH := Aside0.mk hCh
          have HHK := Aside0.mk hok
          have HSL := Aside0.mk hsl
          have hsb : hs.length ≤ 16 := by omega
          have HN1 := Aside0.mk (Kd.C_below HC1.out HB.out)
          clear hsl hok hCh hk hlt
          go_wp2_with (first | ((with_reducible refine gate_dst (N := 106) rfl ?_); refine Kd.R_lit kH wr.heap.size 31 ?hg (w0 := wr) (N := 106) ?hd (xs := ([] : List (Option Addr × Nat × Nat))) (inner := []) (ok := fun _ => True) (okp := fun _ => True) ?hr ?hp (fun _ hk => hk) trivial (Below.refl _ _) (Nat.le_refl _) (by simp) ?_; (case hd => rfl); (case hg => rfl); (case hr => first | (go_simp; done) | (go_simp; rfl)); (case hp => exact (Reps.none _ _)); intro v6 w6 ho hb hg_ hnew_; have HO := Aside0.mk ho; have HB1 := Aside0.mk hb; clear ho hb hg_ hnew_) | ((with_reducible refine gate_builtin (b := .append) (xs := #[.tmp 106, .tmp 107]) rfl ?_); at_builtin; refine Kd.R_append_rows kH (w0 := wr) wr.heap.size rfl (.tmp 106) (.tmp 107) 40 31 (.slice none 0 0) 24 rfl Try.underlying40 info31 rfl (by decide) (by omega) v6 [] hs A _ _ (fun _ => True) (fun _ => False) rfl rfl HO.out (Kd.C_below HCH.out HB1.out) (fun _ _ h => h) (fun _ hk => hk.elim) (fun _ _ => trivial) HB1.out HB1.out.size (by simp only [List.length_nil]; omega) ?_; intro v7 w7 ho hb hg hat; have HO2 := Aside0.mk ho; have HB2 := Aside0.mk hb; clear ho hb hg hat) | ((with_reducible refine gate_builtin (b := .append) (xs := #[.tmp 108, .tmp 110]) rfl ?_); at_builtin; refine Kd.R_append kH (w0 := wr) wr.heap.size rfl (.tmp 108) (.tmp 110) 40 31 (.slice none 0 0) 24 rfl Try.underlying40 info31 rfl (by decide) (by omega) v7 ([] ++ hs) (A1, t.length, c1) [.slice A1 t.length c1] (fun _ => True) (fun _ => False) rfl rfl rfl (fun _ hk => hk.elim) (fun _ _ => trivial) HO2.out HB2.out HB2.out.size (by rw [List.nil_append]; omega) ?_; intro v8 w8 ho hb hg hat; have HO3 := Aside0.mk ho; have HB3' := Aside0.mk hb; clear ho hb hg hat))
          obtain ⟨A8, c8, e8, hle8, hC8⟩ := Kd.R_reads HO3.out
          rw [List.nil_append] at e8 hle8 hC8
          have hl8 : (hs ++ [((A1, t.length, c1) : Option Addr × Nat × Nat)]).length = (zs ++ [t]).length := by rw [List.length_append, List.length_append, HSL.out]; rfl
          have HR8 := Aside0.mk (rows_of (zs := zs ++ [t]) hC8 hl8 (fun i p x hp hx => by
            by_cases hi : i < zs.length
            · rw [List.getElem?_append_left (by rw [HSL.out]; exact hi)] at hp
              rw [List.getElem?_append_left hi] at hx
              exact (HHK.out i p x hp hx).below HB3'.out
            · rw [List.getElem?_append_right (by rw [HSL.out]; omega)] at hp
              rw [List.getElem?_append_right (by omega)] at hx
              rw [HSL.out] at hp
              rcases hq : i - zs.length with _ | q
              · rw [hq] at hp hx
                cases hp; cases hx
                exact ⟨rfl, hc1, Kd.C_below HN1.out HB3'.out⟩
              · rw [hq] at hp; simp at hp))
          rw [hl8] at e8 hle8 HR8
          subst e8
          have HB8 := Aside0.mk (below_call HB.out HB3'.out)
          clear hC8 hl8
          refine (rank_good HMX.out rfl HR8.out hle8).mono ?_
          rintro e w9 ⟨rfl, hb9⟩
          have HB9 := Aside0.mk (below_call HB8.out hb9)
          rw [HMO.out, Int.natCast_succ]
          clear hb9
          generalize rankP zs = r at *
          have hn2 : (((r : Int) + 1) == (r : Int)) = false := by rw [beq_eq_false_iff_ne]; omega
          go_wp2_with fail
          go_ret
          exact ⟨rfl, HB9.out⟩
end Go.Proofs.Ytipdpfnjobfbpaa.H
