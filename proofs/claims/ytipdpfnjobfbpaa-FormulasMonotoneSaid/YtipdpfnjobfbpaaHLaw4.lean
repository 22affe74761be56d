/- signatorylaw22.FormulasDual returns true, whatever gate and people. -/
import Derived.Test.YtipdpfnjobfbpaaHDual
import Derived.Deep.RegionWith
namespace Go.Proofs.Ytipdpfnjobfbpaa.H
open Go.RowKit Go.Shelf Go.Proofs.YtipdpfnjobfbpaaW.PrintWords Go.Proofs.YtipdpfnjobfbpaaW.PrintLast Go.Proofs.YtipdpfnjobfbpaaW.PrintMore Go.Proofs.Ytipdpfnjobfbpaa.P
set_option linter.unusedVariables false
set_option linter.unusedSimpArgs false

def PeoplePost (a : Int) (w : World) (e : Ending) (w' : World) : Prop :=
  ∃ (A : Option Addr) (c : Nat), e = .returned (.slice A (peopleP a).length c) ∧ Kd.C (Kd.int .i64) w' A (peopleP a).length (peopleP a) ∧ Below w.heap.size w w'
theorem people_calls {a : Int} (h0 : 0 ≤ a) (h1 : a < 2 ^ 64) (w : World) : Calls Try.prog 22 #[.int .u64 a] w (PeoplePost a w) := by
  obtain ⟨k, hk⟩ := (people_ev h0 h1).rounds
  refine (signatorylaw22_people.calls k a (peopleP a) w hk).mono ?_
  rintro e w' ⟨v, rfl, hR, hB⟩
  obtain ⟨A, c, rfl, hl, hC⟩ := Kd.R_reads hR
  exact ⟨A, c, rfl, hC, hB⟩
theorem small_calls (T : S24) (A : Option Addr) (c : Nat) (w : World) (hR : RdG w T A c) : ∃ r : Bool, (r = true → rightB T = true ∧ deeperB 16 T = false ∧ lv T ≤ 60) ∧
    ∀ W, Below w.heap.size w W → Calls Try.prog 20 #[gv T A c] W fun e w' => e = .returned (.bool r) ∧ Below W.heap.size W w' := by
  obtain ⟨r, hr, hs⟩ := small_ev T (rd_bdd T hR)
  obtain ⟨k, hk⟩ := hr.rounds
  refine ⟨r, hs, fun W hW => ?_⟩
  exact signatoryref22_Small.calls k T.f0 T.f1 A c T.f2 r W (hR.below hW).C hR.le hk
theorem dual_mk (T : S24) (A : Option Addr) (c : Nat) (w : World) (hR : RdG w T A c) (h1 : rightB T = true) (h2 : lv T ≤ 60) :
    ∀ W, Below w.heap.size w W → Calls Try.prog 24 #[gv T A c] W (DualPost T (fun k => k < w.heap.size) W) := by
  intro W hW
  have h := dual_says T h1 h2 (fun k => k < w.heap.size) A c W hR.le (Kd.F_below (Kd.C_F k24_heap hR.C) hW)
  exact h

/-! ### The plain law -/
theorem bv_xor (n : Nat) (hn : n < 2 ^ 64) : (BitVec.ofInt 64 18446744073709551615 ^^^ BitVec.ofInt 64 (n : Int)).toNat = 2 ^ 64 - 1 - n := by
  rw [BitVec.ofInt_natCast, show BitVec.ofInt 64 18446744073709551615 = BitVec.allOnes 64 from by decide, BitVec.allOnes_xor, BitVec.toNat_not, BitVec.toNat_ofNat, Nat.mod_eq_of_lt hn]
theorem xor_all {a : Int} (h0 : 0 ≤ a) (h1 : a < 2 ^ 64) : Go.bits .xor .u64 (if IntKind.u64.signed = true then -1 else IntKind.u64.max) a = 18446744073709551615 - a := by
  obtain ⟨n, rfl⟩ := Int.eq_ofNat_of_zero_le h0
  have hn : n < 2 ^ 64 := by omega
  have e := bv_xor n hn
  show IntKind.u64.wrap (((BitVec.ofInt 64 18446744073709551615 ^^^ BitVec.ofInt 64 (n : Int)).toNat : Nat) : Int) = _
  rw [e, u64_wraps _ (by omega) (by omega)]
  omega
theorem bit_compl {a : Int} (h0 : 0 ≤ a) (h1 : a < 2 ^ 64) (p : Int) (hp0 : 0 ≤ p) (hp1 : p < 64) : bitAt (18446744073709551615 - a) p.toNat = !bitAt a p.toNat := by
  obtain ⟨n, rfl⟩ := Int.eq_ofNat_of_zero_le h0
  have hn : n < 2 ^ 64 := by omega
  unfold bitAt
  rw [show ((18446744073709551615 : Int) - (n : Int)).toNat = 2 ^ 64 - (n + 1) from by omega, Int.toNat_natCast, Nat.testBit_two_pow_sub_succ hn]
  have : decide (p.toNat < 64) = true := by simp; omega
  rw [this, Bool.true_and]
theorem dual_right (T : S24) : rightB T = true → okD T = true → lv T ≤ 60 → rightB (dualT T) = true := by
  induction T using gate_ind with
  | _ T ih =>
  intro hr ho hl
  rw [dualT_eq]
  by_cases h0 : 0 ≤ T.f0
  · rw [if_pos h0]; exact hr
  · have hg := right_gate hr h0
    rw [okD_eq, if_neg h0] at ho
    simp only [Bool.and_eq_true, decide_eq_true_eq, List.all_eq_true] at ho
    rw [if_neg h0, rightB_eq, if_neg (by simp)]
    have := lv_len T
    simp only [Bool.and_eq_true, decide_eq_true_eq, beq_iff_eq, List.all_eq_true, List.mem_map]
    refine ⟨⟨⟨trivial, by omega⟩, by omega⟩, ?_⟩
    rintro y ⟨x, hx, rfl⟩
    exact ih x hx (hg.2.2.2 x hx) (ho.2 x hx) (by have := lv_mem hx; omega)
theorem dual_lv (T : S24) : lv (dualT T) = lv T := by
  induction T using gate_ind with
  | _ T ih =>
  rw [dualT_eq]
  by_cases h0 : 0 ≤ T.f0
  · rw [if_pos h0]
  · rw [if_neg h0, lv_eq, lv_eq T]
    simp only [List.length_map, List.map_map]
    congr 2
    exact List.map_congr_left (fun x hx => ih x hx)
theorem dual_deeper : ∀ (n : Nat) (T : S24), deeperB n (dualT T) = deeperB n T := by
  intro n
  induction n with
  | zero => intro T; rfl
  | succ n ih =>
    intro T
    rw [dualT_eq]
    by_cases h0 : 0 ≤ T.f0
    · rw [if_pos h0]
    · rw [if_neg h0]
      simp only [deeperB, List.any_map]
      congr 1
      funext x
      exact ih x
theorem dual_holds (f g : Int → Int) (hfg : ∀ p, 0 ≤ p → p < 64 → decide (0 < g p) = !decide (0 < f p)) (T : S24) : rightB T = true → okD T = true → holdsB g (dualT T) = !holdsB f T := by
  induction T using gate_ind with
  | _ T ih =>
  intro hr ho
  rw [dualT_eq]
  by_cases h0 : 0 ≤ T.f0
  · have hl := right_leaf hr h0
    rw [if_pos h0, holdsB_eq, holdsB_eq f, if_pos h0, if_pos h0, hfg _ h0 hl.1]
  · have hg := right_gate hr h0
    rw [okD_eq, if_neg h0] at ho
    simp only [Bool.and_eq_true, decide_eq_true_eq, List.all_eq_true] at ho
    rw [if_neg h0, holdsB_eq, holdsB_eq f, if_neg (by simp), if_neg h0]
    have e : (T.f2.map dualT).countP (holdsB g) = T.f2.length - T.f2.countP (holdsB f) := by
      rw [List.countP_map]
      have h1 : T.f2.countP (holdsB g ∘ dualT) = T.f2.countP (fun x => !holdsB f x) :=
        List.countP_congr (fun x hx => by simp only [Function.comp]; rw [ih x hx (hg.2.2.2 x hx) (ho.2 x hx)])
      have h2 := List.length_eq_countP_add_countP (holdsB f) (l := T.f2)
      have h3 : T.f2.countP (fun x => !holdsB f x) = T.f2.countP (fun a => decide ¬holdsB f a = true) := List.countP_congr (fun x _ => by simp)
      omega
    have h4 := List.countP_le_length (p := holdsB f) (l := T.f2)
    simp only [e]
    rw [Bool.eq_iff_iff]
    simp only [decide_eq_true_eq, Bool.not_eq_true', decide_eq_false_iff_not]
    omega

set_option maxRecDepth 100000 in
set_option maxHeartbeats 8000000 in
theorem law4_calls (T : S24) (A : Option Addr) (c : Nat) (a : Int) (w : World) (hR : RdG w T A c) (h0 : 0 ≤ a) (h1 : a < 2 ^ 64) :
    Calls Try.prog 4 #[gv T A c, .int .u64 a] w fun e w' => e = .returned (.bool true) ∧ Below w.heap.size w w' := by
  have hu24 := Try.underlying24
  have hnot := hnot_
  obtain ⟨r, hs, hsm⟩ := small_calls T A c w hR
  have HS := Aside0.mk hs
  have HSM := Aside0.mk hsm
  have HR := Aside0.mk hR
  have H0 := Aside0.mk (And.intro h0 h1)
  have HX := Aside0.mk (xor_all h0 h1)
  have H0c := Aside0.mk (show 0 ≤ 18446744073709551615 - a ∧ 18446744073709551615 - a < 2 ^ 64 by omega)
  clear hs hsm hR h0 h1
  unfold gv at *
  go_enter Try.func4, Try.ntmps4
  go_wp2_with fail
  refine (sane22_calls _).mono ?_
  rintro e w1 ⟨rfl, hb1⟩
  have K := Aside0.mk (blk_below (blk_new _ _) hb1)
  have B1 := Aside0.mk (below_call (below_alloc (Below.refl _ _) _) hb1)
  clear hb1
  have q0 := (blk_cell K.out 0).trans rfl
  have q1 := (blk_cell K.out 1).trans rfl
  have q2 := (blk_cell K.out 2).trans rfl
  go_wp2_with fail
  refine (HSM.out _ B1.out).mono ?_
  rintro e w2 ⟨rfl, hb1⟩
  have K := Aside0.mk (blk_below K.out hb1)
  have B2 := Aside0.mk (below_call B1.out hb1)
  clear hb1 q0 q1 q2
  cases r with
  | false =>
    go_wp2_with fail
    go_ret
    exact ⟨rfl, B2.out⟩
  | true =>
    obtain ⟨hr, hd, hl⟩ := HS.out rfl
    have HT := Aside0.mk (And.intro hr (And.intro hd hl))
    have HDM := Aside0.mk (dual_mk T A c w HR.out hr hl)
    clear hr hd hl
    have q0 := (blk_cell K.out 0).trans rfl
    have q1 := (blk_cell K.out 1).trans rfl
    have q2 := (blk_cell K.out 2).trans rfl
    go_wp2_with fail
    refine (HDM.out _ B2.out).mono ?_
    rintro e w3 ⟨n, m, v, xs, rfl, hV, hdu, hb1⟩
    obtain ⟨AD, cD, rfl⟩ := Kd.V_slice hV
    have HV := Aside0.mk hV
    have HDU := Aside0.mk hdu
    have K := Aside0.mk (blk_below K.out hb1)
    have B3 := Aside0.mk (below_call B2.out hb1)
    clear hV hdu hb1 q0 q1 q2
    cases hok : okD T with
    | false =>
      clear hok
      go_wp2_with fail
      go_ret
      exact ⟨rfl, below_alloc B3.out _⟩
    | true =>
      have HOK := Aside0.mk hok
      clear hok
      obtain ⟨hr, hd, hl⟩ := HT.out
      obtain ⟨ha, hha⟩ : ∃ ha, holdsB (thereOf (peopleP a)) T = ha := ⟨_, rfl⟩
      have hA1 : holdsAns T (peopleP a) = (ha, 0) := by
        unfold holdsAns; rw [check_ok hr hd (by omega), people_ok, hha]; rfl
      have HA1 := Aside0.mk hA1
      have hdr := dual_right T hr HOK.out hl
      have hdl := dual_lv T
      have hdd := dual_deeper 16 T
      have HC2 := Aside0.mk (check_ok hdr (by rw [hdd, hd]) (by omega))
      have hA2 : holdsAns (dualT T) (peopleP (18446744073709551615 - a)) = (!ha, 0) := by
        unfold holdsAns
        rw [HC2.out, people_ok, dual_holds (thereOf (peopleP a)) _ (fun p hp0 hp1 => ?_) T hr HOK.out, hha]
        · rfl
        · rw [there_people _ p hp0 hp1, there_people _ p hp0 hp1]; exact bit_compl H0.out.1 H0.out.2 p hp0 hp1
      have HA2 := Aside0.mk hA2
      have hdt := HDU.out HOK.out
      rw [← hdt] at HA2 HC2
      clear hr hd hl hha hA1 hA2 hdr hdl hdd hdt HT HOK
      go_wp2_with fail
      obtain ⟨W4, hW4⟩ : ∃ W4, w3.alloc (Obj.cells #[Value.int IntKind.i64 n, Value.int IntKind.i64 m, Value.slice AD xs.length cD] 24) = W4 := ⟨_, rfl⟩
      have KD := blk_new w3 (Obj.cells #[Value.int IntKind.i64 n, Value.int IntKind.i64 m, Value.slice AD xs.length cD] 24)
      have K4 := blk_alloc K.out (Obj.cells #[Value.int IntKind.i64 n, Value.int IntKind.i64 m, Value.slice AD xs.length cD] 24)
      have B4 := below_alloc B3.out (Obj.cells #[Value.int IntKind.i64 n, Value.int IntKind.i64 m, Value.slice AD xs.length cD] 24)
      have V4 := Kd.V_alloc HV.out (Obj.cells #[Value.int IntKind.i64 n, Value.int IntKind.i64 m, Value.slice AD xs.length cD] 24)
      rw [hW4] at KD K4 B4 V4 ⊢
      clear hW4 B3 K HV
      obtain ⟨bD, hbD⟩ : ∃ bD, w3.heap.size = bD := ⟨_, rfl⟩
      rw [hbD] at KD ⊢
      clear hbD
      have KD := Aside0.mk KD
      have K4 := Aside0.mk K4
      have B4 := Aside0.mk (below_drew B4)
      have HV := Aside0.mk V4
      clear V4
      have q0 : W4.drew.cell? ⟨w.heap.size, 0, none⟩ = some (.int .i64 T.f0) := (blk_cell (blk_drew K4.out) 0).trans rfl
      have q1 : W4.drew.cell? ⟨w.heap.size, 1, none⟩ = some (.int .i64 T.f1) := (blk_cell (blk_drew K4.out) 1).trans rfl
      have q2 : W4.drew.cell? ⟨w.heap.size, 2, none⟩ = some (.slice A T.f2.length c) := (blk_cell (blk_drew K4.out) 2).trans rfl
      go_region_with (first
        | (go_at_call 22; refine (people_calls H0.out.1 H0.out.2 _).mono ?_; rintro e w5 ⟨A5, c5, rfl, hC5, hb5⟩; have C5 := Aside0.mk hC5; have B5 := Aside0.mk (below_call B4.out hb5); have HB5 := Aside0.mk hb5; have r0 := pw_cell_below hb5 q0; have r1 := pw_cell_below hb5 q1; have r2 := pw_cell_below hb5 q2; clear hC5 hb5)
        | (go_at_call 21; refine (Holds_calls T (peopleP a) A c A5 c5 _ (HR.out.below B5.out) C5.out).mono ?_; rintro e w6 ⟨rfl, hb6⟩; rw [HA1.out]; have B6 := Aside0.mk (below_call B5.out hb6); have HB6 := Aside0.mk (below_call (below_drew (Below.refl W4.heap.size W4)) (below_call HB5.out hb6)); clear hb6))
      all_goals
        clear q0 q1 q2 r0 r1 r2
        have KD := Aside0.mk (blk_below KD.out HB6.out)
        have HV := Aside0.mk (Kd.V_below HV.out HB6.out)
        have B7 := Aside0.mk (below_drew B6.out)
        obtain ⟨hn, hl, hC⟩ := Kd.V_reads' HV.out
        have HRD := Aside0.mk (RdG.mk (T := (⟨n, m, xs⟩ : S24)) hl hC)
        clear hn hl hC
        have q0 : w6.drew.cell? ⟨bD, 0, none⟩ = some (.int .i64 n) := (blk_cell (blk_drew KD.out) 0).trans rfl
        have q1 : w6.drew.cell? ⟨bD, 1, none⟩ = some (.int .i64 m) := (blk_cell (blk_drew KD.out) 1).trans rfl
        have q2 : w6.drew.cell? ⟨bD, 2, none⟩ = some (.slice AD xs.length cD) := (blk_cell (blk_drew KD.out) 2).trans rfl
        go_wp2_with fail
        go_region_with (first
          | (go_at_call 22; rw [HX.out]; refine (people_calls (a := 18446744073709551615 - a) H0c.out.1 H0c.out.2 _).mono ?_; rintro e w7 ⟨A7, c7, rfl, hC7, hb7⟩; have C7 := Aside0.mk hC7; have B8 := Aside0.mk (below_call B7.out hb7); have HB7 := Aside0.mk hb7; have r0 := pw_cell_below hb7 q0; have r1 := pw_cell_below hb7 q1; have r2 := pw_cell_below hb7 q2; clear hC7 hb7)
          | (go_at_call 21; refine (Holds_calls ⟨n, m, xs⟩ (peopleP (18446744073709551615 - a)) AD cD A7 c7 _ (HRD.out.below (below_call (below_drew (Below.refl w6.heap.size w6)) HB7.out)) C7.out).mono ?_; rintro e w8 ⟨rfl, hb8⟩; rw [HA2.out]; have B9 := Aside0.mk (below_call B8.out hb8); have HB8 := Aside0.mk (below_call (below_drew (Below.refl w6.heap.size w6)) (below_call HB7.out hb8)); clear hb8))
        all_goals
          clear q0 q1 q2 r0 r1 r2
          have q0 := (blk_cell (blk_below KD.out HB8.out) 0).trans rfl
          have q1 := (blk_cell (blk_below KD.out HB8.out) 1).trans rfl
          have q2 := (blk_cell (blk_below KD.out HB8.out) 2).trans rfl
          go_wp2_with fail
          refine (check_calls ⟨n, m, xs⟩ AD cD _ (HRD.out.below HB8.out)).mono ?_
          rintro e w9 ⟨rfl, hb9⟩
          rw [HC2.out]
          have B10 := Aside0.mk (below_call B9.out hb9)
          clear hb9
          go_wp2_with fail
          go_ret
          exact ⟨rfl, B10.out⟩
end Go.Proofs.Ytipdpfnjobfbpaa.H
