/- signatorylaw22.FormulasMonotone returns true, whatever gate and people. -/
import Derived.Test.YtipdpfnjobfbpaaHPure3
namespace Go.Proofs.Ytipdpfnjobfbpaa.H
open Go.RowKit Go.Shelf Go.Proofs.YtipdpfnjobfbpaaW.PrintWords Go.Proofs.YtipdpfnjobfbpaaW.PrintLast Go.Proofs.YtipdpfnjobfbpaaW.PrintMore Go.Proofs.Ytipdpfnjobfbpaa.P
set_option linter.unusedVariables false
set_option linter.unusedSimpArgs false

set_option maxRecDepth 100000 in
set_option maxHeartbeats 8000000 in
theorem law3_calls (T : S24) (A : Option Addr) (c : Nat) (m n : Nat) (w : World) (hR : RdG w T A c) (h1 : m < 2 ^ 64) (h2 : n < 2 ^ 64) :
    Calls Try.prog 3 #[gv T A c, .int .u64 m, .int .u64 n] w fun e w' => e = .returned (.bool true) ∧ Below w.heap.size w w' := by
  have hu24 := Try.underlying24
  have hnot := hnot_
  have eg := mono1_enters
  have hmf := hmf_
  obtain ⟨r, hs, hsm⟩ := small_calls T A c w hR
  have HS := Aside0.mk hs
  have HSM := Aside0.mk hsm
  have HR := Aside0.mk hR
  have H0 := Aside0.mk (And.intro h1 h2)
  have HOR := Aside0.mk (bits_or m n h1 h2)
  have HORL := Aside0.mk (Nat.or_lt_two_pow h1 h2)
  clear hs hsm hR h1 h2
  unfold gv at *
  go_enter Try.func3, Try.ntmps3
  go_wp2_with fail
  refine (sane22_calls _).mono ?_
  rintro e w1 ⟨rfl, hb1⟩
  have K := Aside0.mk (blk_below (blk_new _ _) hb1)
  have B1 := Aside0.mk (below_call (below_alloc (Below.refl _ _) _) hb1)
  clear hb1
  have q0 := (blk_cell K.out 0).trans rfl
  have q1 := (blk_cell K.out 1).trans rfl
  have q2 := (blk_cell K.out 2).trans rfl
  go_wp2_with fail
  refine (HSM.out _ B1.out).mono ?_
  rintro e w2 ⟨rfl, hb1⟩
  have K := Aside0.mk (blk_below K.out hb1)
  have B2 := Aside0.mk (below_call B1.out hb1)
  clear hb1 q0 q1 q2
  cases r with
  | false =>
    go_wp2_with fail
    go_ret
    exact ⟨rfl, B2.out⟩
  | true =>
    obtain ⟨hr, hd, hl⟩ := HS.out rfl
    have HT := Aside0.mk (And.intro hr (And.intro hd hl))
    obtain ⟨ha, hha⟩ : ∃ ha, holdsB (thereOf (peopleP (m : Int))) T = ha := ⟨_, rfl⟩
    obtain ⟨hb, hhb⟩ : ∃ hb, holdsB (thereOf (peopleP ((m ||| n : Nat) : Int))) T = hb := ⟨_, rfl⟩
    have HA1 := Aside0.mk (ans_ok hr hd hl (m : Int))
    have HA2 := Aside0.mk (ans_ok hr hd hl ((m ||| n : Nat) : Int))
    have HA3 := Aside0.mk (ans_nil hr hd hl)
    have HA4 := Aside0.mk (ans_ok hr hd hl ((m &&& walkBits T 0 : Nat) : Int))
    have himp : ha = true → hb = true := by rw [← hha, ← hhb]; exact holds_or m n T
    rw [holds_and m T hr] at HA4
    rw [hha] at HA1 HA4
    rw [hhb] at HA2
    have HIMP := Aside0.mk himp
    have hwb := walkBits_lt T hr 0 (by omega)
    have HWB := Aside0.mk hwb
    have HAND := Aside0.mk (bits_and m (walkBits T 0) H0.out.1 hwb)
    have HANDL := Aside0.mk (show m &&& walkBits T 0 < 2 ^ 64 from Nat.lt_of_le_of_lt Nat.and_le_left H0.out.1)
    clear hr hd hl hha hhb himp hwb
    have B4 := Aside0.mk (below_drew B2.out)
    have q0 := (blk_cell K.out 0).trans rfl
    have q1 := (blk_cell K.out 1).trans rfl
    have q2 := (blk_cell K.out 2).trans rfl
    go_wp2_with fail
    have d0 : w2.drew.cell? ⟨w.heap.size, 0, none⟩ = some (.int .i64 T.f0) := (blk_cell (blk_drew K.out) 0).trans rfl
    have d1 : w2.drew.cell? ⟨w.heap.size, 1, none⟩ = some (.int .i64 T.f1) := (blk_cell (blk_drew K.out) 1).trans rfl
    have d2 : w2.drew.cell? ⟨w.heap.size, 2, none⟩ = some (.slice A T.f2.length c) := (blk_cell (blk_drew K.out) 2).trans rfl
    go_region_with (first
        | (go_at_call 22; refine (people_calls (Int.natCast_nonneg m) (by have := H0.out.1; omega) _).mono ?_; rintro e w5 ⟨A5, c5, rfl, hC5, hb5⟩; have C5 := Aside0.mk hC5; have B5 := Aside0.mk (below_call B4.out hb5); have HB5 := Aside0.mk hb5; have r0 := pw_cell_below hb5 d0; have r1 := pw_cell_below hb5 d1; have r2 := pw_cell_below hb5 d2; clear hC5 hb5)
        | (go_at_call 21; refine (Holds_calls T (peopleP (m : Int)) A c A5 c5 _ (HR.out.below B5.out) C5.out).mono ?_; rintro e w6 ⟨rfl, hb6⟩; rw [HA1.out]; have B6 := Aside0.mk (below_call B5.out hb6); have HB6 := Aside0.mk (below_call HB5.out hb6); clear hb6))
    all_goals
      clear q0 q1 q2 d0 d1 d2 r0 r1 r2
      have K6 := Aside0.mk (blk_below (blk_drew K.out) HB6.out)
      have B7 := Aside0.mk (below_drew B6.out)
      have d0 : w6.drew.cell? ⟨w.heap.size, 0, none⟩ = some (.int .i64 T.f0) := (blk_cell (blk_drew K6.out) 0).trans rfl
      have d1 : w6.drew.cell? ⟨w.heap.size, 1, none⟩ = some (.int .i64 T.f1) := (blk_cell (blk_drew K6.out) 1).trans rfl
      have d2 : w6.drew.cell? ⟨w.heap.size, 2, none⟩ = some (.slice A T.f2.length c) := (blk_cell (blk_drew K6.out) 2).trans rfl
      go_wp2_with fail
      go_region_with (first
        | (go_at_call 22; rw [HOR.out]; refine (people_calls (Int.natCast_nonneg (m ||| n)) (by have := HORL.out; omega) _).mono ?_; rintro e w7 ⟨A7, c7, rfl, hC7, hb7⟩; have C7 := Aside0.mk hC7; have B8 := Aside0.mk (below_call B7.out hb7); have HB7 := Aside0.mk hb7; have r0 := pw_cell_below hb7 d0; have r1 := pw_cell_below hb7 d1; have r2 := pw_cell_below hb7 d2; clear hC7 hb7)
        | (go_at_call 21; refine (Holds_calls T (peopleP ((m ||| n : Nat) : Int)) A c A7 c7 _ (HR.out.below B8.out) C7.out).mono ?_; rintro e w8 ⟨rfl, hb8⟩; rw [HA2.out]; have B9 := Aside0.mk (below_call B8.out hb8); have HB8 := Aside0.mk (below_call HB7.out hb8); clear hb8))
      all_goals
        clear d0 d1 d2 r0 r1 r2
        have K8 := Aside0.mk (blk_below (blk_drew K6.out) HB8.out)
        have q0 := (blk_cell K8.out 0).trans rfl
        have q1 := (blk_cell K8.out 1).trans rfl
        have q2 := (blk_cell K8.out 2).trans rfl
        go_wp2_with fail
        refine (Holds_calls T [] A c none 0 _ (HR.out.below B9.out) ⟨rfl, by simp, fun h => by simp at h⟩).mono ?_
        rintro e w9 ⟨rfl, hb9⟩
        rw [HA3.out]
        have B10 := Aside0.mk (below_call B9.out hb9)
        have K9 := Aside0.mk (blk_below K8.out hb9)
        clear hb9 q0 q1 q2
        have hI : MonoInv w9 w9.heap.size (w9.heap.size + 1) 0 ((w9.alloc (Obj.cells #[Value.int IntKind.u64 0] 25)).alloc (Obj.cells #[Value.func (Fn.func 23) #[] #[Value.pointer (some { block := w9.heap.size, off := 0 }), Value.pointer (some { block := w9.heap.size + 1, off := 0 })]] 33)) := by
          refine ⟨below_alloc (below_alloc (Below.refl _ _) _) _, blk_alloc (blk_new w9 _) _, ?_⟩
          have := blk_new (w9.alloc (Obj.cells #[Value.int IntKind.u64 0] 25)) (Obj.cells #[Value.func (Fn.func 23) #[] #[Value.pointer (some { block := w9.heap.size, off := 0 }), Value.pointer (some { block := w9.heap.size + 1, off := 0 })]] 33)
          rw [World.size_alloc] at this
          exact this
        have HI := Aside0.mk hI
        clear hI
        have HRT := Aside0.mk HT.out.1
        rcases (show ha = false ∨ (ha = true ∧ hb = true) by cases ha; exact .inl rfl; exact .inr ⟨rfl, HIMP.out rfl⟩) with hcs | ⟨hcs, hcs2⟩
        all_goals
          first
            | (subst hcs; subst hcs2)
            | subst hcs
          have q0 := fun o o' => (blk_cell (blk_alloc (blk_alloc K9.out o) o') 0).trans rfl
          have q1 := fun o o' => (blk_cell (blk_alloc (blk_alloc K9.out o) o') 1).trans rfl
          have q2 := fun o o' => (blk_cell (blk_alloc (blk_alloc K9.out o) o') 2).trans rfl
          go_wp2_with fail
          refine (mono_says w9 w9.heap.size (w9.heap.size + 1) (Nat.le_refl _) (by omega) T HRT.out A c 0 _ (HR.out.below B10.out) (by omega) HI.out).mono ?_
          rintro e w11 ⟨⟨v, rfl⟩, hI⟩
          have HI2 := Aside0.mk hI
          clear hI q0 q1 q2
          have B11 := Aside0.mk (below_drew (below_call B10.out HI2.out.below))
          have K11 := Aside0.mk (blk_drew (blk_below K9.out HI2.out.below))
          have d0 : w11.drew.cell? ⟨w.heap.size, 0, none⟩ = some (.int .i64 T.f0) := (blk_cell K11.out 0).trans rfl
          have d1 : w11.drew.cell? ⟨w.heap.size, 1, none⟩ = some (.int .i64 T.f1) := (blk_cell K11.out 1).trans rfl
          have d2 : w11.drew.cell? ⟨w.heap.size, 2, none⟩ = some (.slice A T.f2.length c) := (blk_cell K11.out 2).trans rfl
          have dT : w11.drew.cell? ⟨w9.heap.size, 0, none⟩ = some (.int .u64 (walkBits T 0 : Nat)) := (blk_cell (blk_drew HI2.out.word) 0).trans rfl
          go_wp2_with fail
          go_region_with (first
            | (go_at_call 22; rw [HAND.out]; refine (people_calls (Int.natCast_nonneg (m &&& walkBits T 0)) (by have := HANDL.out; omega) _).mono ?_; rintro e w12 ⟨A12, c12, rfl, hC12, hb12⟩; have C12 := Aside0.mk hC12; have B12 := Aside0.mk (below_call B11.out hb12); have r0 := pw_cell_below hb12 d0; have r1 := pw_cell_below hb12 d1; have r2 := pw_cell_below hb12 d2; have rT := pw_cell_below hb12 dT; clear hC12 hb12)
            | (go_at_call 21; refine (Holds_calls T (peopleP ((m &&& walkBits T 0 : Nat) : Int)) A c A12 c12 _ (HR.out.below B12.out) C12.out).mono ?_; rintro e w13 ⟨rfl, hb13⟩; rw [HA4.out]; have B13 := Aside0.mk (below_call B12.out hb13); clear hb13))
          all_goals
            clear d0 d1 d2 dT r0 r1 r2 rT
            go_wp2_with fail
            go_ret
            exact ⟨by simp, B13.out⟩
end Go.Proofs.Ytipdpfnjobfbpaa.H
