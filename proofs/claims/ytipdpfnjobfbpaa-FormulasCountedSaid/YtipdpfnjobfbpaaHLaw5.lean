/- signatorylaw22.FormulasCounted returns true, whatever gate, people and turn. -/
import Derived.Test.YtipdpfnjobfbpaaHPure5
import Derived.Deep.RegionWith
import Derived.Deep.RegionLaw
namespace Go.Proofs.Ytipdpfnjobfbpaa.H
open Go.RowKit Go.Shelf Go.Proofs.YtipdpfnjobfbpaaW.PrintWords Go.Proofs.YtipdpfnjobfbpaaW.PrintLast Go.Proofs.YtipdpfnjobfbpaaW.PrintMore Go.Proofs.Ytipdpfnjobfbpaa.P
set_option linter.unusedVariables false
set_option linter.unusedSimpArgs false

theorem N_lit0 (W : World) (ok : Nat → Prop) (hok : ok W.heap.size) : Kd.N k24 24 (W.alloc (.cells #[] 24)) W.heap.size ok (.slice (some ⟨W.heap.size, 0, none⟩) 0 0) [] := by
  refine Kd.R_N ⟨fun k hk => ?_, [], ?_, Reps.none _ _⟩
  · have : W.heap.size = k := by simpa [Value.ownBlock] using hk
    subst this
    exact hok
  · have h2 := World.ownsRow_lit (base := W.heap.size) (e := 24) (size := 3) W #[] 0 (Nat.le_refl _) (by simp [maxLen]) (by simp)
    rw [show k24.sz = 3 from rfl]
    simpa using h2
theorem shr_leaf (a : Int) {p : Int} (h0 : 0 ≤ p) (h1 : p < 64) : shr .u64 a (p.toNat : Nat) = a / 2 ^ p.toNat := by
  obtain ⟨n, rfl⟩ := Int.eq_ofNat_of_zero_le h0
  simp only [Int.toNat_natCast]
  have : shr .u64 a (n : Int) = a / 2 ^ (min (n : Int).toNat 64) := rfl
  rw [this, Int.toNat_natCast, Nat.min_eq_left (by omega)]
theorem inc_rel {k L : Nat} (h1 : k < L) (h2 : L ≤ 60) : wrap64 ((k : Int) + 1) = ((k + 1 : Nat) : Int) := by unfold wrap64; omega
theorem inc_meas {k L : Nat} (h1 : k < L) (h2 : L ≤ 60) : L - (wrap64 ((k : Int) + 1)).toNat < L - k := by unfold wrap64; omega

theorem cnt_rel {p : S24 → Bool} {l : List S24} {x : S24} {k : Nat} (h1 : k < l.length) (h2 : l.length ≤ 60) (hd : l.take (k + 1) = l.take k ++ [x]) (hx : p x = true) :
    wrap64 (((l.take k).countP p : Nat) + 1) = (((l.take (k + 1)).countP p : Nat) : Int) := by
  have := List.countP_le_length (p := p) (l := l.take k)
  rw [List.length_take] at this
  rw [hd, List.countP_append, List.countP_singleton, if_pos hx]
  unfold wrap64; omega
theorem cnt_same {p : S24 → Bool} {l : List S24} {x : S24} {k : Nat} (hd : l.take (k + 1) = l.take k ++ [x]) (hx : p x = false) :
    (((l.take k).countP p : Nat) : Int) = (((l.take (k + 1)).countP p : Nat) : Int) := by
  rw [hd, List.countP_append, List.countP_singleton, hx]; simp

set_option maxRecDepth 100000 in
set_option maxHeartbeats 8000000 in
theorem law5_calls (T : S24) (A : Option Addr) (c : Nat) (a by_ : Int) (w : World) (hR : RdG w T A c) (h0 : 0 ≤ a) (h1 : a < 2 ^ 64) (hb0 : 0 ≤ by_) (hb1 : by_ < 256) :
    Calls Try.prog 5 #[gv T A c, .int .u64 a, .int .u8 by_] w fun e w' => e = .returned (.bool true) ∧ Below w.heap.size w w' := by
  have hu24 := Try.underlying24
  have hnot := hnot_
  obtain ⟨r, hs, hsm⟩ := small_calls T A c w hR
  have HS := Aside0.mk hs
  have HSM := Aside0.mk hsm
  have HR := Aside0.mk hR
  have H0 := Aside0.mk (And.intro h0 h1)
  have HBY := Aside0.mk (And.intro hb0 hb1)
  clear hs hsm hR h0 h1 hb0 hb1
  unfold gv at *
  go_enter Try.func5, Try.ntmps5
  go_wp2_with fail
  refine (sane22_calls _).mono ?_
  rintro e w1 ⟨rfl, hb1⟩
  have K := Aside0.mk (blk_below (blk_new _ _) hb1)
  have B1 := Aside0.mk (below_call (below_alloc (Below.refl _ _) _) hb1)
  clear hb1
  have q0 := (blk_cell K.out 0).trans rfl
  have q1 := (blk_cell K.out 1).trans rfl
  have q2 := (blk_cell K.out 2).trans rfl
  go_wp2_with fail
  refine (HSM.out _ B1.out).mono ?_
  rintro e w2 ⟨rfl, hb1⟩
  have K := Aside0.mk (blk_below K.out hb1)
  have B2 := Aside0.mk (below_call B1.out hb1)
  clear hb1 q0 q1 q2
  cases r with
  | false =>
    go_wp2_with fail
    go_ret
    exact ⟨rfl, B2.out⟩
  | true =>
    obtain ⟨hr, hd, hl⟩ := HS.out rfl
    have HT := Aside0.mk (And.intro hr (And.intro hd hl))
    obtain ⟨ha, hha⟩ : ∃ ha, holdsB (thereOf (peopleP a)) T = ha := ⟨_, rfl⟩
    have HA := Aside0.mk (ans_ok hr hd hl a)
    rw [hha] at HA
    have HHA := Aside0.mk hha
    clear hr hd hl hha
    have q0 := (blk_cell K.out 0).trans rfl
    have q1 := (blk_cell K.out 1).trans rfl
    have q2 := (blk_cell K.out 2).trans rfl
    go_wp2_with fail
    refine (people_calls H0.out.1 H0.out.2 _).mono ?_
    rintro e w5 ⟨A5, c5, rfl, hC5, hb5⟩
    have C5 := Aside0.mk hC5
    have K := Aside0.mk (blk_below K.out hb5)
    have B5 := Aside0.mk (below_call B2.out hb5)
    clear hb5 hC5 q0 q1 q2
    have q0 := (blk_cell K.out 0).trans rfl
    have q1 := (blk_cell K.out 1).trans rfl
    have q2 := (blk_cell K.out 2).trans rfl
    go_wp2_with fail
    refine (Holds_calls T (peopleP a) A c A5 c5 _ (HR.out.below B5.out) C5.out).mono ?_
    rintro e w6 ⟨rfl, hb6⟩
    rw [HA.out]
    have K := Aside0.mk (blk_below K.out hb6)
    have C5 := Aside0.mk (Kd.C_below C5.out hb6)
    have B6 := Aside0.mk (below_call B5.out hb6)
    clear hb6 q0 q1 q2
    have q0 := (blk_cell K.out 0).trans rfl
    have q1 := (blk_cell K.out 1).trans rfl
    have q2 := (blk_cell K.out 2).trans rfl
    by_cases h0 : 0 ≤ T.f0
    · have hlt := (right_leaf HT.out.1 h0).1
      have hbit : (ha == (Go.bits BinOp.and IntKind.u64 (a / 2 ^ T.f0.toNat) 1 == 1)) = true := by
        have hb := people_bit H0.out.1 H0.out.2 T.f0.toNat (by omega)
        rw [← HHA.out, leaf_holds HT.out.1 h0]
        rw [beq_iff_eq, Bool.eq_iff_iff, ← hb, beq_iff_eq]
        rw [shr_leaf a h0 hlt]
      have HBIT := Aside0.mk hbit
      clear hbit
      go_wp2_with fail
      go_ret
      exact ⟨by rw [HBIT.out]; rfl, B6.out⟩
    · have h0' := Aside0.mk h0
      go_wp2_with fail
      clear q0 q1 q2
      go_loopw [10, 49] (fun v10 v49 wr => ∃ k : Nat, k ≤ T.f2.length ∧ v49 = .int .i64 k ∧ v10 = .int .i64 ((T.f2.take k).countP (holdsB (thereOf (peopleP a))) : Nat) ∧
        Aside0 (Below w6.heap.size w6 wr)) (fun _ v49 _ => T.f2.length - (intOf v49).toNat)
      case atStart => exact ⟨0, by omega, rfl, rfl, ⟨Below.refl _ _⟩⟩
      case round =>
        obtain ⟨k, hk, rfl, rfl, HBw⟩ := hrel
        have q0 := (blk_cell (blk_below K.out HBw.out) 0).trans rfl
        have q1 := (blk_cell (blk_below K.out HBw.out) 1).trans rfl
        have q2 := (blk_cell (blk_below K.out HBw.out) 2).trans rfl
        by_cases hlt : k < T.f2.length
        · have hltz : (k : Int) < (T.f2.length : Int) := by omega
          obtain ⟨ad, A3, c3, rfl, l0, l1, l2, hRx⟩ := at_gate HR.out.C (below_call B6.out HBw.out) k hlt
          have hx := Aside0.mk (getD_mem_gate hlt)
          have hdrop := Aside0.mk (show T.f2.take (k + 1) = T.f2.take k ++ [T.f2.getD k z24] from by rw [List.take_succ_eq_append_getElem hlt, List.getD_eq_getElem?_getD, List.getElem?_eq_getElem hlt]; rfl)
          have hRx' := Aside0.mk hRx
          clear hRx
          generalize T.f2.getD k z24 = x at l0 l1 l2 hx hdrop hRx'
          have HAX := Aside0.mk (ans_sub HT.out.1 HT.out.2.1 HT.out.2.2 hx.out a)
          go_wp2_with fail
          refine (Holds_calls x (peopleP a) A3 c3 A5 c5 _ (hRx'.out.below (below_alloc (Below.refl _ _) _)) (Kd.C_below C5.out (below_alloc HBw.out _))).mono ?_
          rintro e w7 ⟨rfl, hb7⟩
          rw [HAX.out]
          have HBw := Aside0.mk (below_call (below_alloc HBw.out _) hb7)
          clear hb7 q0 q1 q2 l0 l1 l2
          have hL60 : T.f2.length ≤ 60 := by have h2 := HT.out.2.2; have h3 := lv_len T; omega
          obtain ⟨n, hn⟩ : ∃ n, (T.f2.take k).countP (holdsB (thereOf (peopleP a))) = n := ⟨_, rfl⟩
          have hn60 : n ≤ 60 := by
            have := List.countP_le_length (p := holdsB (thereOf (peopleP a))) (l := T.f2.take k)
            rw [List.length_take] at this; omega
          have HN := Aside0.mk hn
          rw [hn]
          clear hn
          cases hox : holdsB (thereOf (peopleP a)) x with
          | true =>
            have HOX := Aside0.mk hox
            clear hox
            go_wp2_with fail
            go_roundw
            case rel => exact ⟨k + 1, by omega, by go_num, by rw [hdrop.out, List.countP_append, HN.out]; simp [HOX.out], HBw⟩
            case measure => simp [intOf]; omega
          | false =>
            have HOX := Aside0.mk hox
            clear hox
            go_wp2_with fail
            go_roundw
            case rel => exact ⟨k + 1, by omega, by go_num, by rw [hdrop.out, List.countP_append, HN.out]; simp [HOX.out], HBw⟩
            case measure => simp [intOf]; omega
        · obtain rfl : k = T.f2.length := by omega
          obtain ⟨n, hn⟩ : ∃ n, (T.f2.take T.f2.length).countP (holdsB (thereOf (peopleP a))) = n := ⟨_, rfl⟩
          have hn' : ha = decide (T.f1 ≤ (n : Int)) := by
            rw [← HHA.out, ← hn, List.take_length, holdsB_eq, if_neg (by have := h0'.out; omega)]
          have HN := Aside0.mk hn'
          rw [hn]
          clear hn hn'
          by_cases hz : T.f2.length = 0
          · have hz' : ¬ (0 : Int) < (T.f2.length : Int) := by omega
            go_wp2_with fail
            go_ret
            exact ⟨by rw [HN.out]; simp, below_call B6.out HBw.out⟩
          · have hz' : (0 : Int) < (T.f2.length : Int) := by omega
            have hb0 := HBY.out.1
            have hb1 := HBY.out.2
            obtain ⟨kk, hkk, hkl⟩ : ∃ kk : Nat, by_.tmod (T.f2.length : Int) = (kk : Int) ∧ kk < T.f2.length := by
              have h1 := Int.tmod_nonneg (T.f2.length : Int) hb0
              have h2 := Int.tmod_lt_of_pos by_ hz'
              exact ⟨(by_.tmod (T.f2.length : Int)).toNat, by omega, by omega⟩
            go_wp2_with fail
            try rw [hkk]
            have HZ := Aside0.mk (And.intro hz (And.intro hz' (And.intro hkk hkl)))
            obtain ⟨W4, hW4⟩ : ∃ W4, wr.alloc (Obj.cells #[Value.int IntKind.i64 T.f0, Value.int IntKind.i64 T.f1, Value.slice A T.f2.length c] 24) = W4 := ⟨_, rfl⟩
            have KD := blk_new wr (Obj.cells #[Value.int IntKind.i64 T.f0, Value.int IntKind.i64 T.f1, Value.slice A T.f2.length c] 24)
            have K4 := blk_alloc (blk_below K.out HBw.out) (Obj.cells #[Value.int IntKind.i64 T.f0, Value.int IntKind.i64 T.f1, Value.slice A T.f2.length c] 24)
            have B4 := below_alloc (below_call B6.out HBw.out) (Obj.cells #[Value.int IntKind.i64 T.f0, Value.int IntKind.i64 T.f1, Value.slice A T.f2.length c] 24)
            have C4 := Kd.C_below (Kd.C_below C5.out HBw.out) (below_alloc (Below.refl _ _) (Obj.cells #[Value.int IntKind.i64 T.f0, Value.int IntKind.i64 T.f1, Value.slice A T.f2.length c] 24))
            have hsz4 : wr.heap.size < W4.heap.size := by rw [← hW4, World.size_alloc]; omega
            have hsw : w.heap.size < wr.heap.size := blk_lt (blk_below K.out HBw.out)
            have BW := below_alloc (Below.refl wr.heap.size wr) (Obj.cells #[Value.int IntKind.i64 T.f0, Value.int IntKind.i64 T.f1, Value.slice A T.f2.length c] 24)
            have FW := Kd.C_F (Kd.heap_int .i64) (Kd.C_below C5.out HBw.out)
            rw [hW4] at KD K4 B4 C4 BW ⊢
            clear hW4 q0 q1 q2
            obtain ⟨bD, hbD⟩ : ∃ bD, wr.heap.size = bD := ⟨_, rfl⟩
            rw [hbD] at KD hsz4 hsw BW FW ⊢
            have HVW := Aside0.mk (show ∀ k, k < bD → (W4.alloc (Obj.cells #[] 24)).drew.heap[k]? = wr.heap[k]? from fun k hk => ((World.grownBy_alloc W4 (Obj.cells #[] 24) none).block k (by omega) (by simp)).trans (BW.block k hk))
            have FW := Aside0.mk FW
            clear BW
            clear hbD
            have HSZ := Aside0.mk (And.intro hsz4 hsw)
            have KD := Aside0.mk KD
            have K4 := Aside0.mk K4
            have BR := Aside0.mk B4
            have C4 := Aside0.mk C4
            have q2 : W4.drew.cell? ⟨w.heap.size, 2, none⟩ = some (.slice A T.f2.length c) := (blk_cell (blk_drew K4.out) 2).trans rfl
            obtain ⟨ti, hti, htm⟩ := Option.map_eq_some_iff.1 info24
            have hts : ti.size = 3 := by injection htm with _ h; injection h
            have hcF := cut_from 22 24 .i64 Try.underlying22 hti 3 hts A T.f2.length c (kk : Int) (by omega) (by omega)
            have hcT := cut_to 22 24 .i64 Try.underlying22 hti A T.f2.length c (kk : Int) (by omega) (by omega) HR.out.le
            rw [Int.toNat_natCast] at hcF hcT
            have hck : ¬ c = kk := by have := HR.out.le; omega
            rw [if_neg hck] at hcF
            clear hti htm hts
            have FA := Kd.C_F k24_heap HR.out.C
            have F1 := Aside0.mk (Kd.F_imp FA (fun _ hC => Kd.C_drop (k := k24) (m := kk) hC (by omega) HR.out.le))
            have F2 := Aside0.mk (Kd.F_imp FA (fun _ hC => Kd.C_take (k := k24) (m := kk) hC (by omega)))
            rw [List.length_drop, if_neg hck] at F1
            clear hck
            rw [List.length_take, Nat.min_eq_left (by omega)] at F2
            clear FA
            have NE := Aside0.mk (Kd.N_drew (N_lit0 W4 (fun k => k < w.heap.size ∨ W4.heap.size ≤ k) (.inr (Nat.le_refl _))))
            have BV := Aside0.mk (show Below w.heap.size w (W4.alloc (Obj.cells #[] 24)).drew from below_drew (below_alloc BR.out _))
            have KV := Aside0.mk (blk_drew (blk_alloc K4.out (Obj.cells #[] 24)))
            have KDV := Aside0.mk (blk_drew (blk_alloc KD.out (Obj.cells #[] 24)))
            have hVs : W4.heap.size ≤ (W4.alloc (Obj.cells #[] 24)).drew.heap.size := by rw [show (W4.alloc (Obj.cells #[] 24)).drew.heap = (W4.alloc (Obj.cells #[] 24)).heap from rfl, World.size_alloc]; omega
            have HVS := Aside0.mk hVs
            clear hVs
            have q2V := (blk_cell KV.out 2).trans rfl
            have F1 := Aside0.mk (Kd.F_below F1.out BV.out)
            have F2 := Aside0.mk (Kd.F_below F2.out BV.out)
            have P1 : ∀ k, k < w.heap.size → (k < w.heap.size ∨ W4.heap.size ≤ k) ∧ some k ≠ (Value.slice (some ⟨W4.heap.size, 0, none⟩) 0 0).ownBlock := fun k hk => ⟨.inl hk, fun e => by have := Kd.N_base NE.out k e.symm; have := HSZ.out; omega⟩
            have P1 := Aside0.mk P1
            have P2 := Aside0.mk (fun (k : Nat) (hk : (W4.alloc (Obj.cells #[] 24)).drew.heap.size ≤ k) => (show k < w.heap.size ∨ W4.heap.size ≤ k from .inr (Nat.le_trans HVS.out hk)))
            have L60 := Aside0.mk (show T.f2.length ≤ 60 by have h2 := HT.out.2.2; have h3 := lv_len T; omega)
            have P3 := Aside0.mk (show (([] : List S24).length + (T.f2.length - kk)) * 40 ≤ 140737488355328 by have := L60.out; simp; omega)
            have P4 := Aside0.mk (show (([] ++ T.f2.drop kk : List S24).length + kk) * 40 ≤ 140737488355328 by have := L60.out; simp; omega)
            go_region_law (first
              | (refine Kd.N_append_rows_step k24 (w0 := (W4.alloc (Obj.cells #[] 24)).drew) W4.heap.size (by simp [Region.wanted]) (.tmp 75) (.tmp 79) 22 24 _ 40 (by rfl) Try.underlying22 info24 rfl (by decide) (by omega) (.slice (some ⟨W4.heap.size, 0, none⟩) 0 0) ([] : List S24) (T.f2.drop kk) (A.map (·.add (kk * 3))) (T.f2.length - kk) (c - kk) (fun k => k < w.heap.size ∨ W4.heap.size ≤ k) (fun k => k < w.heap.size) (by rfl) (by rfl) NE.out F1.out P1.out P2.out (Below.refl _ _) HVS.out P3.out ?_; intro v1 w7 hN1 hB1 hg1 hat1; have N1 := Aside0.mk hN1; have B7 := Aside0.mk hB1; have K7 := Aside0.mk ((hB1.block w.heap.size (by have := HSZ.out; omega)).trans KV.out); have r2 := (blk_cell K7.out 2).trans rfl; clear hN1 hB1 hg1 hat1)
              | (refine Kd.N_append_rows_step k24 (w0 := (W4.alloc (Obj.cells #[] 24)).drew) W4.heap.size (by simp [Region.wanted]) (.tmp 80) (.tmp 84) 22 24 _ 40 (by rfl) Try.underlying22 info24 rfl (by decide) (by omega) v1 ([] ++ T.f2.drop kk) (T.f2.take kk) A kk c (fun k => k < w.heap.size ∨ W4.heap.size ≤ k) (fun k => k < w.heap.size) (by rfl) (by rfl) N1.out (Kd.F_step F2.out (fun k ho _ => B7.out.block k (by have := HSZ.out; omega))) (fun k hk => ⟨.inl hk, fun e => by have := Kd.N_base N1.out k e.symm; have := HSZ.out; omega⟩) (fun k hk => .inr (by have := HVS.out; have := B7.out.size; omega)) B7.out (by have := HVS.out; have := B7.out.size; omega) P4.out ?_; intro v2 w8 hN2 hB2 hg2 hat2; have N2 := Aside0.mk (show Kd.N k24 24 w8 W4.heap.size (fun k => k < w.heap.size ∨ W4.heap.size ≤ k) v2 (turnT T kk).f2 from hN2); obtain ⟨A8, c8, rfl⟩ := Kd.N_slice N2.out; have B8 := Aside0.mk hB2; have K8 := Aside0.mk ((hB2.block bD (by have := HSZ.out; omega)).trans KDV.out); have hf2 := blk_frozen K8.out 2; have s2 := (blk_cell K8.out 2).trans rfl; clear hN2 hB2 hg2 hat2))
            all_goals
              clear q2 q2V r2 s2 hf2
              have hs7 := HSZ.out
              have hfar : ∀ k, (k < w.heap.size ∨ W4.heap.size ≤ k) → k ≠ bD := fun k hk => by omega
              have KF := Aside0.mk (blk_set K8.out 2 (Value.slice A8 (turnT T kk).f2.length c8))
              have hV := Kd.N_V (base' := 0) (Kd.N_far N2.out (p := ⟨bD, 2, none⟩) hfar (Value.slice A8 (turnT T kk).f2.length c8))
              obtain ⟨_, hl, hC⟩ := Kd.V_reads' hV
              have HRD := Aside0.mk (RdG.mk (T := turnT T kk) hl hC)
              have F5 := Kd.F_step FW.out (W1 := w8.setCell ⟨bD, 2, none⟩ (Value.slice A8 (turnT T kk).f2.length c8)) (fun k hk _ => (Below.heap_setCell w8 ⟨bD, 2, none⟩ _ k (by have : k < bD := hk; show k ≠ bD; omega)).trans ((B8.out.block k (by have : k < bD := hk; omega)).trans (HVW.out k hk)))
              have KV9 := Aside0.mk ((Below.heap_setCell w8 ⟨bD, 2, none⟩ (Value.slice A8 (turnT T kk).f2.length c8) w.heap.size (show w.heap.size ≠ bD by omega)).trans ((B8.out.block w.heap.size (by omega)).trans KV.out))
              have C9 := Aside0.mk (Kd.F_now F5)
              have B9 := Aside0.mk (below_set (g := bD) (j := 2) (v := Value.slice A8 (turnT T kk).f2.length c8) (Below.trans BV.out ⟨B8.out.os, B8.out.tape, B8.out.output, B8.out.size, fun k hk => B8.out.block k (by omega)⟩) (by omega))
              clear hV hl hC F5 hfar hs7
              have q0 := (blk_cell KF.out 0).trans rfl
              have q1 := (blk_cell KF.out 1).trans rfl
              have q2 := (blk_cell KF.out 2).trans rfl
              have HAT := Aside0.mk (ans_turn HT.out.1 HT.out.2.1 HT.out.2.2 a kk)
              rw [HHA.out] at HAT
              go_wp2_with fail
              refine (Holds_calls (turnT T kk) (peopleP a) A8 c8 A5 c5 _ HRD.out C9.out).mono ?_
              rintro e w9 ⟨rfl, hb9⟩
              rw [HAT.out]
              have B10 := Aside0.mk (below_call B9.out hb9)
              clear q0 q1 q2
              have KE := Aside0.mk (blk_below KV9.out hb9)
              have q0 := (blk_cell KE.out 0).trans rfl
              have q1 := (blk_cell KE.out 1).trans rfl
              have q2 := (blk_cell KE.out 2).trans rfl
              clear hb9
              go_wp2_with fail
              go_ret
              exact ⟨by rw [HN.out]; simp, B10.out⟩
end Go.Proofs.Ytipdpfnjobfbpaa.H
