/- signatorylaw22.sane: the chapter's examples, once for all worlds. -/
import Derived.Test.YtipdpfnjobfbpaaHSane0
import Derived.Deep.RegionLaw
namespace Go.Proofs.Ytipdpfnjobfbpaa.H
open Go.RowKit Go.Shelf Go.Maps Go.Proofs.YtipdpfnjobfbpaaW.PrintWords Go.Proofs.YtipdpfnjobfbpaaW.PrintLast Go.Proofs.YtipdpfnjobfbpaaW.PrintMore Go.Proofs.Ytipdpfnjobfbpaa.P
set_option linter.unusedVariables false
set_option linter.unusedSimpArgs false

set_option maxRecDepth 100000 in
set_option maxHeartbeats 8000000 in
theorem sane22_calls (w : World) : Calls Try.prog 19 #[] w fun e w' => e = .returned (.bool true) ∧ Below w.heap.size w w' := by
  have hu24 := Try.underlying24
  go_enter Try.func19, Try.ntmps19
  go_wp2_with fail
  refine (one_calls 1 w).mono ?_
  rintro e w1 ⟨rfl, hb1⟩
  have B1 := Aside0.mk hb1
  clear hb1
  go_wp2_with fail
  refine (one_calls 1 w1).mono ?_
  rintro e w2 ⟨rfl, hb1⟩
  have B2 := Aside0.mk (below_call B1.out hb1)
  clear hb1
  go_wp2_with fail
  refine (one_calls 2 w2).mono ?_
  rintro e w3 ⟨rfl, hb1⟩
  have B3 := Aside0.mk (below_call B2.out hb1)
  clear hb1
  go_wp2_with fail
  refine (of_calls 2 _ _ _ _).mono ?_
  rintro e w4 ⟨rfl, hb1⟩
  have KT := Aside0.mk (blk_below (blk_new _ _) hb1)
  have B4 := Aside0.mk (below_call (below_alloc B3.out _) hb1)
  clear hb1
  obtain ⟨bT, hbT⟩ : ∃ bT, w3.heap.size = bT := ⟨_, rfl⟩
  rw [hbT] at KT ⊢
  clear hbT
  go_wp2_with fail
  -- one(1)
  refine (one_calls 1 _).mono ?_
  rintro e w5 ⟨rfl, hb1⟩
  have KT := Aside0.mk (blk_below (blk_alloc KT.out _) hb1)
  have K1 := Aside0.mk (blk_below (blk_new _ _) hb1)
  have B5 := Aside0.mk (below_call (below_alloc B4.out _) hb1)
  clear hb1
  obtain ⟨b1, hb1⟩ : ∃ b1, w4.heap.size = b1 := ⟨_, rfl⟩
  rw [hb1] at K1 ⊢
  clear hb1
  go_wp2_with fail
  refine (Holds_calls (leafS 1) [2, 1] none 0 _ 2 _ ((leaf_Rd _ 1)) (ints2 (blk_new _ _))).mono ?_
  rintro e w6 ⟨rfl, hb1⟩
  have KT := Aside0.mk (blk_below (blk_alloc KT.out _) hb1)
  have K1 := Aside0.mk (blk_below (blk_alloc K1.out _) hb1)
  have B6 := Aside0.mk (below_call (below_alloc B5.out _) hb1)
  clear hb1
  rw [ans_one]
  go_wp2_with fail
  refine (check_calls (leafS 0) none 0 _ (leaf_Rd _ 0)).mono ?_
  rintro e w7 ⟨rfl, hb1⟩
  have KT := Aside0.mk (blk_below KT.out hb1)
  have K1 := Aside0.mk (blk_below K1.out hb1)
  have B7 := Aside0.mk (below_call B6.out hb1)
  clear hb1
  rw [check_leafS (by omega) (by omega)]
  go_wp2_with fail
  refine (of_calls 0 _ _ _ _).mono ?_
  rintro e w8 ⟨rfl, hb1⟩
  have KT := Aside0.mk (blk_below KT.out hb1)
  have K1 := Aside0.mk (blk_below K1.out hb1)
  have B8 := Aside0.mk (below_call B7.out hb1)
  clear hb1
  go_wp2_with fail
  refine (check_calls ⟨-1, 0, []⟩ none 0 _ (none_Rd _ 0)).mono ?_
  rintro e w9 ⟨rfl, hb1⟩
  have KT := Aside0.mk (blk_below KT.out hb1)
  have K1 := Aside0.mk (blk_below K1.out hb1)
  have B9 := Aside0.mk (below_call B8.out hb1)
  clear hb1
  rw [check_of0]
  have q0 := (blk_cell K1.out 0).trans rfl
  have q1 := (blk_cell K1.out 1).trans rfl
  have q2 := (blk_cell K1.out 2).trans rfl
  go_wp2_with fail
  refine (check_calls twiceS (some ⟨bT, 0, none⟩) 3 _ (twice_Rd KT.out)).mono ?_
  rintro e w10 ⟨rfl, hb1⟩
  have KT := Aside0.mk (blk_below KT.out hb1)
  have K1 := Aside0.mk (blk_below K1.out hb1)
  have B10 := Aside0.mk (below_call B9.out hb1)
  clear hb1 q0 q1 q2
  rw [check_twice]
  go_wp2_with fail
  refine (one_calls 1 _).mono ?_
  rintro e w11 ⟨rfl, hb1⟩
  have KT := Aside0.mk (blk_below KT.out hb1)
  have K1 := Aside0.mk (blk_below K1.out hb1)
  have B11 := Aside0.mk (below_call B10.out hb1)
  clear hb1
  go_wp2_with fail
  obtain ⟨b4, hb4⟩ : ∃ b4, w11.heap.size = b4 := ⟨_, rfl⟩
  have K4 := blk_new w11 (Obj.cells #[Value.int IntKind.i64 1, Value.int IntKind.i64 0, Value.slice none 0 0] 24)
  rw [hb4] at K4
  have hle4 : w.heap.size ≤ b4 := by rw [← hb4]; exact B11.out.size
  have hlt4 : b1 < b4 := by have := blk_lt K1.out; omega
  have hltT : bT < b4 := by have := blk_lt KT.out; omega
  rw [hb4]
  go_loopw [35] (fun v35 wr => ∃ (k : Nat) (A : Option Addr) (c : Nat), k ≤ 16 ∧ v35 = .int .i64 k ∧ Aside0 (RdX b4 wr (deepS k) A c) ∧
      Aside0 (wr.heap[b4]? = some (.cells #[.int .i64 (deepS k).f0, .int .i64 (deepS k).f1, .slice A (deepS k).f2.length c] 24 (0, 0))) ∧ Aside0 (Below w.heap.size w wr) ∧
      Aside0 (wr.heap[bT]? = some (.cells #[.int .i64 1, .int .i64 0, .slice none 0 0, .int .i64 1, .int .i64 0, .slice none 0 0, .int .i64 2, .int .i64 0, .slice none 0 0] 24 (0, 0))) ∧
      Aside0 (wr.heap[b1]? = some (.cells #[.int .i64 (-1), .int .i64 2, .slice (some ⟨bT, 0, none⟩) 3 3] 24 (0, 0)))) (fun v35 _ => 16 - (intOf v35).toNat)
  case atStart => exact ⟨0, none, 0, by omega, rfl, ⟨fun W' _ => leaf_Rd W' 1⟩, ⟨K4⟩, ⟨below_alloc B11.out _⟩, ⟨blk_alloc KT.out _⟩, ⟨blk_alloc K1.out _⟩⟩
  case round =>
    obtain ⟨k, A, c, hk, rfl, HD, HB4, HBw, KT, K1⟩ := hrel
    have HK4 := Aside0.mk hb4
    clear K4 hb4
    have q0 := (blk_cell HB4.out 0).trans rfl
    have q1 := (blk_cell HB4.out 1).trans rfl
    have q2 := (blk_cell HB4.out 2).trans rfl
    by_cases hlt : k < 16
    · have hltz : (k : Int) < 16 := by omega
      go_wp2_with fail
      refine (of_calls 1 _ _ _ _).mono ?_
      rintro e w13 ⟨rfl, hb1⟩
      have HN := Aside0.mk (blk_below (blk_new _ _) hb1)
      have KT := Aside0.mk (blk_below (blk_alloc KT.out _) hb1)
      have K1 := Aside0.mk (blk_below (blk_alloc K1.out _) hb1)
      have K4 := Aside0.mk (blk_below (blk_alloc HB4.out _) hb1)
      have HD2 := Aside0.mk (HD.out.move (by have := hb1.size; simp at this; omega) (fun k' _ hk' => (hb1.block k' (by simp; omega)).trans (Below.heap_alloc wr _ k' hk')))
      have hsz := hb1.size
      rw [World.size_alloc] at hsz
      have B13 := Aside0.mk (below_call (below_alloc HBw.out _) hb1)
      clear hb1 q0 q1 q2
      have p0 := (blk_cell K4.out 0).trans rfl
      have p1 := (blk_cell K4.out 1).trans rfl
      have p2 := (blk_cell K4.out 2).trans rfl
      have f0 := blk_frozen K4.out 0
      have f1 := blk_frozen K4.out 1
      have f2 := blk_frozen K4.out 2
      have hlt5 := blk_lt HB4.out
      go_wp2_with fail
      go_roundw
      case rel =>
        refine ⟨k + 1, some ⟨wr.heap.size, 0, none⟩, 1, by omega, by go_num, ⟨?_⟩, ⟨blk_set3 K4.out⟩, ⟨below_set (below_set (below_set B13.out hle4) hle4) hle4⟩, ⟨?_⟩, ⟨?_⟩⟩
        · refine RdX.single (t := 24) 1 (HD2.out.move (by rw [size_set, size_set, size_set]; omega) (fun k' hk' _ => far_set3 _ _ _ _ _ k' hk')) (g := wr.heap.size) (by omega) ?_
          rw [far_set3 _ _ _ _ _ _ (by omega)]
          exact HN.out
        · rw [far_set3 _ _ _ _ _ _ (by omega)]; exact KT.out
        · rw [far_set3 _ _ _ _ _ _ (by omega)]; exact K1.out
      case measure => simp [intOf]; omega
    · have hltz : ¬ (k : Int) < 16 := by omega
      have : k = 16 := by omega
      subst this
      clear q0 q1 q2 hltz hlt
      go_wp2_with fail
      refine (of_calls 1 _ _ _ _).mono ?_
      rintro e w14 ⟨rfl, hb1⟩
      have KT := Aside0.mk (blk_below KT.out hb1)
      have K1 := Aside0.mk (blk_below K1.out hb1)
      have K4 := Aside0.mk (blk_below HB4.out hb1)
      have HD := Aside0.mk ((HD.out.move (Nat.le_refl _) (fun _ _ _ => rfl)) _ (fun k' _ hk' => hb1.block k' hk'))
      have B14 := Aside0.mk (below_call HBw.out hb1)
      clear hb1 HB4 HBw
      go_wp2_with fail
      obtain ⟨b5, hb5⟩ : ∃ b5, w14.heap.size = b5 := ⟨_, rfl⟩
      have K5 := blk_new w14 (Obj.cells #[Value.int IntKind.i64 (-1), Value.int IntKind.i64 1, Value.slice none 0 0] 24)
      rw [hb5] at K5
      have hle5 : w.heap.size ≤ b5 := by rw [← hb5]; exact B14.out.size
      have hlt5 : b4 < b5 := by have := blk_lt K4.out; omega
      rw [hb5]
      have HK5 := Aside0.mk hb5
      have HX := Aside0.mk HK4.out
      clear hb5 HK4
      go_loopw [42] (fun v42 wr => ∃ (k : Nat) (v : Value), k ≤ 257 ∧ v42 = .int .i64 k ∧ Aside0 (Below b5 w14 wr) ∧ b5 < wr.heap.size ∧
          Aside0 (wr.heap[b5]? = some (.cells #[.int .i64 (-1), .int .i64 1, v] 24 (0, 0))) ∧ Aside0 (wr.ownsRow (b5 + 1) 24 3 v k (leafCells k))) (fun v42 _ => 257 - (intOf v42).toNat)
      case atStart => exact ⟨0, .slice none 0 0, by omega, rfl, ⟨by have := below_alloc (Below.refl w14.heap.size w14) (Obj.cells #[Value.int IntKind.i64 (-1), Value.int IntKind.i64 1, Value.slice none 0 0] 24); rw [HK5.out] at this; exact this⟩, blk_lt K5, ⟨K5⟩, ⟨own_nil _ _ _ _⟩⟩
      case round =>
        clear K5
        obtain ⟨k, v, hk, rfl, HBw, hszd, K5, HO⟩ := hrel
        by_cases hlt : k < 257
        · have hltz : (k : Int) < 257 := by omega
          have q2 : wr.drew.cell? ⟨b5, 2, none⟩ = some v := (blk_cell K5.out 2).trans rfl
          go_wp2_with fail
          have HOd := Aside0.mk (show wr.drew.ownsRow (b5 + 1) 24 3 v k (leafCells k) from HO.out)
          have hb5d : b5 < wr.drew.heap.size := hszd
          go_region_law (first
            | (go_simp; go_at_call 62; refine (one_calls 3 _).mono ?_; rintro e w15 ⟨rfl, hb1⟩; have q3 := pw_cell_below hb1 q2; have q4 := fun o => pw_cell_below (below_alloc (Below.refl w15.heap.size w15) o) q3; have H15 := Aside0.mk hb1; have HO15 := Aside0.mk (pw_own_below HOd.out hb1); have hs15 := hb1.size; clear hb1)
            | (refine step_append_cells (w0 := _) (b5 + 1) (by simp [Region.wanted]) _ _ 22 24 _ 3 40 rfl Try.underlying22 info24 rfl (by omega) (by omega) v k (leafCells k) [.int .i64 3, .int .i64 0, .slice none 0 0] rfl rfl rfl (by simp [Value.oneCell']) HO15.out (Below.refl _ _) (by omega) (by omega) ?_; intro v1 w1 hown hB1 hg1 hat1; obtain ⟨g1, cap1, rfl, hgb1, hgl1⟩ := hown.form (by omega); have hK := blk_grown (blk_below (show wr.drew.heap[b5]? = some (.cells #[.int .i64 (-1), .int .i64 1, v] 24 (0, 0)) from K5.out) H15.out) hg1 (fun e => by have := own_base HO15.out b5 e.symm; omega); have qK := Aside0.mk hK; have fK := blk_frozen hK 2; have cK := (blk_cell hK 2).trans rfl; have hown' := Aside0.mk hown; have hg' := Aside0.mk hg1; have hat' := Aside0.mk hat1; have hgrown_size := Aside0.mk hg1.size; clear hK hown hB1 hg1 hat1))
          all_goals
            have hsa := hgrown_size.out
            clear q2 q3 q4 fK cK
            go_wp2_with fail
            go_roundw
            case rel =>
              refine ⟨k + 1, .slice (some ⟨g1, 0, none⟩) (k + 1) cap1, by omega, by go_num, ⟨?_⟩, ?_, ⟨?_⟩, ⟨?_⟩⟩
              · have h1 : Below b5 w14 w15 := (HBw.out.trans (show Below b5 wr wr.drew from below_drew (Below.refl _ _))).trans (H15.out.mono (by omega))
                have h2 : Below b5 w14 w1 := h1.grown hg'.out (by omega) (fun r e => by have := own_base HO15.out r e; omega)
                exact h2.setCell (p := ⟨b5, 2, none⟩) (Nat.le_refl _) _
              · rw [size_set]; omega
              · have := blk_set qK.out 2 (Value.slice (some { block := g1, off := 0 }) (k + 1) cap1); simpa using this
              · rw [leafCells_succ]
                refine own_move hown'.out (fun k' hk' => ?_)
                refine Below.heap_setCell _ ⟨b5, 2, none⟩ _ k' ?_
                have := own_base hown'.out k' hk'
                show k' ≠ b5
                omega
            case measure => simp [intOf]; omega
        · have hltz : ¬ (k : Int) < 257 := by omega
          have : k = 257 := by omega
          subst this
          clear hltz hlt
          obtain ⟨AW, cW, rfl, hRW⟩ := wide_Rd HO.out (by omega) (by omega)
          have HRW := Aside0.mk hRW
          rw [← HK5.out] at HBw
          have HD := Aside0.mk (HD.out.below HBw.out)
          have K4 := Aside0.mk (blk_below K4.out HBw.out)
          have KT := Aside0.mk (blk_below KT.out HBw.out)
          have K1 := Aside0.mk (blk_below K1.out HBw.out)
          have B15 := Aside0.mk (below_call B14.out HBw.out)
          clear hRW HO HBw
          have q0 := (blk_cell K4.out 0).trans rfl
          have q1 := (blk_cell K4.out 1).trans rfl
          have q2 := (blk_cell K4.out 2).trans rfl
          go_wp2_with fail
          refine (check_calls (deepS 16) A c _ HD.out).mono ?_
          rintro e w16 ⟨rfl, hb1⟩
          have HD := Aside0.mk (HD.out.below hb1)
          have HRW := Aside0.mk (HRW.out.below hb1)
          have K4 := Aside0.mk (blk_below K4.out hb1)
          have K5 := Aside0.mk (blk_below K5.out hb1)
          have KT := Aside0.mk (blk_below KT.out hb1)
          have K1 := Aside0.mk (blk_below K1.out hb1)
          have B16 := Aside0.mk (below_call B15.out hb1)
          clear hb1 q0 q1 q2
          rw [check_deep16]
          have q2 := (blk_cell K4.out 2).trans rfl
          obtain ⟨ad, A3, c3, rfl, l0, l1, l2, hR15⟩ := at_gate HD.out.C (Below.refl _ _) 0 (by decide)
          have hd15 : (deepS 16).f2.getD 0 z24 = deepS 15 := rfl
          rw [hd15] at l0 l1 l2 hR15
          have ha0 : ad.add (0 * 3) = ad := by unfold Addr.add; simp
          rw [ha0] at l0 l1 l2
          have HR15 := Aside0.mk hR15
          clear hR15 hd15 ha0
          have e15 := check_deep15
          have E15 := Aside0.mk e15
          clear e15
          generalize deepS 15 = x15 at l0 l1 l2 HR15 E15
          go_wp2_with fail
          refine (check_calls x15 A3 c3 _ HR15.out).mono ?_
          rintro e w17 ⟨rfl, hb1⟩
          have HRW := Aside0.mk (HRW.out.below hb1)
          have K5 := Aside0.mk (blk_below K5.out hb1)
          have KT := Aside0.mk (blk_below KT.out hb1)
          have K1 := Aside0.mk (blk_below K1.out hb1)
          have B17 := Aside0.mk (below_call B16.out hb1)
          clear hb1 q2 l0 l1 l2
          rw [E15.out]
          have q0 := (blk_cell K5.out 0).trans rfl
          have q1 := (blk_cell K5.out 1).trans rfl
          have q2 := (blk_cell K5.out 2).trans rfl
          go_wp2_with fail
          refine (check_calls (wideS 257) AW cW _ HRW.out).mono ?_
          rintro e w18 ⟨rfl, hb1⟩
          have KT := Aside0.mk (blk_below KT.out hb1)
          have K1 := Aside0.mk (blk_below K1.out hb1)
          have B18 := Aside0.mk (below_call B17.out hb1)
          clear hb1 q0 q1 q2
          rw [check_wide]
          have q0 := (blk_cell K1.out 0).trans rfl
          have q1 := (blk_cell K1.out 1).trans rfl
          have q2 := (blk_cell K1.out 2).trans rfl
          go_wp2_with fail
          refine (holds63 twiceS [1] true (some ⟨bT, 0, none⟩) 3 _ 1 _ ((twice_Rd KT.out).below (below_alloc (Below.refl _ _) _)) (ints1 (blk_new _ _)) (by decide) ans_twice1).mono ?_
          rintro e w19 ⟨rfl, hb1⟩
          have KT := Aside0.mk (blk_below (blk_alloc KT.out _) hb1)
          have K1 := Aside0.mk (blk_below (blk_alloc K1.out _) hb1)
          have B19 := Aside0.mk (below_call (below_alloc B18.out _) hb1)
          clear hb1 q0 q1 q2
          have q0 := (blk_cell K1.out 0).trans rfl
          have q1 := (blk_cell K1.out 1).trans rfl
          have q2 := (blk_cell K1.out 2).trans rfl
          go_wp2_with fail
          refine (holds63 twiceS [2] false (some ⟨bT, 0, none⟩) 3 _ 1 _ ((twice_Rd KT.out).below (below_alloc (Below.refl _ _) _)) (ints1 (blk_new _ _)) (by decide) ans_twice2).mono ?_
          rintro e w20 ⟨rfl, hb1⟩
          have B20 := Aside0.mk (below_call (below_alloc B19.out _) hb1)
          clear hb1 q0 q1 q2
          go_wp2_with fail
          refine (of_calls 1 _ _ _ _).mono ?_
          rintro e w21 ⟨rfl, hb1⟩
          have B21 := Aside0.mk (below_call B20.out hb1)
          clear hb1
          go_wp2_with fail
          refine (holds63 ⟨-1, 1, []⟩ [0, 1, 2] false none 0 _ 3 _ (none_Rd _ 1) (ints3 (blk_new _ _)) (by decide) ans_none).mono ?_
          rintro e w22 ⟨rfl, hb1⟩
          have B22 := Aside0.mk (below_call (below_alloc B21.out _) hb1)
          clear hb1
          go_wp2_with fail
          refine (one_calls 5 _).mono ?_
          rintro e w23 ⟨rfl, hb1⟩
          have B23 := Aside0.mk (below_call B22.out hb1)
          clear hb1
          go_wp2_with fail
          refine (holds63 (leafS 5) [4, 5] true none 0 _ 2 _ (leaf_Rd _ 5) (ints2 (blk_new _ _)) (by decide) ans_five).mono ?_
          rintro e w24 ⟨rfl, hb1⟩
          have B24 := Aside0.mk (below_call (below_alloc B23.out _) hb1)
          clear hb1
          go_wp2_with fail
          go_ret
          exact ⟨rfl, B24.out⟩
end Go.Proofs.Ytipdpfnjobfbpaa.H
