/- LRank, LTurn, LComb, LSepP, LSep, LForm, merged. -/
import Derived.Test.YtipdpfnjobfbpaaMCheck
import Derived.Test.YtipdpfnjobfbpaaMReduce
import Derived.DefersIn
import Derived.Test.YtipdpfnjobfbpaaMPrt
import Derived.Test.YtipdpfnjobfbpaaMLin
import Derived.Test.YtipdpfnjobfbpaaMBase
/- linear.Check and linear.Rank. -/
namespace Go.Proofs.Ytipdpfnjobfbpaa.H
open Go.RowKit Go.Shelf Go.Proofs.YtipdpfnjobfbpaaW.PrintWords Go.Proofs.YtipdpfnjobfbpaaW.PrintLast Go.Proofs.YtipdpfnjobfbpaaW.PrintMore Go.Proofs.Ytipdpfnjobfbpaa.P SG.Lin
set_option linter.unusedVariables false
set_option linter.unusedSimpArgs false

set_option maxRecDepth 100000 in
set_option maxHeartbeats 4000000 in
theorem Check_calls (A : Option Addr) (c : Nat) (zs : List (List Int)) (w : World) (hC : Kd.C kRows w A zs.length zs) (hc : zs.length ≤ c) :
    Calls Try.prog 30 #[.slice A zs.length c] w fun e w' => e = .returned (.int .i64 (checkP zs)) ∧ Below w.heap.size w w' := by
  have HC := Aside0.mk hC
  clear hC
  obtain ⟨r, hr⟩ : ∃ r, checkP zs = r := ⟨_, rfl⟩
  rw [hr]
  unfold checkP at hr
  by_cases h64 : 64 < zs.length
  · rw [if_pos h64] at hr
    have hd : decide ((zs.length : Int) ≤ 64) = false := by rw [decide_eq_false_iff_not]; omega
    subst hr
    clear h64
    go_enter_defers Try.func30, Try.ntmps30
    go_wp2_with fail
    refine (need_no 2 _).mono ?_
    rintro e w' ⟨rfl, rfl⟩
    refine leaves_cons (f := 72) (args := #[.pointer (some ⟨w.heap.size, 0, none⟩)]) (by simp) (by simp [go_sem]) ?_
    refine (caught_panicking ⟨w.heap.size, 0, none⟩ 2 0 _ ?_ ?_).mono ?_
    · simp [go_sem]
    · simp [go_sem]
    rintro e u' w'' ⟨⟨v, rfl⟩, rfl, rfl⟩
    simp [Leaves, settle, results, Try.results30, go_sem]
    exact below_alloc (Below.refl _ _) _
  · rw [if_neg h64] at hr
    have hd : decide ((zs.length : Int) ≤ 64) = true := by rw [decide_eq_true_eq]; omega
    have HRR := Aside0.mk hr
    clear h64 hr
    go_enter_defers Try.func30, Try.ntmps30
    go_wp2_with fail
    refine (need_ok 2 _).mono ?_
    rintro e w' ⟨⟨v, rfl⟩, rfl⟩
    go_wp2_with fail
    have hbox := blk_new w (Obj.cells #[Value.int IntKind.i64 0] 28)
    refine (check74_calls A c zs _ (Kd.C_below HC.out (below_alloc (Below.refl _ _) _)) hc).mono ?_
    rintro e w2 ⟨h1, h2, hb2⟩
    have hbox2 := blk_below hbox hb2
    have HB2 := Aside0.mk (below_call (below_alloc (Below.refl w.heap.size w) (Obj.cells #[Value.int IntKind.i64 0] 28)) hb2)
    have hsz : w.heap.size < w2.heap.size := blk_lt hbox2
    by_cases hz : chk zs = 0
    · obtain ⟨v2, rfl⟩ := h1 hz
      have HZ := Aside0.mk (HRR.out.symm.trans hz)
      have hc2 := (blk_cell hbox2 0).trans rfl
      have hf2 := blk_frozen hbox2 0
      have hbs := blk_set hbox2 0 (.int .i64 0)
      have hc3 := (blk_cell hbs 0).trans rfl
      clear h1 h2 hb2 hz hbox hbox2 hbs
      go_wp2_with fail
      refine leaves_cons (f := 72) (args := #[.pointer (some ⟨w.heap.size, 0, none⟩)]) (by simp) (by simp [go_sem]) ?_
      refine (caught_idle ⟨w.heap.size, 0, none⟩ _).mono ?_
      rintro e u' w'' ⟨⟨v3, rfl⟩, rfl, rfl⟩
      simp [Leaves, settle, results, Try.results30, go_sem, hc3]
      exact ⟨HZ.out.symm, HB2.out.setCell (p := ⟨w.heap.size, 0, none⟩) (Nat.le_refl _) _⟩
    · have he2 := h2 hz
      subst he2
      rw [HRR.out]
      refine leaves_cons (f := 72) (args := #[.pointer (some ⟨w.heap.size, 0, none⟩)]) (by simp) (by simp [go_sem]) ?_
      refine (caught_panicking ⟨w.heap.size, 0, none⟩ r 0 _ ((blk_cell hbox2 0).trans rfl) (blk_frozen hbox2 0)).mono ?_
      rintro e u' w'' ⟨⟨v3, rfl⟩, rfl, rfl⟩
      have hc3 := (blk_cell (blk_set hbox2 0 (.int .i64 r)) 0).trans rfl
      simp [Leaves, settle, results, Try.results30, go_sem, hc3]
      exact HB2.out.setCell (p := ⟨w.heap.size, 0, none⟩) (Nat.le_refl _) _

/-- copyOf, of whatever rows: how long what it returns is. -/
def LenOut (w : World) (n : Nat) (e : Ending) (w' : World) : Prop := ∃ A cap, e = .returned (.slice A n cap) ∧ Below w.heap.size w w'
set_option maxRecDepth 100000 in
set_option maxHeartbeats 4000000 in
theorem copy_nil (A : Option Addr) (c : Nat) (w : World) : Calls Try.prog 69 #[.slice A 0 c] w (LenOut w 0) := by
  go_enter Try.func69, Try.ntmps69
  go_wp2_with ((with_reducible refine gate_dst (N := 8) rfl ?_); refine Kd.S_make kRows (w0 := w) w.heap.size 31 rfl (N := 8) rfl 80 _ _ rfl (0 : Int) rfl rfl Try.underlying80 (.slice none 0 0) 24 info31 rfl (by decide) (by omega) [] (ok := fun _ => True) (okp := fun _ => True) ⟨_, rfl, Kd.R_nil _ _ _ _ _⟩ (fun _ hk => hk) trivial (by omega) (by omega) (Below.refl _ _) (Nat.le_refl _) ?_; intro v1 w1 ho hb hg_ hnew_; have HO := Aside0.mk ho; have HB := Aside0.mk hb; clear ho hb hg_ hnew_; obtain ⟨A1, cap, e1⟩ := Kd.S_slice HO.out; have e2 : v1 = .slice A1 0 cap := e1; subst e2; clear e1 HO)
  go_loop [11] (fun v11 => v11 = .int .i64 0) (fun _ => 0)
  case atStart => rfl
  case round =>
    subst hrel
    go_wp2_with fail
    go_ret
    exact ⟨_, _, rfl, HB.out⟩
set_option maxRecDepth 100000 in
set_option maxHeartbeats 4000000 in
theorem copy_empty (A : Option Addr) (c : Nat) (zs : List (List Int)) (w : World) (hC : Kd.C kRows w A zs.length zs) (hc : zs.length ≤ c) (hN0 : 0 < zs.length) (hN : zs.length ≤ 1000) (hw : ∀ x, x ∈ zs → x.length = 0) :
    Calls Try.prog 69 #[.slice A zs.length c] w (LenOut w zs.length) := by
  have L0 := Aside0.mk (fun (W : World) (hW : Below w.heap.size w W) => at_row hC hW)
  have HW := Aside0.mk (fun i (hi : i < zs.length) => hw _ (getD_mem (d := []) hi))
  clear hC hw
  go_enter Try.func69, Try.ntmps69
  go_wp2_with ((with_reducible refine gate_dst (N := 8) rfl ?_); refine Kd.S_make kRows (w0 := w) w.heap.size 31 rfl (N := 8) rfl 80 _ _ rfl (zs.length : Int) rfl rfl Try.underlying80 (.slice none 0 0) 24 info31 rfl (by decide) (by omega) [] (ok := fun _ => True) (okp := fun _ => True) ⟨_, rfl, Kd.R_nil _ _ _ _ _⟩ (fun _ hk => hk) trivial (by omega) (by omega) (Below.refl _ _) (Nat.le_refl _) ?_; intro v1 w1 ho hb hg_ hnew_; have HO := Aside0.mk ho; have HB := Aside0.mk hb; clear ho hb hg_ hnew_; obtain ⟨inner, hown⟩ := Kd.S_own HO.out; rw [List.length_replicate, Int.toNat_natCast] at hown; obtain ⟨tb, cap, hs, ev, htb, hhs, hsz⟩ := own_parts hown hN0; subst ev; have HHS := Aside0.mk (show ∃ hs, w1.heap[tb]? = some (.cells hs 31 (0, 0)) ∧ zs.length ≤ hs.size from ⟨_, hhs, hsz⟩); have HTB := Aside0.mk htb; clear hown hhs hsz htb)
  clear HO
  go_loopw [11] (fun v11 wr => ∃ k : Nat, k ≤ zs.length ∧ v11 = .int .i64 k ∧ Aside0 (∃ hs, wr.heap[tb]? = some (.cells hs 31 (0, 0)) ∧ zs.length ≤ hs.size) ∧ Aside0 (Below w.heap.size w wr)) (fun v11 _ => zs.length - (intOf v11).toNat)
  case atStart => exact ⟨0, Nat.zero_le _, rfl, HHS, HB⟩
  case round =>
    clear HB HHS
    obtain ⟨k, hk, rfl, HO, HB⟩ := hrel
    by_cases hlt : k < zs.length
    · have hltz : (k : Int) < (zs.length : Int) := by omega
      obtain ⟨ad, A2, c2, rfl, l0, hle, hC2⟩ := L0.out wr HB.out k hlt
      obtain ⟨hs1, hh1, hsz⟩ := HO.out
      have hkh : k < hs1.size := by omega
      obtain ⟨u, hu⟩ : ∃ u, hs1[k]? = some u := ⟨_, Array.getElem?_eq_getElem hkh⟩
      have HU := Aside0.mk hu
      have HXL := Aside0.mk (HW.out k hlt)
      have HH1 := Aside0.mk hh1
      have HSZ := Aside0.mk hsz
      generalize zs.getD k [] = x at l0 hle hC2 HXL
      have HC2 := Aside0.mk hC2
      have HLE := Aside0.mk hle
      clear hC2 hle hh1 hsz hu hkh
      go_wp2_with fail
      refine (slices_Clone_int_int.calls A2 c2 x x _ HC2.out HLE.out (by unfold slices_Clone_int_int.f; rw [if_pos (by have := HXL.out; omega)])).mono ?_
      rintro e w2 ⟨v2, rfl, hR2, hb2⟩
      obtain ⟨A3, c3, e3⟩ := Kd.R_slice hR2
      subst e3
      have HB2 := Aside0.mk hb2
      have hh2 := blk_below HH1.out hb2
      have hcell := (blk_cell hh2 k).trans HU.out
      have hfz := blk_frozen hh2 k
      have HH2 := Aside0.mk hh2
      clear hR2 hb2 hh2
      go_wp2_with fail
      go_roundw
      case rel => exact ⟨k + 1, by omega, by go_num, ⟨⟨_, blk_set HH2.out k _, by rw [Array.size_setIfInBounds]; exact HSZ.out⟩⟩, ⟨below_set (below_call HB.out HB2.out) HTB.out⟩⟩
      case measure => simp [intOf]; omega
    · have hltz : ¬ (k : Int) < (zs.length : Int) := by omega
      clear hk hlt
      go_wp2_with fail
      go_ret
      exact ⟨_, _, rfl, HB.out⟩
set_option maxRecDepth 100000 in
set_option maxHeartbeats 4000000 in
theorem reduce0_calls (A : Option Addr) (n c : Nat) (w : World) : Calls Try.prog 70 #[.slice A n c, .int .i64 0] w fun e w' => e = .returned (.slice none 0 0) ∧ Below w.heap.size w w' := by
  go_enter Try.func70, Try.ntmps70
  go_wp2_with fail
  go_loop [4, 14] (fun v4 v14 => v4 = .slice none 0 0 ∧ v14 = .int .i64 0) (fun _ _ => 0)
  case atStart => exact ⟨rfl, rfl⟩
  case round =>
    obtain ⟨rfl, rfl⟩ := hrel
    go_wp2_with fail
    go_ret
    exact ⟨rfl, below_alloc (Below.refl _ _) _⟩
set_option maxRecDepth 100000 in
set_option maxHeartbeats 4000000 in
theorem reduceN0_calls (A : Option Addr) (c many : Nat) (hmany : many ≤ 1000) (w : World) : Calls Try.prog 70 #[.slice A 0 c, .int .i64 many] w fun e w' => e = .returned (.slice none 0 0) ∧ Below w.heap.size w w' := by
  have HB := Aside0.mk (below_alloc (Below.refl w.heap.size w) (Obj.cells #[Value.slice A 0 c] 80))
  have HT := Aside0.mk (blk_new w (Obj.cells #[Value.slice A 0 c] 80))
  go_enter Try.func70, Try.ntmps70
  go_wp2_with fail
  go_loopw [4, 14] (fun v4 v14 wr => ∃ k : Nat, k ≤ many ∧ v14 = .int .i64 k ∧ v4 = .slice none 0 0 ∧ Aside0 (Below w.heap.size w wr) ∧ Aside0 (wr.heap[w.heap.size]? = some (.cells #[.slice A 0 c] 80 (0, 0)))) (fun _ v14 _ => many - (intOf v14).toNat)
  case atStart => exact ⟨0, Nat.zero_le _, rfl, rfl, HB, HT⟩
  case round =>
    clear HB HT
    obtain ⟨k, hk, rfl, rfl, HB, HT⟩ := hrel
    by_cases hlt : k < many
    · have hltz : (k : Int) < (many : Int) := by omega
      have q := fun o => (blk_cell (blk_alloc HT.out o) 0).trans rfl
      go_wp2_with fail
      go_loop [7] (fun v7 => v7 = .int .i64 0) (fun _ => 0)
      case atStart => rfl
      case round =>
        subst hrel
        go_wp2_with fail
        go_roundw
        case rel => exact ⟨k + 1, by omega, by go_num, rfl, ⟨below_alloc HB.out _⟩, ⟨blk_alloc HT.out _⟩⟩
        case measure => simp [intOf]; omega
    · have hltz : ¬ (k : Int) < (many : Int) := by omega
      go_wp2_with fail
      go_ret
      exact ⟨rfl, HB.out⟩

/-- What is right is a table of the field. -/
theorem good_of_chk {zs : List (List Int)} (h : chk zs = 0) : (∀ x, x ∈ zs → x.length ≤ 64) ∧ SG.Lin.Good zs zs.length (zs.getD 0 []).length := by
  unfold chk at h
  by_cases h1 : zs.any longR = true
  · rw [if_pos h1] at h; exact absurd h (by decide)
  · rw [if_neg h1] at h
    by_cases h2 : zs.any (oddR (zs.getD 0 []).length) = true
    · rw [if_pos h2] at h; exact absurd h (by decide)
    · have h1' : zs.any longR = false := by simpa using h1
      have h2' : zs.any (oddR (zs.getD 0 []).length) = false := by simpa using h2
      rw [List.any_eq_false] at h1' h2'
      refine ⟨fun x hx => ?_, ⟨rfl, fun x hx => ?_, fun x hx a ha => ?_⟩⟩
      · have := h1' x hx
        unfold longR at this
        rw [decide_eq_true_eq] at this; omega
      · have := h2' x hx
        unfold oddR at this
        rw [Bool.or_eq_true, not_or] at this
        have h3 := this.1
        rw [bne_iff_ne, ne_eq, Classical.not_not] at h3
        exact h3
      · have := h2' x hx
        unfold oddR at this
        rw [Bool.or_eq_true, not_or] at this
        have h4 : x.any oddQ = false := by simpa using this.2
        rw [List.any_eq_false] at h4
        have h5 := h4 a ha
        unfold oddQ at h5
        rw [Bool.or_eq_true, decide_eq_true_eq, decide_eq_true_eq, not_or] at h5
        exact ⟨by omega, by omega⟩
def rankAns (zs : List (List Int)) : Int × Int := if checkP zs ≠ 0 then (0, checkP zs) else (((rankP zs : Nat) : Int), 0)
theorem checkP_zero {zs : List (List Int)} (h : checkP zs = 0) : zs.length ≤ 64 ∧ chk zs = 0 := by
  unfold checkP at h
  by_cases h1 : 64 < zs.length
  · rw [if_pos h1] at h; exact absurd h (by decide)
  · rw [if_neg h1] at h; exact ⟨by omega, h⟩
set_option maxRecDepth 100000 in
set_option maxHeartbeats 4000000 in
theorem Rank_calls (A : Option Addr) (c : Nat) (zs : List (List Int)) (w : World) (hC : Kd.C kRows w A zs.length zs) (hc : zs.length ≤ c) :
    Calls Try.prog 28 #[.slice A zs.length c] w fun e w' => e = .returned (.tuple #[.int .i64 (rankAns zs).1, .int .i64 (rankAns zs).2]) ∧ Below w.heap.size w w' := by
  have HC := Aside0.mk hC
  clear hC
  obtain ⟨r1, hr1⟩ : ∃ r, (rankAns zs).1 = r := ⟨_, rfl⟩
  obtain ⟨r2, hr2⟩ : ∃ r, (rankAns zs).2 = r := ⟨_, rfl⟩
  rw [hr1, hr2]
  have HCK := Aside0.mk (Check_calls A c zs w HC.out hc)
  by_cases hz : checkP zs = 0
  · obtain ⟨h64, hch⟩ := checkP_zero hz
    obtain ⟨hll, hG⟩ := good_of_chk hch
    have ea : rankAns zs = (((rankP zs : Nat) : Int), 0) := by unfold rankAns; rw [if_neg (fun h => h hz)]
    rw [ea] at hr1 hr2
    simp only at hr1 hr2
    subst hr2
    have HR1 := Aside0.mk hr1
    have HLL := Aside0.mk hll
    have HG := Aside0.mk hG
    rw [hz] at HCK
    clear hr1 hz ea hch hll hG
    by_cases hN : zs.length = 0
    · have hNz : ((zs.length : Int) == 0) = true := by rw [beq_iff_eq]; omega
      have HR0 := Aside0.mk (show r1 = 0 by rw [← HR1.out]; unfold rankP; rw [if_pos hN]; rfl)
      clear hN
      go_enter Try.func28, Try.ntmps28
      go_wp2_with fail
      refine HCK.out.mono ?_
      rintro e w' ⟨rfl, hb⟩
      have HB := Aside0.mk hb
      clear hb
      go_wp2_with fail
      go_ret2
      exact ⟨by rw [HR0.out]; rfl, HB.out⟩
    · have hNz : ((zs.length : Int) == 0) = false := by rw [beq_eq_false_iff_ne]; omega
      have hNp : 0 < zs.length := by omega
      have hNpz : (0 : Int) < (zs.length : Int) := by omega
      clear hN
      go_enter Try.func28, Try.ntmps28
      go_wp2_with fail
      refine HCK.out.mono ?_
      rintro e w1 ⟨rfl, hb⟩
      have HB := Aside0.mk hb
      clear hb
      obtain ⟨ad, A3, c3, rfl, l3, _, _⟩ := at_row HC.out HB.out 0 hNp
      have hadd : (ad.add 0) = ad := by unfold Addr.add; simp
      rw [hadd] at l3
      have HBD := Aside0.mk (World.block_lt_of_cell? _ _ l3)
      have HBW := Aside0.mk (show (ad.block < w1.heap.size) from World.block_lt_of_cell? _ _ l3)
      obtain ⟨L, hL⟩ : ∃ L, (zs.getD 0 []).length = L := ⟨_, rfl⟩
      rw [hL] at l3 HG
      have HLe := Aside0.mk hL
      have hL64 : L ≤ 64 := by rw [← hL]; exact HLL.out _ (getD_mem hNp)
      clear hL
      go_wp2_with fail
      rename_i K0 hK0
      refine wp_onlyN ?_
      refine start_ (n := 10) (S := fun w' => w'.cell? ad = some (.slice A3 L c3)) (ds := []) (Array.replicate 10 false) (by kernel_rfl) rfl rfl l3 (fun hHeld => ?_)
      have HB := Aside0.mk HB.out.drew
      by_cases hLp : 0 < L
      · have HRK := Aside0.mk (show ((gj zs L).2.length : Int) = r1 by
          rw [← HR1.out]; unfold rankP widthP; rw [if_neg (by omega), HLe.out])
        refine pure_ (i := 0) (N := some 15) (v := ?_) (a' := ?_) #[true, false, false, false, false, false, false, false, false, false] rfl rfl (by kernel_rfl) (fun _ _ _ h => h) (Or.inl ⟨by rfl, ?_⟩) ?_ ?_
        rotate_left
        · intro w'
          go_simp
          with_reducible rfl
        rotate_left
        · simp only [Act.put, List.setIfInBounds_toArray, List.set_cons_zero, List.set_cons_succ, i64_w, i32_w]
          rfl
        refine pure_ (i := 2) (N := some 17) (v := ?_) (a' := ?_) #[true, false, true, false, false, false, false, false, false, false] rfl rfl (by kernel_rfl) (fun _ _ _ h => h) (Or.inl ⟨by rfl, ?_⟩) ?_ ?_
        rotate_left
        · intro w'
          go_simp
          with_reducible rfl
        rotate_left
        · simp only [Act.put, List.setIfInBounds_toArray, List.set_cons_zero, List.set_cons_succ, i64_w, i32_w]
          rfl
        refine pure_ (i := 3) (N := some 18) (v := ?_) (a' := ?_) #[true, false, true, true, false, false, false, false, false, false] rfl rfl (by kernel_rfl) (fun _ _ _ h => h) (Or.inl ⟨by rfl, ?_⟩) ?_ ?_
        rotate_left
        · intro w'
          go_simp
          with_reducible rfl
        rotate_left
        · simp only [Act.put, List.setIfInBounds_toArray, List.set_cons_zero, List.set_cons_succ, i64_w, i32_w]
          rfl
        refine take_ (i := 4) (N := some 19) (v := ?_) (a' := ?_) #[true, false, true, true, true, false, false, false, false, false] rfl rfl (by kernel_rfl) (fun _ _ _ h => h) (Or.inl ⟨by rfl, ?_⟩) hHeld ?_ ?_
        rotate_left
        · rintro w' s0
          go_simp
          with_reducible rfl
        rotate_left
        · simp only [Act.put, List.setIfInBounds_toArray, List.set_cons_zero, List.set_cons_succ, i64_w, i32_w]
          rfl
        refine pure_ (i := 5) (N := some 20) (v := ?_) (a' := ?_) #[true, false, true, true, true, true, false, false, false, false] rfl rfl (by kernel_rfl) (fun _ _ _ h => h) (Or.inl ⟨by rfl, ?_⟩) ?_ ?_
        rotate_left
        · intro w'
          go_simp
          with_reducible rfl
        rotate_left
        · simp only [Act.put, List.setIfInBounds_toArray, List.set_cons_zero, List.set_cons_succ, i64_w, i32_w]
          rfl
        refine one_ (i := 1) (N := some 16) #[true, true, true, true, true, true, false, false, false, false] rfl rfl (by kernel_rfl) (by decide) (fun K hK => ?_)
        refine goes_ Try.func69 (by kernel_rfl) rfl #[.slice (some ad) zs.length c] (by rfl) rfl rfl (by (try simp only [List.map_toArray, List.map_cons, List.map_nil]); first | done | rfl) ?_
        with_reducible refine (copy_calls (some ad) c zs L _ (Kd.C_below HC.out HB.out) hc hNp (by omega) hLp (by omega) (fun x hx => HG.out.wide x hx)).mono ?_
        rintro e w2 ⟨tb, cap, rfl, hot, hb⟩
        refine ⟨_, rfl, ?_⟩
        have HOT := Aside0.mk hot
        have HB2 := Aside0.mk hb
        clear hot hb
        refine hK.out _ _ (pw_cell_below HB2.out hHeld) (fun hHeld => ?_)
        clear hK K
        refine norm_ (a' := ?_) ?_ ?_
        rotate_left
        · show Act.put _ (some 16) _ = _
          simp only [Act.put, List.setIfInBounds_toArray, List.set_cons_zero, List.set_cons_succ, i64_w, i32_w]
          rfl
        refine one_ (i := 6) (N := some 21) #[true, true, true, true, true, true, true, false, false, false] rfl rfl (by kernel_rfl) (by decide) (fun K hK => ?_)
        refine goes_ Try.func70 (by kernel_rfl) rfl #[.slice (some ⟨tb, 0, none⟩) zs.length cap, .int .i64 L] (by rfl) rfl rfl (by (try simp only [List.map_toArray, List.map_cons, List.map_nil]); first | done | rfl) ?_
        obtain ⟨hs1, b1, cp1, px1, hot⟩ := HOT.out
        with_reducible refine (reduce_calls _ w1.drew.heap.size tb cap zs.length L L hs1 b1 cp1 px1 zs HG.out hot HB2.out.size (Nat.le_refl _) (by omega) (by omega)).mono ?_
        rintro e w3 ⟨v3, rfl, hpv, _, hb⟩
        refine ⟨_, rfl, ?_⟩
        obtain ⟨A5, c5, e5, _, _⟩ := Kd.R_reads hpv
        rw [List.length_map] at e5
        subst e5
        have HBZ := Aside0.mk (HB.out.trans ((HB2.out.trans hb).mono HB.out.size))
        have hHeld2 := (hb.cell (p := ad) HBW.out).trans hHeld
        clear hpv hb hot
        refine hK.out _ _ hHeld2 (fun hHeld => ?_)
        clear hK K
        refine norm_ (a' := ?_) ?_ ?_
        rotate_left
        · show Act.put _ (some 21) _ = _
          simp only [Act.put, List.setIfInBounds_toArray, List.set_cons_zero, List.set_cons_succ, i64_w, i32_w]
          rfl
        refine pure_ (i := 7) (N := some 22) (v := ?_) (a' := ?_) #[true, true, true, true, true, true, true, true, false, false] rfl rfl (by kernel_rfl) (fun _ _ _ h => h) (Or.inl ⟨by rfl, ?_⟩) ?_ ?_
        rotate_left
        · intro w'
          go_simp
          with_reducible rfl
        rotate_left
        · simp only [Act.put, List.setIfInBounds_toArray, List.set_cons_zero, List.set_cons_succ, i64_w, i32_w]
          rfl
        refine pure_ (i := 8) (N := some 2) (v := ?_) (a' := ?_) #[true, true, true, true, true, true, true, true, true, false] rfl rfl (by kernel_rfl) (fun _ _ _ h => h) (Or.inl ⟨by rfl, ?_⟩) ?_ ?_
        rotate_left
        · intro w'
          go_simp
          with_reducible rfl
        rotate_left
        · simp only [Act.put, List.setIfInBounds_toArray, List.set_cons_zero, List.set_cons_succ, i64_w, i32_w]
          rfl
        refine pure_ (i := 9) (N := some 3) (v := ?_) (a' := ?_) #[true, true, true, true, true, true, true, true, true, true] rfl rfl (by kernel_rfl) (fun _ _ _ h => h) (Or.inl ⟨by rfl, ?_⟩) ?_ ?_
        rotate_left
        · intro w'
          go_simp
          with_reducible rfl
        rotate_left
        · simp only [Act.put, List.setIfInBounds_toArray, List.set_cons_zero, List.set_cons_succ, i64_w, i32_w]
          rfl
        refine done_ (by kernel_rfl) ?_
        refine hK0 _ _ ?_
        go_wp2_with fail
        go_ret2
        exact ⟨by rw [← HRK.out]; rfl, HBZ.out⟩
      · obtain rfl : L = 0 := by omega
        have HRK := Aside0.mk (show (0 : Int) = r1 by
          rw [← HR1.out]; unfold rankP widthP; rw [if_neg (by omega), HLe.out]; rfl)
        refine pure_ (i := 0) (N := some 15) (v := ?_) (a' := ?_) #[true, false, false, false, false, false, false, false, false, false] rfl rfl (by kernel_rfl) (fun _ _ _ h => h) (Or.inl ⟨by rfl, ?_⟩) ?_ ?_
        rotate_left
        · intro w'
          go_simp
          with_reducible rfl
        rotate_left
        · simp only [Act.put, List.setIfInBounds_toArray, List.set_cons_zero, List.set_cons_succ, i64_w, i32_w]
          rfl
        refine pure_ (i := 2) (N := some 17) (v := ?_) (a' := ?_) #[true, false, true, false, false, false, false, false, false, false] rfl rfl (by kernel_rfl) (fun _ _ _ h => h) (Or.inl ⟨by rfl, ?_⟩) ?_ ?_
        rotate_left
        · intro w'
          go_simp
          with_reducible rfl
        rotate_left
        · simp only [Act.put, List.setIfInBounds_toArray, List.set_cons_zero, List.set_cons_succ, i64_w, i32_w]
          rfl
        refine pure_ (i := 3) (N := some 18) (v := ?_) (a' := ?_) #[true, false, true, true, false, false, false, false, false, false] rfl rfl (by kernel_rfl) (fun _ _ _ h => h) (Or.inl ⟨by rfl, ?_⟩) ?_ ?_
        rotate_left
        · intro w'
          go_simp
          with_reducible rfl
        rotate_left
        · simp only [Act.put, List.setIfInBounds_toArray, List.set_cons_zero, List.set_cons_succ, i64_w, i32_w]
          rfl
        refine take_ (i := 4) (N := some 19) (v := ?_) (a' := ?_) #[true, false, true, true, true, false, false, false, false, false] rfl rfl (by kernel_rfl) (fun _ _ _ h => h) (Or.inl ⟨by rfl, ?_⟩) hHeld ?_ ?_
        rotate_left
        · rintro w' s0
          go_simp
          with_reducible rfl
        rotate_left
        · simp only [Act.put, List.setIfInBounds_toArray, List.set_cons_zero, List.set_cons_succ, i64_w, i32_w]
          rfl
        refine pure_ (i := 5) (N := some 20) (v := ?_) (a' := ?_) #[true, false, true, true, true, true, false, false, false, false] rfl rfl (by kernel_rfl) (fun _ _ _ h => h) (Or.inl ⟨by rfl, ?_⟩) ?_ ?_
        rotate_left
        · intro w'
          go_simp
          with_reducible rfl
        rotate_left
        · simp only [Act.put, List.setIfInBounds_toArray, List.set_cons_zero, List.set_cons_succ, i64_w, i32_w]
          rfl
        refine one_ (i := 1) (N := some 16) #[true, true, true, true, true, true, false, false, false, false] rfl rfl (by kernel_rfl) (by decide) (fun K hK => ?_)
        refine goes_ Try.func69 (by kernel_rfl) rfl #[.slice (some ad) zs.length c] (by rfl) rfl rfl (by (try simp only [List.map_toArray, List.map_cons, List.map_nil]); first | done | rfl) ?_
        with_reducible refine (copy_empty (some ad) c zs _ (Kd.C_below HC.out HB.out) hc hNp (by omega) (fun x hx => HG.out.wide x hx)).mono ?_
        rintro e w2 ⟨A4, cap, rfl, hb⟩
        refine ⟨_, rfl, ?_⟩
        have HB2 := Aside0.mk hb
        clear hb
        refine hK.out _ _ (pw_cell_below HB2.out hHeld) (fun hHeld => ?_)
        clear hK K
        refine norm_ (a' := ?_) ?_ ?_
        rotate_left
        · show Act.put _ (some 16) _ = _
          simp only [Act.put, List.setIfInBounds_toArray, List.set_cons_zero, List.set_cons_succ, i64_w, i32_w]
          rfl
        refine one_ (i := 6) (N := some 21) #[true, true, true, true, true, true, true, false, false, false] rfl rfl (by kernel_rfl) (by decide) (fun K hK => ?_)
        refine goes_ Try.func70 (by kernel_rfl) rfl #[.slice A4 zs.length cap, .int .i64 0] (by rfl) rfl rfl (by (try simp only [List.map_toArray, List.map_cons, List.map_nil]); first | done | rfl) ?_
        with_reducible refine (reduce0_calls A4 zs.length cap _).mono ?_
        rintro e w3 ⟨rfl, hb⟩
        refine ⟨_, rfl, ?_⟩
        have HBZ := Aside0.mk (below_call (below_call HB.out HB2.out) hb)
        have hHeld2 := pw_cell_below hb hHeld
        clear hb
        refine hK.out _ _ hHeld2 (fun hHeld => ?_)
        clear hK K
        refine norm_ (a' := ?_) ?_ ?_
        rotate_left
        · show Act.put _ (some 21) _ = _
          simp only [Act.put, List.setIfInBounds_toArray, List.set_cons_zero, List.set_cons_succ, i64_w, i32_w]
          rfl
        refine pure_ (i := 7) (N := some 22) (v := ?_) (a' := ?_) #[true, true, true, true, true, true, true, true, false, false] rfl rfl (by kernel_rfl) (fun _ _ _ h => h) (Or.inl ⟨by rfl, ?_⟩) ?_ ?_
        rotate_left
        · intro w'
          go_simp
          with_reducible rfl
        rotate_left
        · simp only [Act.put, List.setIfInBounds_toArray, List.set_cons_zero, List.set_cons_succ, i64_w, i32_w]
          rfl
        refine pure_ (i := 8) (N := some 2) (v := ?_) (a' := ?_) #[true, true, true, true, true, true, true, true, true, false] rfl rfl (by kernel_rfl) (fun _ _ _ h => h) (Or.inl ⟨by rfl, ?_⟩) ?_ ?_
        rotate_left
        · intro w'
          go_simp
          with_reducible rfl
        rotate_left
        · simp only [Act.put, List.setIfInBounds_toArray, List.set_cons_zero, List.set_cons_succ, i64_w, i32_w]
          rfl
        refine pure_ (i := 9) (N := some 3) (v := ?_) (a' := ?_) #[true, true, true, true, true, true, true, true, true, true] rfl rfl (by kernel_rfl) (fun _ _ _ h => h) (Or.inl ⟨by rfl, ?_⟩) ?_ ?_
        rotate_left
        · intro w'
          go_simp
          with_reducible rfl
        rotate_left
        · simp only [Act.put, List.setIfInBounds_toArray, List.set_cons_zero, List.set_cons_succ, i64_w, i32_w]
          rfl
        refine done_ (by kernel_rfl) ?_
        refine hK0 _ _ ?_
        go_wp2_with fail
        go_ret2
        exact ⟨by rw [← HRK.out]; rfl, HBZ.out⟩
  · have hzz : (checkP zs == 0) = false := by simpa using hz
    have ea : rankAns zs = (0, checkP zs) := by unfold rankAns; rw [if_pos hz]
    rw [ea] at hr1 hr2
    simp only at hr1 hr2
    subst hr1
    rw [hr2] at HCK hzz
    have hnz : (r2 != 0) = true := by rw [bne_iff_ne]; intro h; rw [h] at hzz; cases hzz
    clear hr2 ea hz
    go_enter Try.func28, Try.ntmps28
    go_wp2_with fail
    refine HCK.out.mono ?_
    rintro e w' ⟨rfl, hb⟩
    have HB := Aside0.mk hb
    clear hb
    go_wp2_with fail
    go_ret2
    exact ⟨rfl, HB.out⟩
end Go.Proofs.Ytipdpfnjobfbpaa.H


/- What the printed summary of linear.turned computes. -/
namespace Go.Proofs.Ytipdpfnjobfbpaa.H
open Go.RowKit Go.Proofs.YtipdpfnjobfbpaaW.PrintWords Go.Proofs.YtipdpfnjobfbpaaW.PrintLast Go.Proofs.YtipdpfnjobfbpaaW.PrintMore Go.Proofs.Ytipdpfnjobfbpaa.P SG.Lin
set_option linter.unusedVariables false
theorem wrap_nat {n : Nat} (h : n < 1000000) : wrap64 ((n : Int) + 1) = ((n + 1 : Nat) : Int) := by
  unfold wrap64; omega
theorem turned_inner {zs : List (List Int)} {t : List Int} {m k : Nat} (hk : k < m) (hm : m ≤ 64) (hn : zs.length ≤ 64) (hw : ∀ x, x ∈ zs → x.length = m) (a x13' : Int) (F : Nat) : ∀ (d i : Nat), i + d = zs.length → ∀ x5 : List (List Int), x5.length = m → (x5.getD k []).length = i →
    linear_turned.l1 (F + d + 1) zs x5 (k : Int) a t x13' (k : Int) zs (zs.length : Int) (i : Int) = linear_turned.l0 F zs (x5.set k (x5.getD k [] ++ (zs.drop i).map (fun x => x.getD k 0) ++ [a])) t x13' (wrap64 ((k : Int) + 1)) := by
  intro d
  induction d with
  | zero =>
    intro i hi x5 h5 hx
    have e : zs.drop i = [] := List.drop_eq_nil_of_le (by omega)
    rw [e, List.map_nil, List.append_nil]
    unfold linear_turned.l1
    rw [if_neg (by omega), if_pos (by omega), if_pos (by omega)]
    unfold rd_L2
    rw [Int.toNat_natCast, if_pos (by omega)]
  | succ d ih =>
    intro i hi x5 h5 hx
    have hin : i < zs.length := by omega
    have hwi : (zs.getD i []).length = m := hw _ (getD_mem hin)
    unfold linear_turned.l1
    unfold rd_L2 rd
    rw [Int.toNat_natCast, Int.toNat_natCast, if_pos (by omega), if_pos (by omega), if_pos (by omega), if_pos (by omega), if_pos (by omega), if_pos (by omega), if_pos (by omega), wrap_nat (by omega)]
    have hg : (x5.set k (x5.getD k [] ++ [(zs.getD i []).getD k 0])).getD k [] = x5.getD k [] ++ [(zs.getD i []).getD k 0] := by
      rw [List.getD_eq_getElem?_getD, List.getElem?_set_self (by omega)]; rfl
    rw [show F + (d + 1) = F + d + 1 from rfl, ih (i + 1) (by omega) _ (by rw [List.length_set]; exact h5) (by rw [hg, List.length_append, hx]; rfl), hg, List.set_set]
    have hd : zs.drop i = zs.getD i [] :: zs.drop (i + 1) := by
      rw [List.drop_eq_getElem_cons hin, List.getD_eq_getElem?_getD, List.getElem?_eq_getElem hin]; rfl
    rw [hd, List.map_cons, List.append_assoc (x5.getD k []), List.append_assoc (x5.getD k []), List.append_assoc (x5.getD k [])]
    rfl
theorem set_fill {A : List (List Int)} {k m : Nat} (hm : A.length = m) (hk : k < m) : (A.take k ++ List.replicate (m - k) []).set k (A.getD k []) = A.take (k + 1) ++ List.replicate (m - (k + 1)) [] := by
  obtain ⟨p, hp⟩ : ∃ p, m - k = p + 1 := ⟨m - k - 1, by omega⟩
  have hp' : m - (k + 1) = p := by omega
  have hl : (A.take k).length = k := by rw [List.length_take]; omega
  rw [hp, hp', List.set_append_right _ _ (by omega), hl, Nat.sub_self, List.replicate_succ, List.set_cons_zero, List.take_add_one, List.getD_eq_getElem?_getD, List.getElem?_eq_getElem (by omega), List.append_assoc]
  rfl
theorem turned_outer {zs : List (List Int)} {t : List Int} (hm : t.length ≤ 64) (hn : zs.length ≤ 64) (hw : ∀ x, x ∈ zs → x.length = t.length) : ∀ (d k : Nat), k + d = t.length →
    linear_turned.l0 (d * (zs.length + 2) + 1) zs ((turnedP zs t).take k ++ List.replicate (t.length - k) []) t (t.length : Int) (k : Int) = some (turnedP zs t) := by
  have hA : (turnedP zs t).length = t.length := by simp [turnedP]
  intro d
  induction d with
  | zero =>
    intro k hk
    have hk' : k = t.length := by omega
    subst hk'
    rw [Nat.zero_mul, Nat.zero_add]
    unfold linear_turned.l0
    rw [if_neg (by omega), Nat.sub_self, List.replicate_zero, List.append_nil, ← hA, List.take_length]
  | succ d ih =>
    intro k hk
    have hkt : k < t.length := by omega
    have hx : ((turnedP zs t).take k ++ List.replicate (t.length - k) []).getD k [] = [] := by
      rw [List.getD_eq_getElem?_getD, List.getElem?_append_right (by rw [List.length_take]; omega), List.length_take, List.getElem?_replicate]
      split <;> rfl
    have e : (d + 1) * (zs.length + 2) + 1 = ((d * (zs.length + 2) + 1) + zs.length + 1) + 1 := by rw [Nat.succ_mul]; omega
    rw [e]
    unfold linear_turned.l0
    unfold rd
    rw [if_pos (by omega), if_pos (by omega), if_pos (by omega), Int.toNat_natCast]
    have h := turned_inner (t := t) hkt hm hn hw (t.getD k 0) (t.length : Int) (d * (zs.length + 2) + 1) zs.length 0 (by omega) ((turnedP zs t).take k ++ List.replicate (t.length - k) []) (by rw [List.length_append, List.length_take, List.length_replicate]; omega) (by rw [hx]; rfl)
    rw [show ((0 : Nat) : Int) = 0 from rfl] at h
    rw [h, hx, List.nil_append, List.drop_zero, wrap_nat (by omega)]
    have er : zs.map (fun x => x.getD k 0) ++ [t.getD k 0] = (turnedP zs t).getD k [] := by
      unfold turnedP
      rw [List.getD_eq_getElem?_getD (l := t), List.getD_eq_getElem?_getD (l := List.mapIdx _ _), List.getElem?_mapIdx, List.getElem?_eq_getElem hkt]
      rfl
    rw [er, set_fill hA hkt]
    exact ih (k + 1) (by omega)
theorem turned_run {zs : List (List Int)} {t : List Int} (hm : t.length ≤ 64) (hn : zs.length ≤ 64) (hw : ∀ x, x ∈ zs → x.length = t.length) : linear_turned.f (t.length * (zs.length + 2) + 1) zs t = some (turnedP zs t) := by
  unfold linear_turned.f
  rw [if_pos (by omega), Int.toNat_natCast, if_pos (by omega)]
  have h := turned_outer hm hn hw t.length 0 (by omega)
  rw [List.take_zero, List.nil_append, Nat.sub_zero] at h
  exact h
end Go.Proofs.Ytipdpfnjobfbpaa.H


/- linear.Combine. -/
namespace Go.Proofs.Ytipdpfnjobfbpaa.H
open Go.RowKit Go.Shelf Go.Proofs.YtipdpfnjobfbpaaW.PrintWords Go.Proofs.YtipdpfnjobfbpaaW.PrintLast Go.Proofs.YtipdpfnjobfbpaaW.PrintMore Go.Proofs.Ytipdpfnjobfbpaa.P SG.Lin
set_option linter.unusedVariables false
set_option linter.unusedSimpArgs false

theorem chk_one {t : List Int} (h : chk [t] = 0) : t.length ≤ 64 ∧ ∀ a, a ∈ t → InF a := by
  obtain ⟨h1, h2⟩ := good_of_chk h
  exact ⟨h1 t List.mem_cons_self, fun a ha => h2.fld t List.mem_cons_self a ha⟩
theorem exam_zero {zs : List (List Int)} {t : List Int} (h : exam zs t = 0) : zs.length ≤ 64 ∧ t.length ≤ 64 ∧ SG.Lin.Good zs zs.length t.length ∧ ∀ a, a ∈ t → InF a := by
  unfold exam at h
  by_cases h1 : 64 < zs.length
  · rw [if_pos h1] at h; exact absurd h (by decide)
  rw [if_neg h1] at h
  by_cases h2 : chk zs ≠ 0
  · rw [if_pos h2] at h; exact absurd h h2
  rw [if_neg h2] at h
  by_cases h3 : chk [t] ≠ 0
  · rw [if_pos h3] at h; exact absurd h h3
  rw [if_neg h3] at h
  rw [ne_eq, Classical.not_not] at h2 h3
  obtain ⟨h4, h5⟩ := chk_one h3
  obtain ⟨_, hG⟩ := good_of_chk h2
  refine ⟨by omega, h4, ?_, h5⟩
  by_cases h6 : zs.length = 0
  · have := List.length_eq_zero_iff.1 h6
    subst this
    exact ⟨rfl, fun x hx => by simp at hx, fun x hx => by simp at hx⟩
  by_cases h7 : (zs.getD 0 []).length = t.length
  · rw [← h7]; exact hG
  · rw [if_neg (fun q => q.elim h6 h7)] at h; exact absurd h (by decide)
def combAns (zs : List (List Int)) (t : List Int) : List Int × Bool × Int :=
  if exam zs t ≠ 0 then ([], false, exam zs t) else match combineP zs t with
  | some y => (y, true, 0)
  | none => ([], false, 0)
def AnsOut (r : List Int × Bool × Int) (w : World) (e : Ending) (w' : World) : Prop :=
  ∃ v0, e = .returned (.tuple #[v0, .bool r.2.1, .int .i64 r.2.2]) ∧ Kd.R (Kd.int .i64) 3 w' w.heap.size (fun _ => True) v0 r.1 ∧ Below w.heap.size w w'
set_option maxRecDepth 100000 in
set_option maxHeartbeats 4000000 in
theorem Combine_no (A : Option Addr) (c : Nat) (zs : List (List Int)) (A1 : Option Addr) (c1 : Nat) (t : List Int) (w : World) (hC : Kd.C kRows w A zs.length zs) (hc : zs.length ≤ c) (hC1 : Kd.C (Kd.int .i64) w A1 t.length t) (hc1 : t.length ≤ c1) (hz : exam zs t ≠ 0) :
    Calls Try.prog 32 #[.slice A zs.length c, .slice A1 t.length c1] w (AnsOut (combAns zs t) w) := by
  have HX := Aside0.mk (exam_calls A c zs A1 c1 t (w.alloc (Obj.cells #[Value.int IntKind.i64 0] 28)) (Kd.C_below hC (below_alloc (Below.refl _ _) _)) hc (Kd.C_below hC1 (below_alloc (Below.refl _ _) _)) hc1)
  have ea : combAns zs t = ([], false, exam zs t) := by unfold combAns; rw [if_pos hz]
  rw [ea]
  have HZ := Aside0.mk hz
  generalize exam zs t = r at *
  clear hC hC1 ea hz
  unfold AnsOut
  go_enter_defers Try.func32, Try.ntmps32
  go_wp2_with fail
  refine HX.out.mono ?_
  rintro e w2 ⟨_, h2, hb2⟩
  have he2 := h2 HZ.out
  subst he2
  have hbox2 := blk_below (blk_new w (Obj.cells #[Value.int IntKind.i64 0] 28)) hb2
  have HB2 := Aside0.mk (below_call (below_alloc (Below.refl w.heap.size w) (Obj.cells #[Value.int IntKind.i64 0] 28)) hb2)
  refine leaves_cons (f := 72) (args := #[.pointer (some ⟨w.heap.size, 0, none⟩)]) (by simp) (by simp [go_sem]) ?_
  refine (caught_panicking ⟨w.heap.size, 0, none⟩ r 0 _ ((blk_cell hbox2 0).trans rfl) (blk_frozen hbox2 0)).mono ?_
  rintro e u' w'' ⟨⟨v3, rfl⟩, rfl, rfl⟩
  have hc3 := (blk_cell (blk_set hbox2 0 (.int .i64 r)) 0).trans rfl
  simp [Leaves, settle, results, Try.results32, go_sem, hc3]
  exact ⟨Kd.R_nil _ _ _ _ _, HB2.out.setCell (p := ⟨w.heap.size, 0, none⟩) (Nat.le_refl _) _⟩
def partS (st : Tab × List Nat) (n k : Nat) : List Int := (List.range n).map fun j => if j ∈ st.2.take k then at2 st.1 (st.2.idxOf j) n else 0
theorem partS_zero (st : Tab × List Nat) (n : Nat) : partS st n 0 = List.replicate n 0 := by
  unfold partS
  rw [List.take_zero]
  refine List.ext_getElem (by simp) (fun i h1 h2 => ?_)
  simp
theorem partS_all (st : Tab × List Nat) (n : Nat) : partS st n st.2.length = solved st n := by
  unfold partS solved
  rw [List.take_length]
theorem partS_len (st : Tab × List Nat) (n k : Nat) : (partS st n k).length = n := by simp [partS]
theorem partS_at (st : Tab × List Nat) (n k : Nat) {j : Nat} (h : j < (partS st n k).length) : (partS st n k)[j] = if j ∈ st.2.take k then at2 st.1 (st.2.idxOf j) n else 0 := by
  simp [partS]
theorem partS_succ {T0 : Tab} {st : Tab × List Nat} {m n L k : Nat} (h : Red T0 m L n st) (hk : k < st.2.length) : partS st n (k + 1) = (partS st n k).set (st.2.getD k 0) (at2 st.1 k n) := by
  obtain ⟨hm, hi⟩ := idx_of (p := st.2) h.shape.inc rfl hk
  refine List.ext_getElem (by simp [partS]) (fun j h1 h2 => ?_)
  rw [List.getElem_set, partS_at, partS_at]
  have e : st.2.take (k + 1) = st.2.take k ++ [st.2.getD k 0] := by
    rw [List.take_add_one, List.getElem?_eq_getElem hk, List.getD_eq_getElem?_getD, List.getElem?_eq_getElem hk]; rfl
  rw [e]
  by_cases hj : st.2.getD k 0 = j
  · rw [if_pos hj, if_pos (List.mem_append.2 (.inr (by rw [hj]; exact List.mem_singleton_self j))), ← hj, hi]
  · rw [if_neg hj]
    by_cases h3 : j ∈ st.2.take k
    · rw [if_pos h3, if_pos (List.mem_append.2 (.inl h3))]
    · rw [if_neg h3, if_neg (fun q => (List.mem_append.1 q).elim h3 (fun q => hj (List.mem_singleton.1 q).symm))]
set_option maxRecDepth 100000 in
set_option maxHeartbeats 4000000 in
theorem Combine_yes (A : Option Addr) (c : Nat) (zs : List (List Int)) (A1 : Option Addr) (c1 : Nat) (t : List Int) (w : World) (hC : Kd.C kRows w A zs.length zs) (hc : zs.length ≤ c) (hC1 : Kd.C (Kd.int .i64) w A1 t.length t) (hc1 : t.length ≤ c1) (hz : exam zs t = 0) (hp : 0 < t.length) :
    Calls Try.prog 32 #[.slice A zs.length c, .slice A1 t.length c1] w (AnsOut (combAns zs t) w) := by
  obtain ⟨h64, hm64, hG, hf⟩ := exam_zero hz
  have HX := Aside0.mk (exam_calls A c zs A1 c1 t (w.alloc (Obj.cells #[Value.int IntKind.i64 0] 28)) (Kd.C_below hC (below_alloc (Below.refl _ _) _)) hc (Kd.C_below hC1 (below_alloc (Below.refl _ _) _)) hc1)
  rw [hz] at HX
  have HC := Aside0.mk hC
  have HC1 := Aside0.mk hC1
  have hTG := turned_good hG rfl hf
  have hRun := turned_run (t := t) hm64 h64 hG.wide
  have hRed := gj_red hTG zs.length (by omega)
  have ea : combAns zs t = (match combineP zs t with | some y => (y, true, 0) | none => ([], false, 0)) := by unfold combAns; rw [if_neg (fun h => h hz)]
  have hcp : combineP zs t = if ((gj (turnedP zs t) zs.length).1.drop (gj (turnedP zs t) zs.length).2.length).all (fun x => x.getD zs.length 0 == 0) = true then some (solved (gj (turnedP zs t) zs.length) zs.length) else none := rfl
  rw [ea, hcp]
  have HTG := Aside0.mk hTG
  have HRUN := Aside0.mk hRun
  have hTlen := hTG.len
  have HTL := Aside0.mk hTlen
  have HGW := Aside0.mk hG
  clear hC hC1 ea hcp hz hTG hRun hG hf hTlen
  generalize hst : gj (turnedP zs t) zs.length = st at *
  have HST := Aside0.mk hst
  obtain ⟨rs, hrs⟩ : ∃ rs, rs = (match (if (st.1.drop st.2.length).all (fun x => x.getD zs.length 0 == 0) = true then some (solved st zs.length) else none : Option (List Int)) with | some y => (y, true, (0 : Int)) | none => ([], false, 0)) := ⟨_, rfl⟩
  rw [← hrs]
  have HRS := Aside0.mk hrs
  have HRED := Aside0.mk hRed
  clear hst hrs hRed
  unfold AnsOut
  go_enter_defers Try.func32, Try.ntmps32
  go_wp2_with fail
  refine HX.out.mono ?_
  rintro e w2 ⟨h1, _, hb2⟩
  obtain ⟨v2, rfl⟩ := h1 rfl
  have HBX := Aside0.mk (blk_below (blk_new w (Obj.cells #[Value.int IntKind.i64 0] 28)) hb2)
  have HB2 := Aside0.mk (below_call (below_alloc (Below.refl w.heap.size w) (Obj.cells #[Value.int IntKind.i64 0] 28)) hb2)
  clear h1 hb2 HX
  go_wp2_with fail
  refine (linear_turned.calls _ A c zs A1 c1 t _ w2 (Kd.C_below HC.out HB2.out) hc (Kd.C_below HC1.out HB2.out) hc1 HRUN.out).mono ?_
  rintro e w3 ⟨v3, rfl, hS, hb3⟩
  obtain ⟨tb, cp0, hs0, b0, cpp, px0, ev, hle0, hot⟩ := S_OT hS (by rw [HTL.out]; exact hp) (L := zs.length + 1) (by omega) HTG.out.wide
  rw [HTL.out] at ev hle0
  subst ev
  have HOT := Aside0.mk hot
  have HBX3 := Aside0.mk (blk_below HBX.out hb3)
  have HB3 := Aside0.mk (below_call HB2.out hb3)
  have HSZ3 := Aside0.mk hb3.size
  have HLT := Aside0.mk (blk_lt HBX.out)
  clear hS hot hb3 HBX
  go_wp2_with fail
  refine (reduce_calls w3 w2.heap.size tb cp0 t.length (zs.length + 1) zs.length hs0 b0 cpp px0 (turnedP zs t) HTG.out HOT.out HSZ3.out (by omega) (by omega) (by omega)).mono ?_
  rintro e w4 ⟨v4, rfl, hpv, hot, hb4⟩
  rw [HST.out] at hpv hot
  obtain ⟨hs1, b1, cp1, px1, hot1⟩ := hot
  have hple : st.2.length ≤ t.length := HRED.out.shape.le
  have hT1 : st.1.length = t.length := HRED.out.good.len
  have HT1 := Aside0.mk hT1
  have HOT4 := Aside0.mk hot1
  have HPV := Aside0.mk hpv
  have HBX4 := Aside0.mk ((hb4.block _ HLT.out).trans HBX3.out)
  have HB4 := Aside0.mk (HB3.out.trans (hb4.mono HB2.out.size))
  have HLW := Aside0.mk hb4.size
  obtain ⟨A9, c9, e9, hle9, hC9⟩ := Kd.R_reads hpv
  rw [List.length_map] at e9 hle9
  subst e9
  have HPZ := Aside0.mk (show (0 : Int) ≤ (st.2.length : Int) ∧ (st.2.length : Int) ≤ (t.length : Int) by omega)
  have hq1 : (0 : Int) ≤ (st.2.length : Int) := by omega
  have hq2 : (st.2.length : Int) ≤ (t.length : Int) := by omega
  have hq3 : (t.length : Int) ≤ (cp0 : Int) := by omega
  clear hpv hot1 hb4 hC9 hT1
  go_wp2_with fail
  all_goals
    rename_i K1 hK1
    have hmr : ((t.length - st.2.length : Nat) : Int) = (t.length : Int) - (st.2.length : Int) := by omega
    go_loop [30] (fun v30 => ∃ k : Nat, k ≤ t.length - st.2.length ∧ v30 = .int .i64 k ∧ Aside0 (∀ i, i < k → at2 st.1 (st.2.length + i) zs.length = 0)) (fun v30 => t.length - st.2.length - (intOf v30).toNat)
    case atStart => exact ⟨0, Nat.zero_le _, rfl, ⟨fun i hi => by omega⟩⟩
    case round =>
      obtain ⟨k, hk, rfl, HZ⟩ := hrel
      by_cases hlt : k < t.length - st.2.length
      · have hltz : (k : Int) < ((t.length - st.2.length : Nat) : Int) := by omega
        first
        | (exfalso; omega)
        | (have q1 := HOT4.out.cell (i := st.2.length + k) (by rw [HT1.out]; omega)
           have q2 := HOT4.out.cell2 (i := st.2.length + k) (j := zs.length) (by rw [HT1.out]; omega) (by omega)
           obtain ⟨x, hx⟩ : ∃ x, at2 st.1 (st.2.length + k) zs.length = x := ⟨_, rfl⟩
           rw [hx] at q2
           have HX := Aside0.mk hx
           clear hx
           by_cases hx0 : x = 0
           · have hb0 : (x != 0) = false := by rw [hx0]; rfl
             go_wp2_with fail
             go_round
             case rel =>
               refine ⟨k + 1, by omega, by go_num, ⟨fun i hi => ?_⟩⟩
               by_cases hik : i < k
               · exact HZ.out i hik
               · obtain rfl : i = k := by omega
                 rw [HX.out]; exact hx0
             case measure => simp [intOf]; omega
           · have hb0 : (x != 0) = true := by rw [bne_iff_ne]; exact hx0
             have hrs0 : rs = ([], false, 0) := by
               rw [HRS.out, if_neg (fun hall => hx0 (by rw [← HX.out]; exact all_drop.1 hall _ (by omega) (by rw [HT1.out]; omega)))]
             have hc4 := (blk_cell HBX4.out 0).trans rfl
             have hf4 := blk_frozen HBX4.out 0
             go_wp2_with fail
             refine leaves_cons (f := 72) (args := #[.pointer (some ⟨w.heap.size, 0, none⟩)]) (by simp) (by simp [go_sem]) ?_
             refine (caught_idle ⟨w.heap.size, 0, none⟩ _).mono ?_
             rintro e u' w'' ⟨⟨v3, rfl⟩, rfl, rfl⟩
             have hc5 := (blk_cell (blk_set HBX4.out 0 (.int .i64 0)) 0).trans rfl
             simp [Leaves, settle, results, Try.results32, go_sem, hc5, hrs0]
             exact ⟨Kd.R_nil _ _ _ _ _, HB4.out.setCell (p := ⟨w.heap.size, 0, none⟩) (Nat.le_refl _) _⟩)
      · have hltz : ¬ (k : Int) < ((t.length - st.2.length : Nat) : Int) := by omega
        obtain rfl : k = t.length - st.2.length := by omega
        have hrs1 : rs = (solved st zs.length, true, 0) := by
          rw [HRS.out, if_pos (all_drop.2 (fun i h1 h2 => by
            rw [HT1.out] at h2
            have := HZ.out (i - st.2.length) (by omega)
            rwa [show st.2.length + (i - st.2.length) = i by omega] at this))]
        have HR1 := Aside0.mk hrs1
        clear hrs1 HZ hk hlt
        go_wp2_with ((with_reducible refine gate_dst (N := 41) rfl ?_); refine Kd.R_make (Kd.int .i64) (w0 := w) w.heap.size 3 rfl (N := 41) rfl 31 _ _ rfl (zs.length : Int) rfl rfl Try.underlying31 (.int .i64 0) 8 info3 rfl (by decide) (by omega) 0 (ok := fun k => w4.heap.size ≤ k) (okp := fun k => w4.heap.size ≤ k) rfl (fun _ hk => hk) (Nat.le_refl _) (by omega) (by omega) HB4.out HB4.out.size ?_; intro v5 w5 ho hb hg hnew_; rw [Int.toNat_natCast] at ho; have HO := Aside0.mk ho; have HB5 := Aside0.mk hb; have HG5 := Aside0.mk hg; obtain ⟨A5, cap5, e5⟩ := Kd.R_slice ho; rw [List.length_replicate] at e5; subst e5; clear ho hb hg hnew_)
        have HPB := Aside0.mk (fun (pb : Nat) (px : List Value) (h : w4.heap[pb]? = some (rowO (st.2.map Int.ofNat) px)) => (HG5.out.block pb (blk_lt h) (by simp)).trans h)
        have HOT5 := Aside0.mk (HOT4.out.grown HG5.out (fun k hk => by simp at hk))
        have HBX5 := Aside0.mk ((HG5.out.block _ (blk_lt HBX4.out) (by simp)).trans HBX4.out)
        go_loopw [44] (fun v44 wr => ∃ k : Nat, k ≤ st.2.length ∧ v44 = .int .i64 k ∧ Aside0 (OT wr w2.heap.size w3.heap.size tb hs1 b1 cp1 px1 st.1 (zs.length + 1)) ∧
          Aside0 (Kd.R (Kd.int .i64) 3 wr w.heap.size (fun k => w4.heap.size ≤ k) (.slice A5 zs.length cap5) (partS st zs.length k)) ∧ Aside0 (wr.heap[w.heap.size]? = some (.cells #[.int .i64 0] 28)) ∧ Aside0 (Below w.heap.size w wr) ∧
          Aside0 (∀ (pb : Nat) (px : List Value), w4.heap[pb]? = some (rowO (st.2.map Int.ofNat) px) → wr.heap[pb]? = some (rowO (st.2.map Int.ofNat) px))) (fun v44 _ => st.2.length - (intOf v44).toNat)
        case atStart => exact ⟨0, Nat.zero_le _, rfl, HOT5, ⟨by rw [partS_zero]; exact HO.out⟩, HBX5, HB5, HPB⟩
        case round =>
          clear HOT5 HO HBX5 HB5 HPB
          obtain ⟨k, hk, rfl, HOT5, HO, HBX5, HB5, HPB⟩ := hrel
          by_cases hlt : k < st.2.length
          · have hltz : (k : Int) < (st.2.length : Int) := by omega
            obtain ⟨pb, cap9, px9, e9, _, _, hlt9, hrow, _⟩ := R_rowO HPV.out (by rw [List.length_map]; omega)
            rw [List.length_map] at e9
            injection e9 with e9 _ e9c
            subst e9 e9c
            have hrow5 := HPB.out _ _ hrow
            have hcn : st.2.getD k 0 < zs.length := HRED.out.shape.lt k hlt
            have q0 := rowO_cell hrow5 (j := k) (by rw [List.length_map]; exact hlt)
            rw [show (st.2.map Int.ofNat).getD k 0 = ((st.2.getD k 0 : Nat) : Int) by
              rw [List.getD_eq_getElem?_getD, List.getD_eq_getElem?_getD, List.getElem?_map, List.getElem?_eq_getElem hlt]; rfl] at q0
            have q1 := HOT5.out.cell (i := k) (by rw [HT1.out]; omega)
            have q2 := HOT5.out.cell2 (i := k) (j := zs.length) (by rw [HT1.out]; omega) (by omega)
            have HSU := Aside0.mk (partS_succ HRED.out hlt)
            obtain ⟨g, cap6, px6, e6, _, _, hltg, hrowg, hokg⟩ := R_rowO HO.out (by rw [partS_len]; omega)
            rw [partS_len] at e6
            injection e6 with e6 _ e6c
            subst e6 e6c
            have HPUT := Aside0.mk (Kd.R_putn (enc := fun x => .int .i64 x) (h1 := fun _ => rfl) HO.out ((st.2.getD k 0 : Nat) : Int) (at2 st.1 k zs.length))
            generalize st.2.getD k 0 = cc at *
            generalize at2 st.1 k zs.length = x at *
            have hcz : (cc : Int) < (zs.length : Int) := by omega
            have q3 := rowO_cell hrowg (j := cc) (by rw [partS_len]; exact hcn)
            have q4 := blk_frozen hrowg cc
            have HLT9 := Aside0.mk hlt9
            have HOKG := Aside0.mk hokg
            have HROW := Aside0.mk hrow
            have HLTG := Aside0.mk hltg
            clear hrow hrow5 hrowg hlt9 hokg hltg
            go_wp2_with fail
            go_roundw
            case rel =>
              refine ⟨k + 1, by omega, by go_num, ⟨HOT5.out.far (Nat.le_trans HLW.out HOKG.out) _⟩, ⟨by rw [HSU.out]; exact HPUT.out⟩, ⟨?_⟩, ⟨HB5.out.setCell (p := ⟨g, cc, none⟩) (Nat.le_trans HB4.out.size HOKG.out) _⟩, ⟨fun pb' px' h' => ?_⟩⟩
              · exact (Below.heap_setCell wr ⟨g, cc, none⟩ _ w.heap.size (Nat.ne_of_lt (Nat.lt_of_lt_of_le (blk_lt HBX4.out) HOKG.out))).trans HBX5.out
              · exact (Below.heap_setCell wr ⟨g, cc, none⟩ _ pb' (Nat.ne_of_lt (Nat.lt_of_lt_of_le (blk_lt h') HOKG.out))).trans (HPB.out _ _ h')
            case measure => simp [intOf]; omega
          · have hltz : ¬ (k : Int) < (st.2.length : Int) := by omega
            obtain rfl : k = st.2.length := by omega
            have hc4 := (blk_cell HBX5.out 0).trans rfl
            have hf4 := blk_frozen HBX5.out 0
            go_wp2_with fail
            refine leaves_cons (f := 72) (args := #[.pointer (some ⟨w.heap.size, 0, none⟩)]) (by simp) (by simp [go_sem]) ?_
            refine (caught_idle ⟨w.heap.size, 0, none⟩ _).mono ?_
            rintro e u' w'' ⟨⟨v3, rfl⟩, rfl, rfl⟩
            have hc5 := (blk_cell (blk_set HBX5.out 0 (.int .i64 0)) 0).trans rfl
            have hRf := Kd.R_mono (ok' := fun _ => True) (HO.out) (fun _ _ => trivial)
            rw [partS_all] at hRf
            simp [Leaves, settle, results, Try.results32, go_sem, hc5, HR1.out]
            exact ⟨Kd.R_mono (Kd.R_set hRf HBX5.out (by decide) 0 _) (fun _ _ => trivial), HB5.out.setCell (p := ⟨w.heap.size, 0, none⟩) (Nat.le_refl _) _⟩
set_option maxRecDepth 100000 in
set_option maxHeartbeats 4000000 in
theorem Combine_nil (A : Option Addr) (c : Nat) (zs : List (List Int)) (A1 : Option Addr) (c1 : Nat) (t : List Int) (w : World) (hC : Kd.C kRows w A zs.length zs) (hc : zs.length ≤ c) (hC1 : Kd.C (Kd.int .i64) w A1 t.length t) (hc1 : t.length ≤ c1) (hz : exam zs t = 0) (hp : t.length = 0) :
    Calls Try.prog 32 #[.slice A zs.length c, .slice A1 t.length c1] w (AnsOut (combAns zs t) w) := by
  obtain ⟨h64, hm64, hG, hf⟩ := exam_zero hz
  have HX := Aside0.mk (exam_calls A c zs A1 c1 t (w.alloc (Obj.cells #[Value.int IntKind.i64 0] 28)) (Kd.C_below hC (below_alloc (Below.refl _ _) _)) hc (Kd.C_below hC1 (below_alloc (Below.refl _ _) _)) hc1)
  rw [hz] at HX
  have HC := Aside0.mk hC
  have HC1 := Aside0.mk hC1
  have HRUN := Aside0.mk (turned_run (t := t) hm64 h64 hG.wide)
  have hTG := turned_good hG rfl hf
  have hRed := gj_red hTG zs.length (by omega)
  have ht0 : turnedP zs t = [] := List.length_eq_zero_iff.1 (by rw [hTG.len]; exact hp)
  have ea : combAns zs t = (List.replicate zs.length 0, true, 0) := by
    unfold combAns
    rw [if_neg (fun h => h hz)]
    have h2 : (gj (turnedP zs t) zs.length).2.length = 0 := by have := hRed.shape.le; omega
    have h1 : (gj (turnedP zs t) zs.length).1.length = 0 := by rw [hRed.good.len]; exact hp
    have e1 := List.length_eq_zero_iff.1 h1
    have hs : solved (gj (turnedP zs t) zs.length) zs.length = List.replicate zs.length 0 := by rw [← partS_all, h2, partS_zero]
    have : combineP zs t = some (solved (gj (turnedP zs t) zs.length) zs.length) := by
      show (if ((gj (turnedP zs t) zs.length).1.drop (gj (turnedP zs t) zs.length).2.length).all (fun x => x.getD zs.length 0 == 0) = true then some (solved (gj (turnedP zs t) zs.length) zs.length) else none) = _
      rw [if_pos]
      rw [e1, List.drop_nil]; rfl
    rw [this, hs]
  rw [ea]
  rw [ht0] at HRUN
  have HP := Aside0.mk hp
  clear hC hC1 ea hz hTG hG hf hRed ht0 hp
  unfold AnsOut
  go_enter_defers Try.func32, Try.ntmps32
  go_wp2_with fail
  refine HX.out.mono ?_
  rintro e w2 ⟨h1, _, hb2⟩
  obtain ⟨v2, rfl⟩ := h1 rfl
  have HBX := Aside0.mk (blk_below (blk_new w (Obj.cells #[Value.int IntKind.i64 0] 28)) hb2)
  have HB2 := Aside0.mk (below_call (below_alloc (Below.refl w.heap.size w) (Obj.cells #[Value.int IntKind.i64 0] 28)) hb2)
  clear h1 hb2 HX
  go_wp2_with fail
  refine (linear_turned.calls _ A c zs A1 c1 t _ w2 (Kd.C_below HC.out HB2.out) hc (Kd.C_below HC1.out HB2.out) hc1 HRUN.out).mono ?_
  rintro e w3 ⟨v3, rfl, hS, hb3⟩
  obtain ⟨A3, cp3, e3⟩ := Kd.S_slice hS
  have e3' : v3 = .slice A3 0 cp3 := e3
  subst e3'
  have HBX3 := Aside0.mk (blk_below HBX.out hb3)
  have HB3 := Aside0.mk (below_call HB2.out hb3)
  clear hS hb3 HBX e3
  go_wp2_with fail
  refine (reduceN0_calls A3 cp3 zs.length (by omega) w3).mono ?_
  rintro e w4 ⟨rfl, hb4⟩
  have HBX4 := Aside0.mk (blk_below HBX3.out hb4)
  have HB4 := Aside0.mk (below_call HB3.out hb4)
  clear hb4
  go_wp2_with fail
  go_loop [30] (fun v30 => v30 = .int .i64 0) (fun v30 => 0)
  case atStart => rfl
  case round =>
    subst hrel
    go_wp2_with ((with_reducible refine gate_dst (N := 41) rfl ?_); refine Kd.R_make (Kd.int .i64) (w0 := w) w.heap.size 3 rfl (N := 41) rfl 31 _ _ rfl (zs.length : Int) rfl rfl Try.underlying31 (.int .i64 0) 8 info3 rfl (by decide) (by omega) 0 (ok := fun k => w4.heap.size ≤ k) (okp := fun k => w4.heap.size ≤ k) rfl (fun _ hk => hk) (Nat.le_refl _) (by omega) (by omega) HB4.out HB4.out.size ?_; intro v5 w5 ho hb hg hnew_; rw [Int.toNat_natCast] at ho; have HO := Aside0.mk ho; have HB5 := Aside0.mk hb; have HBX5 := Aside0.mk ((hg.block _ (blk_lt HBX4.out) (by simp)).trans HBX4.out); obtain ⟨A5, cap5, e5⟩ := Kd.R_slice ho; rw [List.length_replicate] at e5; subst e5; clear ho hb hg hnew_)
    go_loop [44] (fun v44 => v44 = .int .i64 0) (fun v44 => 0)
    case atStart => rfl
    case round =>
      subst hrel
      have hc4 := (blk_cell HBX5.out 0).trans rfl
      have hf4 := blk_frozen HBX5.out 0
      go_wp2_with fail
      refine leaves_cons (f := 72) (args := #[.pointer (some ⟨w.heap.size, 0, none⟩)]) (by simp) (by simp [go_sem]) ?_
      refine (caught_idle ⟨w.heap.size, 0, none⟩ _).mono ?_
      rintro e u' w'' ⟨⟨v3, rfl⟩, rfl, rfl⟩
      have hc5 := (blk_cell (blk_set HBX5.out 0 (.int .i64 0)) 0).trans rfl
      have hRf := Kd.R_mono (ok' := fun _ => True) (HO.out) (fun _ _ => trivial)
      simp [Leaves, settle, results, Try.results32, go_sem, hc5]
      exact ⟨Kd.R_mono (Kd.R_set hRf HBX5.out (by decide) 0 _) (fun _ _ => trivial), HB5.out.setCell (p := ⟨w.heap.size, 0, none⟩) (Nat.le_refl _) _⟩
theorem Combine_calls (A : Option Addr) (c : Nat) (zs : List (List Int)) (A1 : Option Addr) (c1 : Nat) (t : List Int) (w : World) (hC : Kd.C kRows w A zs.length zs) (hc : zs.length ≤ c) (hC1 : Kd.C (Kd.int .i64) w A1 t.length t) (hc1 : t.length ≤ c1) :
    Calls Try.prog 32 #[.slice A zs.length c, .slice A1 t.length c1] w (AnsOut (combAns zs t) w) := by
  by_cases hz : exam zs t = 0
  · rcases Nat.eq_zero_or_pos t.length with hp | hp
    · exact Combine_nil A c zs A1 c1 t w hC hc hC1 hc1 hz hp
    · exact Combine_yes A c zs A1 c1 t w hC hc hC1 hc1 hz hp
  · exact Combine_no A c zs A1 c1 t w hC hc hC1 hc1 hz
end Go.Proofs.Ytipdpfnjobfbpaa.H


/- Plain words for linear.Separate: what its loops hold. -/
namespace Go.Proofs.Ytipdpfnjobfbpaa.H
open Go.RowKit Go.Proofs.YtipdpfnjobfbpaaW.PrintWords Go.Proofs.YtipdpfnjobfbpaaW.PrintLast Go.Proofs.YtipdpfnjobfbpaaW.PrintMore Go.Proofs.Ytipdpfnjobfbpaa.P SG SG.Lin
set_option linter.unusedVariables false
theorem index_run {p : List Nat} {c : Nat} (hp : p.length ≤ 1000) : ∀ (d i : Nat), i + d = p.length → c ∉ p.take i →
    ∃ r, slices_Index_int_int.l0 (d + 1) (p.map Int.ofNat) (c : Int) (p.length : Int) (i : Int) = some r ∧ decide (r ≥ 0) = decide (c ∈ p) := by
  intro d
  induction d with
  | zero =>
    intro i hi hc
    have : i = p.length := by omega
    subst this
    rw [List.take_length] at hc
    refine ⟨-1, ?_, ?_⟩
    · unfold slices_Index_int_int.l0; rw [if_neg (by omega)]
    · rw [decide_eq_false hc]; rfl
  | succ d ih =>
    intro i hi hc
    have hil : i < p.length := by omega
    unfold slices_Index_int_int.l0
    unfold rd
    rw [List.length_map, if_pos (by omega), if_pos (by omega), if_pos (by omega), Int.toNat_natCast, wrap_nat (by omega)]
    have e : (p.map Int.ofNat).getD i 0 = ((p.getD i 0 : Nat) : Int) := by
      rw [List.getD_eq_getElem?_getD, List.getD_eq_getElem?_getD, List.getElem?_map, List.getElem?_eq_getElem hil]; rfl
    rw [e]
    by_cases h : c = p.getD i 0
    · rw [if_pos (by rw [← h])]
      refine ⟨i, rfl, ?_⟩
      rw [decide_eq_true (show c ∈ p by rw [h]; exact getD_mem hil), decide_eq_true_eq]; omega
    · rw [if_neg (by omega)]
      refine ih (i + 1) (by omega) ?_
      rw [List.take_add_one, List.getElem?_eq_getElem hil, List.mem_append]
      rintro (q | q)
      · exact hc q
      · refine h ?_
        rw [List.getD_eq_getElem?_getD, List.getElem?_eq_getElem hil]
        exact List.mem_singleton.1 q
theorem contains_run {p : List Nat} {c : Nat} (hp : p.length ≤ 1000) : slices_Contains_int_int.f (p.length + 1) (p.map Int.ofNat) (c : Int) = some (decide (c ∈ p)) := by
  obtain ⟨r, h1, h2⟩ := index_run (c := c) hp p.length 0 (by omega) (by simp)
  unfold slices_Contains_int_int.f slices_Index_int_int.f
  rw [List.length_map, show (0 : Int) = ((0 : Nat) : Int) from rfl, h1]
  show some (decide (r ≥ 0)) = _
  rw [h2]
def prodS (st : Tab × List Nat) (t : List Int) (c : Nat) : Nat → Int
  | 0 => t.getD c 0
  | k + 1 => fadd (prodS st t c k) (fmul ((-at2 st.1 k c) % 1073741789) (t.getD (st.2.getD k 0) 0))
theorem prodS_in (st : Tab × List Nat) {t : List Int} (hf : ∀ a, a ∈ t → InF a) (c : Nat) : ∀ k, InF (prodS st t c k)
  | 0 => by
    show InF (t.getD c 0)
    by_cases h : c < t.length
    · exact hf _ (getD_mem h)
    · rw [getD_out (by omega)]; exact InF0
  | k + 1 => fadd_in _ _
theorem prodS_kk (st : Tab × List Nat) (t : List Int) (c : Nat) : ∀ k, kk (prodS st t c k) = vk t c - S k fun i => vk t (st.2.getD i 0) * mt st.1 i c
  | 0 => by show vk t c = vk t c - 0; grind
  | k + 1 => by
    show kk (fadd _ _) = vk t c - (S k (fun i => vk t (st.2.getD i 0) * mt st.1 i c) + vk t (st.2.getD k 0) * mt st.1 k c)
    rw [kk_fadd, prodS_kk st t c k, kk_fmul, kk_mod, kk_neg]
    show _ + -mt st.1 k c * vk t (st.2.getD k 0) = _
    grind
theorem prodS_all {T0 : Tab} {st : Tab × List Nat} {n : Nat} {t : List Int} (h : Red T0 n t.length t.length st) (hf : ∀ a, a ∈ t → InF a) {c : Nat} (hc : c < t.length) (hn : c ∉ st.2) :
    prodS st t c st.2.length = dotP (wOf st t.length c) t := by
  refine kk_inj (prodS_in st hf c _) (dot_in _ _) ?_
  rw [prodS_kk, dot_kk, wOf_len, ← sum_wOf h hc hn (vk t)]
  exact S_congr fun i _ => by grind
def wS (st : Tab × List Nat) (L c k : Nat) : List Int := (List.range L).map fun j => if j = c then 1 else if j ∈ st.2.take k then (-at2 st.1 (st.2.idxOf j) c) % 1073741789 else 0
theorem wS_len (st : Tab × List Nat) (L c k : Nat) : (wS st L c k).length = L := by simp [wS]
theorem wS_at (st : Tab × List Nat) (L c k : Nat) {j : Nat} (h : j < (wS st L c k).length) : (wS st L c k)[j] = if j = c then 1 else if j ∈ st.2.take k then (-at2 st.1 (st.2.idxOf j) c) % 1073741789 else 0 := by
  simp [wS]
theorem wS_zero (st : Tab × List Nat) (L c : Nat) : wS st L c 0 = (List.replicate L 0).set c 1 := by
  refine List.ext_getElem (by simp [wS]) (fun j h1 h2 => ?_)
  rw [wS_at, List.getElem_set, List.take_zero]
  by_cases h : j = c
  · rw [if_pos h, if_pos h.symm]
  · rw [if_neg h, if_neg (by simp), if_neg (fun q => h q.symm)]; simp
theorem wS_all (st : Tab × List Nat) (L c : Nat) : wS st L c st.2.length = wOf st L c := by
  unfold wS wOf
  rw [List.take_length]
theorem wS_succ {T0 : Tab} {st : Tab × List Nat} {m n L c k : Nat} (h : Red T0 m L n st) (hk : k < st.2.length) (hn : c ∉ st.2) : wS st L c (k + 1) = (wS st L c k).set (st.2.getD k 0) ((-at2 st.1 k c) % 1073741789) := by
  obtain ⟨hm, hi⟩ := idx_of (p := st.2) h.shape.inc rfl hk
  refine List.ext_getElem (by simp [wS]) (fun j h1 h2 => ?_)
  rw [List.getElem_set, wS_at, wS_at]
  have e : st.2.take (k + 1) = st.2.take k ++ [st.2.getD k 0] := by
    rw [List.take_add_one, List.getElem?_eq_getElem hk, List.getD_eq_getElem?_getD, List.getElem?_eq_getElem hk]; rfl
  rw [e]
  by_cases hj : st.2.getD k 0 = j
  · rw [if_pos hj, if_neg (fun q => hn (by rw [← q, ← hj]; exact hm)), if_pos (List.mem_append.2 (.inr (by rw [hj]; exact List.mem_singleton_self j))), ← hj, hi]
  · rw [if_neg hj]
    by_cases hc : j = c
    · rw [if_pos hc, if_pos hc]
    · rw [if_neg hc, if_neg hc]
      by_cases h3 : j ∈ st.2.take k
      · rw [if_pos h3, if_pos (List.mem_append.2 (.inl h3))]
      · rw [if_neg h3, if_neg (fun q => (List.mem_append.1 q).elim h3 (fun q => hj (List.mem_singleton.1 q).symm))]
/-- A list of which the first k are multiplied. -/
def scS (x : List Int) (n : Int) (k : Nat) : List Int := (x.take k).map (fun a => fmul a n) ++ x.drop k
theorem scS_len (x : List Int) (n : Int) {k : Nat} (hk : k ≤ x.length) : (scS x n k).length = x.length := by
  unfold scS; rw [List.length_append, List.length_map, List.length_take, List.length_drop]; omega
theorem scS_zero (x : List Int) (n : Int) : scS x n 0 = x := rfl
theorem scS_all (x : List Int) (n : Int) : scS x n x.length = x.map (fun a => fmul a n) := by
  unfold scS; rw [List.take_length, List.drop_length, List.append_nil]
theorem scS_get (x : List Int) (n : Int) {k : Nat} (hk : k < x.length) : (scS x n k).getD k 0 = x.getD k 0 := by
  unfold scS
  rw [List.getD_eq_getElem?_getD, List.getElem?_append_right (by rw [List.length_map, List.length_take]; omega), List.length_map, List.length_take, Nat.min_eq_left (by omega), Nat.sub_self, List.getElem?_drop, List.getD_eq_getElem?_getD]; rfl
theorem scS_succ (x : List Int) (n : Int) {k : Nat} (hk : k < x.length) : scS x n (k + 1) = (scS x n k).set k (fmul (x.getD k 0) n) := by
  have hl : ((x.take k).map (fun a => fmul a n)).length = k := by rw [List.length_map, List.length_take]; omega
  unfold scS
  rw [List.set_append_right _ _ (by omega), hl, Nat.sub_self, List.drop_eq_getElem_cons hk, List.set_cons_zero, List.take_add_one, List.getElem?_eq_getElem hk, List.map_append, List.append_assoc, List.getD_eq_getElem?_getD, List.getElem?_eq_getElem hk]
  rfl
theorem sep_first {zs : Tab} {t : List Int} {c : Nat} {w : List Int} (hc : c < t.length) (h0 : ∀ i, i < c → sepAt (gj zs t.length) t i = none) (h1 : sepAt (gj zs t.length) t c = some w) : separateP zs t = some w := by
  unfold separateP
  obtain ⟨d, hd⟩ : ∃ d, t.length = c + (d + 1) := ⟨t.length - c - 1, by omega⟩
  have e : List.range t.length = List.range c ++ (List.range (d + 1)).map (c + ·) := by rw [hd, List.range_add]
  have e2 : (List.range (d + 1)).map (c + ·) = c :: ((List.range d).map Nat.succ).map (c + ·) := by rw [List.range_succ_eq_map]; rfl
  rw [e, List.findSome?_append, List.findSome?_eq_none_iff.2 (fun i hi => h0 i (List.mem_range.1 hi)), e2, List.findSome?_cons, h1]
  rfl
theorem sep_none {zs : Tab} {t : List Int} (h0 : ∀ i, i < t.length → sepAt (gj zs t.length) t i = none) : separateP zs t = none :=
  List.findSome?_eq_none_iff.2 (fun i hi => h0 i (List.mem_range.1 hi))
end Go.Proofs.Ytipdpfnjobfbpaa.H


/- linear.Separate. -/
namespace Go.Proofs.Ytipdpfnjobfbpaa.H
open Go.RowKit Go.Shelf Go.Proofs.YtipdpfnjobfbpaaW.PrintWords Go.Proofs.YtipdpfnjobfbpaaW.PrintLast Go.Proofs.YtipdpfnjobfbpaaW.PrintMore Go.Proofs.Ytipdpfnjobfbpaa.P SG.Lin
set_option linter.unusedVariables false
set_option linter.unusedSimpArgs false

theorem copyU (A : Option Addr) (c : Nat) (zs : List (List Int)) (L : Nat) (w : World) (hC : Kd.C kRows w A zs.length zs) (hc : zs.length ≤ c) (hN : zs.length ≤ 64) (hL : L ≤ 64) (hG : SG.Lin.Good zs zs.length L) :
    Calls Try.prog 69 #[.slice A zs.length c] w fun e w' => ∃ A7 c7, e = .returned (.slice A7 zs.length c7) ∧
      (0 < zs.length → 0 < L → ∃ tb hs b cp px, A7 = some ⟨tb, 0, none⟩ ∧ OT w' w.heap.size w'.heap.size tb hs b cp px zs L) ∧ Below w.heap.size w w' := by
  rcases Nat.eq_zero_or_pos zs.length with h0 | h0
  · rw [h0]
    refine (copy_nil A c w).mono ?_
    rintro e w' ⟨A1, cap, rfl, hb⟩
    exact ⟨A1, cap, rfl, fun h => absurd h (by omega), hb⟩
  · rcases Nat.eq_zero_or_pos L with hL0 | hL0
    · refine (copy_empty A c zs w hC hc h0 (by omega) (fun x hx => by rw [hG.wide x hx]; exact hL0)).mono ?_
      rintro e w' ⟨A1, cap, rfl, hb⟩
      exact ⟨A1, cap, rfl, fun _ h => absurd h (by omega), hb⟩
    · refine (copy_calls A c zs L w hC hc h0 (by omega) hL0 (by omega) hG.wide).mono ?_
      rintro e w' ⟨tb, cap, rfl, ⟨hs, b, cp, px, hot⟩, hb⟩
      exact ⟨_, cap, rfl, fun _ _ => ⟨tb, hs, b, cp, px, rfl, hot⟩, hb⟩
theorem redU (A7 : Option Addr) (c7 : Nat) (zs : List (List Int)) (L n0 : Nat) (w : World) (hN : zs.length ≤ 64) (hL : L ≤ 64) (hG : SG.Lin.Good zs zs.length L) (hn0 : n0 ≤ w.heap.size)
    (hO : 0 < zs.length → 0 < L → ∃ tb hs b cp px, A7 = some ⟨tb, 0, none⟩ ∧ OT w n0 w.heap.size tb hs b cp px zs L) :
    Calls Try.prog 70 #[.slice A7 zs.length c7, .int .i64 L] w fun e w' => ∃ v, e = .returned v ∧ Kd.R (Kd.int .i64) 3 w' w.heap.size (fun k => w.heap.size ≤ k) v ((gj zs L).2.map Int.ofNat) ∧
      (0 < zs.length → 0 < L → ∃ tb hs b cp px, A7 = some ⟨tb, 0, none⟩ ∧ OT w' n0 w.heap.size tb hs b cp px (gj zs L).1 L) ∧ Below n0 w w' := by
  have hR := red_rows hG
  rcases Nat.eq_zero_or_pos zs.length with h0 | h0
  · have e : (gj zs L).2 = [] := List.length_eq_zero_iff.1 (by have := hR.shape.le; omega)
    rw [e, h0]
    refine (reduceN0_calls A7 c7 L (by omega) w).mono ?_
    rintro e w' ⟨rfl, hb⟩
    exact ⟨_, rfl, Kd.R_nil _ _ _ _ _, fun h => absurd h (by omega), hb.mono hn0⟩
  · rcases Nat.eq_zero_or_pos L with hL0 | hL0
    · subst hL0
      refine (reduce0_calls A7 zs.length c7 w).mono ?_
      rintro e w' ⟨rfl, hb⟩
      exact ⟨_, rfl, Kd.R_nil _ _ _ _ _, fun _ h => absurd h (by omega), hb.mono hn0⟩
    · obtain ⟨tb, hs, b, cp, px, rfl, hot⟩ := hO h0 hL0
      refine (reduce_calls w n0 tb c7 zs.length L L hs b cp px zs hG hot hn0 (Nat.le_refl _) (by omega) (by omega)).mono ?_
      rintro e w' ⟨v, rfl, hpv, ⟨hs1, b1, cp1, px1, hot1⟩, hb⟩
      exact ⟨v, rfl, hpv, fun _ _ => ⟨tb, hs1, b1, cp1, px1, rfl, hot1⟩, hb⟩
theorem R_row {W : World} {base : Nat} {ok : Nat → Prop} {g n cap : Nat} {xs : List Int} (h : Kd.R (Kd.int .i64) 3 W base ok (.slice (some ⟨g, 0, none⟩) n cap) xs) (hp : 0 < n) :
    ∃ px, W.heap[g]? = some (rowO xs px) ∧ ok g ∧ base ≤ g ∧ xs.length = n ∧ n ≤ cap := by
  obtain ⟨e, hle, _⟩ := Kd.R_reads' h
  obtain ⟨g', cap', px, ev, hlc, hbg, _, hrow, hok⟩ := R_rowO h (by omega)
  injection ev with e1 _ _
  injection e1 with e1
  injection e1 with e1 _ _
  subst e1
  exact ⟨px, hrow, hok, hbg, e.symm, hle⟩
theorem at_ints {w : World} {A : Option Addr} {xs : List Int} (h : Kd.C (Kd.int .i64) w A xs.length xs) (hp : 0 < xs.length) : ∃ ad, A = some ad ∧
    Aside0 (∀ W, Below w.heap.size w W → ∀ i, i < xs.length → W.cell? (ad.add i) = some (.int .i64 (xs.getD i 0))) := by
  obtain ⟨ad, _, e, _, _, _⟩ := Kd.C_get h (0 : Int) (0 : Int) (by omega) (by omega)
  refine ⟨ad, e, ⟨fun W hW i hi => ?_⟩⟩
  obtain ⟨ad', c, e', _, hK, hc⟩ := Kd.C_get h (0 : Int) (i : Int) (by omega) (by omega)
  rw [e] at e'
  injection e' with e'
  subst e'
  have e2 : ((i : Int)).toNat = i := by omega
  rw [e2] at hK hc
  have hcs : c = [.int .i64 (xs.getD i 0)] := hK
  have := hc 0 (.int .i64 (xs.getD i 0)) (by rw [hcs]; rfl)
  rw [show (Kd.int .i64).sz = 1 from rfl] at this
  exact pw_cell_below hW (by simpa using this)
def sepAns (zs : List (List Int)) (t : List Int) : List Int × Bool × Int :=
  if exam zs t ≠ 0 then ([], false, exam zs t) else match separateP zs t with
  | some y => (y, true, 0)
  | none => ([], false, 0)
set_option maxRecDepth 100000 in
set_option maxHeartbeats 4000000 in
theorem Separate_no (A : Option Addr) (c : Nat) (zs : List (List Int)) (A1 : Option Addr) (c1 : Nat) (t : List Int) (w : World) (hC : Kd.C kRows w A zs.length zs) (hc : zs.length ≤ c) (hC1 : Kd.C (Kd.int .i64) w A1 t.length t) (hc1 : t.length ≤ c1) (hz : exam zs t ≠ 0) :
    Calls Try.prog 34 #[.slice A zs.length c, .slice A1 t.length c1] w (AnsOut (sepAns zs t) w) := by
  have HX := Aside0.mk (exam_calls A c zs A1 c1 t (w.alloc (Obj.cells #[Value.int IntKind.i64 0] 28)) (Kd.C_below hC (below_alloc (Below.refl _ _) _)) hc (Kd.C_below hC1 (below_alloc (Below.refl _ _) _)) hc1)
  have ea : sepAns zs t = ([], false, exam zs t) := by unfold sepAns; rw [if_pos hz]
  rw [ea]
  have HZ := Aside0.mk hz
  generalize exam zs t = r at *
  clear hC hC1 ea hz
  unfold AnsOut
  go_enter_defers Try.func34, Try.ntmps34
  go_wp2_with fail
  refine HX.out.mono ?_
  rintro e w2 ⟨_, h2, hb2⟩
  have he2 := h2 HZ.out
  subst he2
  have hbox2 := blk_below (blk_new w (Obj.cells #[Value.int IntKind.i64 0] 28)) hb2
  have HB2 := Aside0.mk (below_call (below_alloc (Below.refl w.heap.size w) (Obj.cells #[Value.int IntKind.i64 0] 28)) hb2)
  refine leaves_cons (f := 72) (args := #[.pointer (some ⟨w.heap.size, 0, none⟩)]) (by simp) (by simp [go_sem]) ?_
  refine (caught_panicking ⟨w.heap.size, 0, none⟩ r 0 _ ((blk_cell hbox2 0).trans rfl) (blk_frozen hbox2 0)).mono ?_
  rintro e u' w'' ⟨⟨v3, rfl⟩, rfl, rfl⟩
  have hc3 := (blk_cell (blk_set hbox2 0 (.int .i64 r)) 0).trans rfl
  simp [Leaves, settle, results, Try.results34, go_sem, hc3]
  exact ⟨Kd.R_nil _ _ _ _ _, HB2.out.setCell (p := ⟨w.heap.size, 0, none⟩) (Nat.le_refl _) _⟩
set_option maxRecDepth 100000 in
set_option maxHeartbeats 4000000 in
theorem Separate_yes (A : Option Addr) (c : Nat) (zs : List (List Int)) (A1 : Option Addr) (c1 : Nat) (t : List Int) (w : World) (hC : Kd.C kRows w A zs.length zs) (hc : zs.length ≤ c) (hC1 : Kd.C (Kd.int .i64) w A1 t.length t) (hc1 : t.length ≤ c1) (hz : exam zs t = 0) :
    Calls Try.prog 34 #[.slice A zs.length c, .slice A1 t.length c1] w (AnsOut (sepAns zs t) w) := by
  obtain ⟨h64, hm64, hG, hf⟩ := exam_zero hz
  have HX := Aside0.mk (exam_calls A c zs A1 c1 t (w.alloc (Obj.cells #[Value.int IntKind.i64 0] 28)) (Kd.C_below hC (below_alloc (Below.refl _ _) _)) hc (Kd.C_below hC1 (below_alloc (Below.refl _ _) _)) hc1)
  rw [hz] at HX
  have HC := Aside0.mk hC
  have HC1 := Aside0.mk hC1
  have hRed := red_rows hG
  have ea : sepAns zs t = (match separateP zs t with | some y => (y, true, 0) | none => ([], false, 0)) := by unfold sepAns; rw [if_neg (fun h => h hz)]
  rw [ea]
  have HSF := Aside0.mk (fun (c : Nat) (x : List Int) => sep_first (zs := zs) (t := t) (c := c) (w := x))
  have HSN := Aside0.mk (sep_none (zs := zs) (t := t))
  have HCU := Aside0.mk (fun w hC => copyU A c zs t.length w hC hc h64 hm64 hG)
  have HRU := Aside0.mk (fun A7 c7 n0 w h0 h1 => redU A7 c7 zs t.length n0 w h64 hm64 hG h0 h1)
  have HGW := Aside0.mk hG
  have HF := Aside0.mk hf
  clear hC hC1 ea hz hG hf
  generalize gj zs t.length = st at *
  obtain ⟨rs, hrs⟩ : ∃ rs, rs = (match separateP zs t with | some y => (y, true, (0 : Int)) | none => ([], false, 0)) := ⟨_, rfl⟩
  rw [← hrs]
  have HRS := Aside0.mk hrs
  have HRED := Aside0.mk hRed
  have hple : st.2.length ≤ zs.length := hRed.shape.le
  have HPL := Aside0.mk (fun (k : Nat) (h : k < st.2.length) => hRed.shape.lt k h)
  have hT1 : st.1.length = zs.length := hRed.good.len
  have HT1 := Aside0.mk hT1
  have HTF := Aside0.mk (fun (i j : Nat) => hRed.good.at i j)
  clear hrs hRed hT1
  unfold AnsOut
  go_enter_defers Try.func34, Try.ntmps34
  go_wp2_with fail
  refine HX.out.mono ?_
  rintro e w2 ⟨h1, _, hb2⟩
  obtain ⟨v2, rfl⟩ := h1 rfl
  have HBX := Aside0.mk (blk_below (blk_new w (Obj.cells #[Value.int IntKind.i64 0] 28)) hb2)
  have HB2 := Aside0.mk (below_call (below_alloc (Below.refl w.heap.size w) (Obj.cells #[Value.int IntKind.i64 0] 28)) hb2)
  clear h1 hb2 HX
  go_wp2_with fail
  refine (HCU.out w2 (Kd.C_below HC.out HB2.out)).mono ?_
  rintro e w3 ⟨A7, c7, rfl, hot, hb3⟩
  have HOT := Aside0.mk hot
  have HBX3 := Aside0.mk (blk_below HBX.out hb3)
  have HB3 := Aside0.mk (below_call HB2.out hb3)
  have HSZ3 := Aside0.mk hb3.size
  have HLT := Aside0.mk (blk_lt HBX.out)
  clear hot hb3 HBX HCU
  go_wp2_with fail
  refine (HRU.out A7 c7 w2.heap.size w3 HSZ3.out HOT.out).mono ?_
  rintro e w4 ⟨v4, rfl, hpv, hot, hb4⟩
  have HOT4 := Aside0.mk hot
  have HPV := Aside0.mk hpv
  have HBX4 := Aside0.mk ((hb4.block _ HLT.out).trans HBX3.out)
  have HB4 := Aside0.mk (HB3.out.trans (hb4.mono HB2.out.size))
  have HLW := Aside0.mk hb4.size
  obtain ⟨A9, c9, e9, hle9, hC9⟩ := Kd.R_reads hpv
  rw [List.length_map] at e9 hle9 hC9
  subst e9
  have HC9 := Aside0.mk hC9
  clear hpv hot hb4 hC9 HRU HOT HBX3 HC
  go_wp2_with fail
  go_loopw [29] (fun v29 wr => ∃ k : Nat, k ≤ t.length ∧ v29 = .int .i64 k ∧ Aside0 (∀ i, i < k → sepAt st t i = none) ∧ Aside0 (Below w4.heap.size w4 wr)) (fun v29 _ => t.length - (intOf v29).toNat)
  case atStart => exact ⟨0, Nat.zero_le _, rfl, ⟨fun i hi => absurd hi (Nat.not_lt_zero _)⟩, ⟨Below.refl _ _⟩⟩
  case round =>
    obtain ⟨cc, hk, rfl, HZ, HB⟩ := hrel
    by_cases hlt : cc < t.length
    · have hltz : (cc : Int) < (t.length : Int) := by omega
      have hct : cc < t.length := hlt
      obtain ⟨ta, rfl, HTA⟩ := at_ints HC1.out (Nat.zero_lt_of_lt hlt)
      by_cases hin : cc ∈ st.2
      · have HNX := Aside0.mk (show ∀ i, i < cc + 1 → sepAt st t i = none from fun i hi => by
          by_cases h : i < cc
          · exact HZ.out i h
          · obtain rfl : i = cc := by omega
            unfold sepAt; rw [if_pos hin])
        have HCR := Aside0.mk (contains_run (p := st.2) (c := cc) (by omega))
        rw [decide_eq_true hin] at HCR
        clear hin
        go_wp2_with fail
        have hlm : (st.2.map Int.ofNat).length = st.2.length := List.length_map _
        rw [← hlm]
        refine (slices_Contains_int_int.calls _ A9 c9 (st.2.map Int.ofNat) cc _ wr (by rw [List.length_map]; exact Kd.C_below HC9.out HB.out) (by rw [List.length_map]; exact hle9) HCR.out).mono ?_
        rintro e w5 ⟨rfl, hd⟩
        have HB5 := Aside0.mk (below_call HB.out hd.below)
        clear hd
        go_wp2_with fail
        go_roundw
        case rel => exact ⟨cc + 1, by omega, by go_num, HNX, HB5⟩
        case measure => simp [intOf]; omega
      · have HCR := Aside0.mk (contains_run (p := st.2) (c := cc) (by omega))
        rw [decide_eq_false hin] at HCR
        have HIN := Aside0.mk hin
        clear hin
        go_wp2_with fail
        have hlm : (st.2.map Int.ofNat).length = st.2.length := List.length_map _
        rw [← hlm]
        refine (slices_Contains_int_int.calls _ A9 c9 (st.2.map Int.ofNat) cc _ wr (by rw [List.length_map]; exact Kd.C_below HC9.out HB.out) (by rw [List.length_map]; exact hle9) HCR.out).mono ?_
        rintro e w5 ⟨rfl, hd⟩
        rw [hlm]
        have HB5 := Aside0.mk (below_call HB.out hd.below).drew
        have HBW5 := Aside0.mk (HB4.out.trans ((below_call HB.out hd.below).mono HB4.out.size)).drew
        go_wp2_with fail
        rename_i K0 hK0
        refine wp_onlyN ?_
        obtain ⟨p0, hp0⟩ : ∃ p0, t.getD cc 0 = p0 := ⟨_, rfl⟩
        have HP0 := Aside0.mk hp0
        clear hp0
        refine start_ (n := 9) (S := fun w' => w'.cell? (ta.add cc) = some (.int .i64 p0)) (ds := []) (Array.replicate 9 false) (by kernel_rfl) rfl rfl (by rw [← HP0.out]; exact HTA.out _ HBW5.out cc hct) (fun hHeld => ?_)
        refine pure_ (i := 0) (N := some 35) (v := ?_) (a' := ?_) #[true, false, false, false, false, false, false, false, false] rfl rfl (by kernel_rfl) (fun _ _ _ h => h) (Or.inl ⟨by rfl, ?_⟩) ?_ ?_
        rotate_left
        · intro w'
          go_simp
          with_reducible rfl
        rotate_left
        · simp only [Act.put, List.setIfInBounds_toArray, List.set_cons_zero, List.set_cons_succ, i64_w, i32_w]
          rfl
        refine pure_ (i := 1) (N := some 36) (v := ?_) (a' := ?_) #[true, true, false, false, false, false, false, false, false] rfl rfl (by kernel_rfl) (fun _ _ _ h => h) (Or.inl ⟨by rfl, ?_⟩) ?_ ?_
        rotate_left
        · intro w'
          go_simp
          with_reducible rfl
        rotate_left
        · simp only [Act.put, List.setIfInBounds_toArray, List.set_cons_zero, List.set_cons_succ, i64_w, i32_w]
          rfl
        refine pure_ (i := 3) (N := some 38) (v := ?_) (a' := ?_) #[true, true, false, true, false, false, false, false, false] rfl rfl (by kernel_rfl) (fun _ _ _ h => h) (Or.inl ⟨by rfl, ?_⟩) ?_ ?_
        rotate_left
        · intro w'
          go_simp
          with_reducible rfl
        rotate_left
        · simp only [Act.put, List.setIfInBounds_toArray, List.set_cons_zero, List.set_cons_succ, i64_w, i32_w]
          rfl
        refine pure_ (i := 4) (N := some 39) (v := ?_) (a' := ?_) #[true, true, false, true, true, false, false, false, false] rfl rfl (by kernel_rfl) (fun _ _ _ h => h) (Or.inl ⟨by rfl, ?_⟩) ?_ ?_
        rotate_left
        · intro w'
          go_simp
          with_reducible rfl
        rotate_left
        · simp only [Act.put, List.setIfInBounds_toArray, List.set_cons_zero, List.set_cons_succ, i64_w, i32_w]
          rfl
        refine pure_ (i := 5) (N := some 40) (v := ?_) (a' := ?_) #[true, true, false, true, true, true, false, false, false] rfl rfl (by kernel_rfl) (fun _ _ _ h => h) (Or.inl ⟨by rfl, ?_⟩) ?_ ?_
        rotate_left
        · intro w'
          go_simp
          with_reducible rfl
        rotate_left
        · simp only [Act.put, List.setIfInBounds_toArray, List.set_cons_zero, List.set_cons_succ, i64_w, i32_w]
          rfl
        refine take_ (i := 6) (N := some 41) (v := ?_) (a' := ?_) #[true, true, false, true, true, true, true, false, false] rfl rfl (by kernel_rfl) (fun _ _ _ h => h) (Or.inl ⟨by rfl, ?_⟩) hHeld ?_ ?_
        rotate_left
        · rintro w' s0
          go_simp
          with_reducible rfl
        rotate_left
        · simp only [Act.put, List.setIfInBounds_toArray, List.set_cons_zero, List.set_cons_succ, i64_w, i32_w]
          rfl
        refine one_ (i := 2) (N := some 37) #[true, true, true, true, true, true, true, false, false] rfl rfl (by kernel_rfl) (by decide) (fun K hK => ?_)
        refine Kd.R_make_step (Kd.int .i64) (w0 := w4) w4.heap.size 3 (by rfl) (N := 37) rfl 31 _ _ rfl (t.length : Int) rfl rfl Try.underlying31 (.int .i64 0) 8 info3 rfl (by decide) (by omega) 0 (ok := fun k => w4.heap.size ≤ k) (okp := fun k => w4.heap.size ≤ k) rfl (fun _ hk => hk) HB5.out.size (by omega) (by omega) HB5.out HB5.out.size ?_
        intro v6 w6 ho hb hg hnew_
        rw [Int.toNat_natCast] at ho
        obtain ⟨g, cap6, px6, e6, _, _, _, _, _⟩ := R_rowO ho (by rw [List.length_replicate]; omega)
        rw [List.length_replicate] at e6
        subst e6
        have HO := Aside0.mk ho
        have HB6 := Aside0.mk hb
        clear ho hb hg hnew_
        refine hK.out _ _ ((HTA.out w6 (HB4.out.trans (HB6.out.mono HB4.out.size)) cc hct).trans (by rw [HP0.out])) (fun hHeld => ?_)
        clear hK K
        refine norm_ (a' := ?_) ?_ ?_
        rotate_left
        · show Act.put _ (some 37) _ = _
          simp only [Act.put, List.setIfInBounds_toArray, List.set_cons_zero, List.set_cons_succ, i64_w, i32_w]
          rfl
        refine pure_ (i := 7) (N := some 10) (v := ?_) (a' := ?_) #[true, true, true, true, true, true, true, true, false] rfl rfl (by kernel_rfl) (fun _ _ _ h => h) (Or.inl ⟨by rfl, ?_⟩) ?_ ?_
        rotate_left
        · intro w'
          go_simp
          with_reducible rfl
        rotate_left
        · simp only [Act.put, List.setIfInBounds_toArray, List.set_cons_zero, List.set_cons_succ, i64_w, i32_w]
          rfl
        refine pure_ (i := 8) (N := some 11) (v := ?_) (a' := ?_) #[true, true, true, true, true, true, true, true, true] rfl rfl (by kernel_rfl) (fun _ _ _ h => h) (Or.inl ⟨by rfl, ?_⟩) ?_ ?_
        rotate_left
        · intro w'
          go_simp
          with_reducible rfl
        rotate_left
        · simp only [Act.put, List.setIfInBounds_toArray, List.set_cons_zero, List.set_cons_succ, i64_w, i32_w]
          rfl
        refine done_ (by kernel_rfl) ?_
        refine hK0 _ _ ?_
        obtain ⟨px6, hrow6, hok6, _, _, hcp6⟩ := R_row HO.out (by omega)
        have q3 := rowO_cell hrow6 (j := cc) (by rw [List.length_replicate]; exact hct)
        have q4 := blk_frozen hrow6 cc
        have HPUT := Aside0.mk (Kd.R_putn (enc := fun x => .int .i64 x) (h1 := fun _ => rfl) HO.out (cc : Int) 1)
        rw [Int.toNat_natCast, ← wS_zero st] at HPUT
        have HOKG := Aside0.mk hok6
        have HB7 := Aside0.mk (HB6.out.setCell (p := ⟨g, cc, none⟩) hok6 (.int .i64 1))
        clear hrow6 hok6
        go_wp2_with fail
        have HPUT := Aside0.mk HPUT.out
        go_loopw [11, 47] (fun v11 v47 wr2 => ∃ k : Nat, k ≤ st.2.length ∧ v47 = .int .i64 k ∧ (∃ pr, v11 = .int .i64 pr ∧ Aside0 (prodS st t cc k = pr)) ∧
          Aside0 (Kd.R (Kd.int .i64) 3 wr2 w4.heap.size (fun k => w4.heap.size ≤ k) (.slice (some ⟨g, 0, none⟩) t.length cap6) (wS st t.length cc k)) ∧ Aside0 (Below w4.heap.size w4 wr2)) (fun _ v47 _ => st.2.length - (intOf v47).toNat)
        case atStart => exact ⟨0, Nat.zero_le _, rfl, ⟨_, rfl, ⟨HP0.out⟩⟩, HPUT, HB7⟩
        case round =>
          clear HPUT HB7 HO HB6 q3 q4 hHeld
          obtain ⟨k, hk2, rfl, ⟨pr, rfl, HPR⟩, HO, HB6⟩ := hrel
          by_cases hlt2 : k < st.2.length
          · have hltz2 : (k : Int) < (st.2.length : Int) := by omega
            obtain ⟨tb, hs1, b1, cp1, px1, rfl, hot⟩ := HOT4.out (by omega) (by omega)
            have HOT := Aside0.mk (hot.below (Below.mono HB6.out (Nat.le_refl _)))
            obtain ⟨pb, cap9, px9, e9, _, _, hlt9, hrow, _⟩ := R_rowO HPV.out (by rw [List.length_map]; omega)
            rw [List.length_map] at e9
            injection e9 with e9 _ e9c
            subst e9 e9c
            have hrow5 := blk_below hrow HB6.out
            have hcn : st.2.getD k 0 < t.length := HPL.out k hlt2
            have q0 := rowO_cell hrow5 (j := k) (by rw [List.length_map]; exact hlt2)
            rw [show (st.2.map Int.ofNat).getD k 0 = ((st.2.getD k 0 : Nat) : Int) by
              rw [List.getD_eq_getElem?_getD, List.getD_eq_getElem?_getD, List.getElem?_map, List.getElem?_eq_getElem hlt2]; rfl] at q0
            have q1 := HOT.out.cell (i := k) (by rw [HT1.out]; omega)
            have q2 := HOT.out.cell2 (i := k) (j := cc) (by rw [HT1.out]; omega) hct
            have HSU := Aside0.mk (wS_succ HRED.out hlt2 HIN.out)
            have HPS := Aside0.mk (show prodS st t cc (k + 1) = fadd pr (fmul ((-at2 st.1 k cc) % 1073741789) (t.getD (st.2.getD k 0) 0)) by rw [← HPR.out]; rfl)
            obtain ⟨x, hx⟩ : ∃ x, at2 st.1 k cc = x := ⟨_, rfl⟩
            have hxin := HTF.out k cc
            rw [hx] at q2 HSU HPS hxin
            obtain ⟨hx0, hx1⟩ := hxin
            obtain ⟨pp, hpp⟩ : ∃ pp, st.2.getD k 0 = pp := ⟨_, rfl⟩
            rw [hpp] at q0 HSU HPS hcn
            have hcz : (pp : Int) < (t.length : Int) := by omega
            clear hx hpp hrow hrow5 hot
            go_wp2_with fail
            refine (Mod_calls (-x) wr).mono ?_
            rintro e w7 ⟨rfl, hd⟩
            obtain ⟨xw, hxw⟩ : ∃ xw, (-x) % 1073741789 = xw := ⟨_, rfl⟩
            obtain ⟨xt, hxt⟩ : ∃ xt, t.getD pp 0 = xt := ⟨_, rfl⟩
            have HXT := Aside0.mk hxt
            rw [hxw] at HSU HPS
            rw [hxt] at HPS
            rw [hxw]
            have HO7 := Aside0.mk (Kd.R_below HO.out hd.below)
            have HB7 := Aside0.mk (below_call HB6.out hd.below)
            obtain ⟨px7, hrow7, hok7, _, _, hcp7⟩ := R_row HO7.out (by omega)
            have q5 := rowO_cell hrow7 (j := pp) (by rw [wS_len]; exact hcn)
            have q6 := blk_frozen hrow7 pp
            generalize (wS st t.length cc k).getD pp 0 = old at q5
            have HO8 := Aside0.mk (Kd.R_drew (Kd.R_putn (enc := fun x => .int .i64 x) (h1 := fun _ => rfl) HO7.out (pp : Int) xw))
            rw [Int.toNat_natCast, ← HSU.out] at HO8
            have HB8 := Aside0.mk (HB7.out.setCell (p := ⟨g, pp, none⟩) hok7 (.int .i64 xw)).drew
            obtain ⟨px8, hrow8, _, _, _, _⟩ := R_row HO8.out (by omega)
            have q7 := rowO_cell hrow8 (j := pp) (by rw [wS_len]; exact hcn)
            rw [HSU.out, List.getD_eq_getElem?_getD, List.getElem?_set_self (by rw [wS_len]; exact hcn)] at q7
            have Q7 := Aside0.mk q7
            clear hxw hxt hd hrow7 hok7 hrow8 q7 q0 q1 q2
            go_wp2_with fail
            refine wp_onlyN ?_
            refine start_ (n := 12) (S := fun w' => w'.cell? ⟨g, pp, none⟩ = some (.int .i64 xw) ∧ w'.cell? (ta.add pp) = some (.int .i64 xt)) (ds := []) (Array.replicate 12 false) (by kernel_rfl) rfl rfl ⟨Q7.out, by rw [← HXT.out]; exact HTA.out _ (HB4.out.trans (HB8.out.mono HB4.out.size)) pp hcn⟩ (fun hHeld => ?_)
            refine pure_ (i := 0) (N := some 64) (v := ?_) (a' := ?_) #[true, false, false, false, false, false, false, false, false, false, false, false] rfl rfl (by kernel_rfl) (fun _ _ _ h => h) (Or.inl ⟨by rfl, ?_⟩) ?_ ?_
            rotate_left
            · intro w'
              go_simp
              with_reducible rfl
            rotate_left
            · simp only [Act.put, List.setIfInBounds_toArray, List.set_cons_zero, List.set_cons_succ, i64_w, i32_w]
              rfl
            refine pure_ (i := 1) (N := some 65) (v := ?_) (a' := ?_) #[true, true, false, false, false, false, false, false, false, false, false, false] rfl rfl (by kernel_rfl) (fun _ _ _ h => h) (Or.inl ⟨by rfl, ?_⟩) ?_ ?_
            rotate_left
            · intro w'
              go_simp
              with_reducible rfl
            rotate_left
            · simp only [Act.put, List.setIfInBounds_toArray, List.set_cons_zero, List.set_cons_succ, i64_w, i32_w]
              rfl
            refine pure_ (i := 2) (N := some 66) (v := ?_) (a' := ?_) #[true, true, true, false, false, false, false, false, false, false, false, false] rfl rfl (by kernel_rfl) (fun _ _ _ h => h) (Or.inl ⟨by rfl, ?_⟩) ?_ ?_
            rotate_left
            · intro w'
              go_simp
              with_reducible rfl
            rotate_left
            · simp only [Act.put, List.setIfInBounds_toArray, List.set_cons_zero, List.set_cons_succ, i64_w, i32_w]
              rfl
            refine pure_ (i := 3) (N := some 67) (v := ?_) (a' := ?_) #[true, true, true, true, false, false, false, false, false, false, false, false] rfl rfl (by kernel_rfl) (fun _ _ _ h => h) (Or.inl ⟨by rfl, ?_⟩) ?_ ?_
            rotate_left
            · intro w'
              go_simp
              with_reducible rfl
            rotate_left
            · simp only [Act.put, List.setIfInBounds_toArray, List.set_cons_zero, List.set_cons_succ, i64_w, i32_w]
              rfl
            refine take_ (i := 4) (N := some 68) (v := ?_) (a' := ?_) #[true, true, true, true, true, false, false, false, false, false, false, false] rfl rfl (by kernel_rfl) (fun _ _ _ h => h) (Or.inl ⟨by rfl, ?_⟩) hHeld ?_ ?_
            rotate_left
            · rintro w' ⟨s0, s1⟩
              go_simp
              with_reducible rfl
            rotate_left
            · simp only [Act.put, List.setIfInBounds_toArray, List.set_cons_zero, List.set_cons_succ, i64_w, i32_w]
              rfl
            refine pure_ (i := 5) (N := some 69) (v := ?_) (a' := ?_) #[true, true, true, true, true, true, false, false, false, false, false, false] rfl rfl (by kernel_rfl) (fun _ _ _ h => h) (Or.inl ⟨by rfl, ?_⟩) ?_ ?_
            rotate_left
            · intro w'
              go_simp
              with_reducible rfl
            rotate_left
            · simp only [Act.put, List.setIfInBounds_toArray, List.set_cons_zero, List.set_cons_succ, i64_w, i32_w]
              rfl
            refine pure_ (i := 6) (N := some 70) (v := ?_) (a' := ?_) #[true, true, true, true, true, true, true, false, false, false, false, false] rfl rfl (by kernel_rfl) (fun _ _ _ h => h) (Or.inl ⟨by rfl, ?_⟩) ?_ ?_
            rotate_left
            · intro w'
              go_simp
              with_reducible rfl
            rotate_left
            · simp only [Act.put, List.setIfInBounds_toArray, List.set_cons_zero, List.set_cons_succ, i64_w, i32_w]
              rfl
            refine pure_ (i := 7) (N := some 71) (v := ?_) (a' := ?_) #[true, true, true, true, true, true, true, true, false, false, false, false] rfl rfl (by kernel_rfl) (fun _ _ _ h => h) (Or.inl ⟨by rfl, ?_⟩) ?_ ?_
            rotate_left
            · intro w'
              go_simp
              with_reducible rfl
            rotate_left
            · simp only [Act.put, List.setIfInBounds_toArray, List.set_cons_zero, List.set_cons_succ, i64_w, i32_w]
              rfl
            refine take_ (i := 8) (N := some 72) (v := ?_) (a' := ?_) #[true, true, true, true, true, true, true, true, true, false, false, false] rfl rfl (by kernel_rfl) (fun _ _ _ h => h) (Or.inl ⟨by rfl, ?_⟩) hHeld ?_ ?_
            rotate_left
            · rintro w' ⟨s0, s1⟩
              go_simp
              with_reducible rfl
            rotate_left
            · simp only [Act.put, List.setIfInBounds_toArray, List.set_cons_zero, List.set_cons_succ, i64_w, i32_w]
              rfl
            refine one_ (i := 9) (N := some 73) #[true, true, true, true, true, true, true, true, true, true, false, false] rfl rfl (by kernel_rfl) (by decide) (fun K hK => ?_)
            refine goes_ Try.func41 (by kernel_rfl) rfl #[.int .i64 xw, .int .i64 xt] (by rfl) rfl rfl (by (try simp only [List.map_toArray, List.map_cons, List.map_nil]); first | done | rfl) ?_
            with_reducible refine (Mul_calls xw xt _).mono ?_
            rintro e w9 ⟨rfl, hd⟩
            refine ⟨_, rfl, ?_⟩
            have HB9 := Aside0.mk (below_call HB8.out hd.below)
            have HO9 := Aside0.mk (Kd.R_below HO8.out hd.below)
            refine hK.out _ _ ⟨(pw_cell_below hd.below hHeld.1), (pw_cell_below hd.below hHeld.2)⟩ (fun hHeld => ?_)
            clear hd
            clear hK K
            refine norm_ (a' := ?_) ?_ ?_
            rotate_left
            · show Act.put _ (some 73) _ = _
              simp only [Act.put, List.setIfInBounds_toArray, List.set_cons_zero, List.set_cons_succ, i64_w, i32_w]
              rfl
            refine one_ (i := 10) (N := some 74) #[true, true, true, true, true, true, true, true, true, true, true, false] rfl rfl (by kernel_rfl) (by decide) (fun K hK => ?_)
            refine goes_ Try.func40 (by kernel_rfl) rfl #[.int .i64 pr, .int .i64 (fmul xw xt)] (by rfl) rfl rfl (by (try simp only [List.map_toArray, List.map_cons, List.map_nil]); first | done | rfl) ?_
            with_reducible refine (Add_calls pr (fmul xw xt) _).mono ?_
            rintro e w10 ⟨rfl, hd⟩
            refine ⟨_, rfl, ?_⟩
            have HB10 := Aside0.mk (below_call HB9.out hd)
            have HO10 := Aside0.mk (Kd.R_below HO9.out hd)
            refine hK.out _ _ ⟨(pw_cell_below hd hHeld.1), (pw_cell_below hd hHeld.2)⟩ (fun hHeld => ?_)
            clear hd
            clear hK K
            refine norm_ (a' := ?_) ?_ ?_
            rotate_left
            · show Act.put _ (some 74) _ = _
              simp only [Act.put, List.setIfInBounds_toArray, List.set_cons_zero, List.set_cons_succ, i64_w, i32_w]
              rfl
            refine pure_ (i := 11) (N := some 11) (v := ?_) (a' := ?_) #[true, true, true, true, true, true, true, true, true, true, true, true] rfl rfl (by kernel_rfl) (fun _ _ _ h => h) (Or.inl ⟨by rfl, ?_⟩) ?_ ?_
            rotate_left
            · intro w'
              go_simp
              with_reducible rfl
            rotate_left
            · simp only [Act.put, List.setIfInBounds_toArray, List.set_cons_zero, List.set_cons_succ, i64_w, i32_w]
              rfl
            refine done_ (by kernel_rfl) ?_
            unfold onlyN
            go_wp2_with fail
            go_roundw
            case rel => exact ⟨k + 1, by omega, by go_num, ⟨_, rfl, HPS⟩, HO10, HB10⟩
            case measure => simp [intOf]; omega
          · have hltz2 : ¬ (k : Int) < (st.2.length : Int) := by omega
            obtain rfl : k = st.2.length := by omega
            have HPR2 := Aside0.mk ((prodS_all HRED.out HF.out hct HIN.out).symm.trans HPR.out)
            have HPI := Aside0.mk (by have h := prodS_in st HF.out cc st.2.length; rw [HPR.out] at h; exact h : InF pr)
            have hlen := wS_len st t.length cc st.2.length
            rw [wS_all] at HO hlen
            obtain ⟨xs, hxs⟩ : ∃ xs, wOf st t.length cc = xs := ⟨_, rfl⟩
            have HSA := Aside0.mk (show sepAt st t cc = if pr = 0 then none else some (xs.map (fun x => fmul x (finv pr))) by
              unfold sepAt; rw [if_neg HIN.out, HPR2.out, hxs])
            rw [hxs] at HO hlen
            have HLN := Aside0.mk hlen
            clear hxs hlen hk2 hlt2
            by_cases hp0 : pr = 0
            · have HNX := Aside0.mk (show ∀ i, i < cc + 1 → sepAt st t i = none from fun i hi => by
                by_cases h : i < cc
                · exact HZ.out i h
                · obtain rfl : i = cc := by omega
                  rw [HSA.out, if_pos hp0])
              have hm0 : pr % 1073741789 = 0 := by rw [hp0]; rfl
              clear hp0
              go_wp2_with fail
              refine (inv_zero pr wr hm0).mono ?_
              rintro e w8 ⟨rfl, hd⟩
              have HB8 := Aside0.mk (below_call HB6.out hd.below)
              clear hd
              go_wp2_with fail
              go_roundw
              case rel => exact ⟨cc + 1, by omega, by go_num, HNX, HB8⟩
              case measure => simp [intOf]; omega
            · have hm0 : pr % 1073741789 ≠ 0 := by
                obtain ⟨h0, h1⟩ := HPI.out
                rw [Int.emod_eq_of_lt h0 h1]; exact hp0
              have hrs1 : rs = (xs.map (fun x => fmul x (finv pr)), true, 0) := by
                rw [HRS.out, HSF.out cc _ hct HZ.out (HSA.out.trans (if_neg hp0))]
              have HR1 := Aside0.mk hrs1
              clear hrs1 hp0
              go_wp2_with fail
              refine (inv_some pr wr hm0).mono ?_
              rintro e w8 ⟨rfl, hd⟩
              obtain ⟨nv, hnv⟩ : ∃ nv, finv pr = nv := ⟨_, rfl⟩
              rw [hnv] at HR1 ⊢
              have HB8 := Aside0.mk (below_call HB6.out hd.below)
              have HO8 := Aside0.mk (Kd.R_below HO.out hd.below)
              rw [← scS_zero xs nv] at HO8
              clear hd hnv hm0 HO
              go_wp2_with fail
              go_loopw [85] (fun v85 wr3 => ∃ k : Nat, k ≤ t.length ∧ v85 = .int .i64 k ∧
                Aside0 (Kd.R (Kd.int .i64) 3 wr3 w4.heap.size (fun k => w4.heap.size ≤ k) (.slice (some ⟨g, 0, none⟩) t.length cap6) (scS xs nv k)) ∧ Aside0 (Below w4.heap.size w4 wr3)) (fun v85 _ => t.length - (intOf v85).toNat)
              case atStart => exact ⟨0, Nat.zero_le _, rfl, HO8, HB8⟩
              case round =>
                clear HO8 HB8
                obtain ⟨k, hk3, rfl, HO8, HB8⟩ := hrel
                by_cases hlt3 : k < t.length
                · have hltz3 : (k : Int) < (t.length : Int) := by omega
                  obtain ⟨px8, hrow8, hok8, _, _, _⟩ := R_row HO8.out (by omega)
                  have q1 := rowO_cell hrow8 (j := k) (by rw [scS_len _ _ (by rw [HLN.out]; omega), HLN.out]; exact hlt3)
                  rw [scS_get _ _ (by rw [HLN.out]; exact hlt3)] at q1
                  have HSU := Aside0.mk (scS_succ xs nv (k := k) (by rw [HLN.out]; exact hlt3))
                  obtain ⟨x, hx⟩ : ∃ x, xs.getD k 0 = x := ⟨_, rfl⟩
                  rw [hx] at q1 HSU
                  have HOK8 := Aside0.mk hok8
                  clear hx hrow8 hok8
                  go_wp2_with fail
                  refine (Mul_calls x nv _).mono ?_
                  rintro e w9 ⟨rfl, hd⟩
                  obtain ⟨y, hy⟩ : ∃ y, fmul x nv = y := ⟨_, rfl⟩
                  rw [hy] at HSU ⊢
                  have HO9 := Aside0.mk (Kd.R_below HO8.out hd.below)
                  have HB9 := Aside0.mk (below_call HB8.out hd.below)
                  obtain ⟨px9, hrow9, _, _, _, _⟩ := R_row HO9.out (by omega)
                  have q5 := rowO_cell hrow9 (j := k) (by rw [scS_len _ _ (by rw [HLN.out]; omega), HLN.out]; exact hlt3)
                  have q6 := blk_frozen hrow9 k
                  generalize (scS xs nv k).getD k 0 = old at q5
                  have HPUT := Aside0.mk (Kd.R_putn (enc := fun x => .int .i64 x) (h1 := fun _ => rfl) HO9.out (k : Int) y)
                  rw [Int.toNat_natCast, ← HSU.out] at HPUT
                  clear hy hrow9 hd q1
                  go_wp2_with fail
                  go_roundw
                  case rel => exact ⟨k + 1, by omega, by go_num, HPUT, ⟨HB9.out.setCell (p := ⟨g, k, none⟩) HOK8.out _⟩⟩
                  case measure => simp [intOf]; omega
                · have hltz3 : ¬ (k : Int) < (t.length : Int) := by omega
                  obtain rfl : k = t.length := by omega
                  have hbx := blk_below HBX4.out HB8.out
                  have hc4 := (blk_cell hbx 0).trans rfl
                  have hf4 := blk_frozen hbx 0
                  have hRf := Kd.R_mono (ok' := fun _ => True) (Kd.R_lower (HO8.out) HB4.out.size) (fun _ _ => trivial)
                  rw [← HLN.out, scS_all] at hRf
                  have HRF := Aside0.mk hRf
                  clear hRf
                  go_wp2_with fail
                  refine leaves_cons (f := 72) (args := #[.pointer (some ⟨w.heap.size, 0, none⟩)]) (by simp) (by simp [go_sem]) ?_
                  refine (caught_idle ⟨w.heap.size, 0, none⟩ _).mono ?_
                  rintro e u' w'' ⟨⟨v3, rfl⟩, rfl, rfl⟩
                  have hc5 := (blk_cell (blk_set hbx 0 (.int .i64 0)) 0).trans rfl
                  simp [Leaves, settle, results, Try.results34, go_sem, hc5, HR1.out]
                  rw [HLN.out] at HRF
                  exact ⟨Kd.R_mono (Kd.R_set HRF.out hbx (by decide) 0 _) (fun _ _ => trivial), (HB4.out.trans (HB8.out.mono HB4.out.size)).setCell (p := ⟨w.heap.size, 0, none⟩) (Nat.le_refl _) _⟩
    · have hltz : ¬ (cc : Int) < (t.length : Int) := by omega
      obtain rfl : cc = t.length := by omega
      have hrs0 : rs = ([], false, 0) := by rw [HRS.out, HSN.out HZ.out]
      have hbx := blk_below HBX4.out HB.out
      have hc4 := (blk_cell hbx 0).trans rfl
      have hf4 := blk_frozen hbx 0
      go_wp2_with fail
      refine leaves_cons (f := 72) (args := #[.pointer (some ⟨w.heap.size, 0, none⟩)]) (by simp) (by simp [go_sem]) ?_
      refine (caught_idle ⟨w.heap.size, 0, none⟩ _).mono ?_
      rintro e u' w'' ⟨⟨v3, rfl⟩, rfl, rfl⟩
      have hc5 := (blk_cell (blk_set hbx 0 (.int .i64 0)) 0).trans rfl
      simp [Leaves, settle, results, Try.results34, go_sem, hc5, hrs0]
      exact ⟨Kd.R_nil _ _ _ _ _, (HB4.out.trans (HB.out.mono HB4.out.size)).setCell (p := ⟨w.heap.size, 0, none⟩) (Nat.le_refl _) _⟩
theorem Separate_calls (A : Option Addr) (c : Nat) (zs : List (List Int)) (A1 : Option Addr) (c1 : Nat) (t : List Int) (w : World) (hC : Kd.C kRows w A zs.length zs) (hc : zs.length ≤ c) (hC1 : Kd.C (Kd.int .i64) w A1 t.length t) (hc1 : t.length ≤ c1) :
    Calls Try.prog 34 #[.slice A zs.length c, .slice A1 t.length c1] w (AnsOut (sepAns zs t) w) := by
  by_cases hz : exam zs t = 0
  · exact Separate_yes A c zs A1 c1 t w hC hc hC1 hc1 hz
  · exact Separate_no A c zs A1 c1 t w hC hc hC1 hc1 hz
end Go.Proofs.Ytipdpfnjobfbpaa.H


/- linear.Check, Rank, Combine and Separate, in the form in which their callers take them. -/
namespace Go.Proofs.Ytipdpfnjobfbpaa.P
open Go.RowKit Go.Shelf Go.Proofs.YtipdpfnjobfbpaaW.PrintWords Go.Proofs.YtipdpfnjobfbpaaW.PrintLast Go.Proofs.YtipdpfnjobfbpaaW.PrintMore
set_option linter.unusedVariables false

def linear_Check.f (l0 : List (List Int)) : Option Int := some (H.checkP l0)
theorem linear_Check.calls (A0 : Option Addr) (c0 : Nat) (l0 : List (List Int)) (r : Int) (w : World) (hr0 : Kd.C (Kd.slice 3 (Kd.int .i64)) w A0 l0.length l0) (hc0 : l0.length ≤ c0) (h : linear_Check.f l0 = some r) :
    Calls Try.prog 30 #[.slice A0 l0.length c0] w fun e w' => e = .returned (.int .i64 r) ∧ Below w.heap.size w w' := by
  cases h
  exact H.Check_calls A0 c0 l0 w hr0 hc0
def linear_Rank.f (l0 : List (List Int)) : Option (Int × Int) := some (H.rankAns l0)
theorem linear_Rank.calls (A0 : Option Addr) (c0 : Nat) (l0 : List (List Int)) (r1 : Int) (r2 : Int) (w : World) (hr0 : Kd.C (Kd.slice 3 (Kd.int .i64)) w A0 l0.length l0) (hc0 : l0.length ≤ c0) (h : linear_Rank.f l0 = some (r1, r2)) :
    Calls Try.prog 28 #[.slice A0 l0.length c0] w fun e w' => e = .returned (.tuple #[.int .i64 r1, .int .i64 r2]) ∧ Below w.heap.size w w' := by
  have h2 : H.rankAns l0 = (r1, r2) := Option.some.inj h
  have := H.Rank_calls A0 c0 l0 w hr0 hc0
  rw [h2] at this
  exact this
def linear_Combine.f (l0 : List (List Int)) (l1 : List Int) : Option (List Int × Bool × Int) := some (H.combAns l0 l1)
theorem linear_Combine.calls (A0 : Option Addr) (c0 : Nat) (l0 : List (List Int)) (A1 : Option Addr) (c1 : Nat) (l1 : List Int) (r1 : List Int) (r2 : Bool) (r3 : Int) (w : World) (hr0 : Kd.C (Kd.slice 3 (Kd.int .i64)) w A0 l0.length l0) (hc0 : l0.length ≤ c0) (hr1 : Kd.C (Kd.int .i64) w A1 l1.length l1) (hc1 : l1.length ≤ c1) (h : linear_Combine.f l0 l1 = some (r1, r2, r3)) :
    Calls Try.prog 32 #[.slice A0 l0.length c0, .slice A1 l1.length c1] w fun e w' => ∃ v0_ : Value, e = .returned (.tuple #[v0_, .bool r2, .int .i64 r3]) ∧ Kd.R (Kd.int .i64) 3 w' w.heap.size (fun _ => True) v0_ r1 ∧ Below w.heap.size w w' := by
  have h2 : H.combAns l0 l1 = (r1, r2, r3) := Option.some.inj h
  have := H.Combine_calls A0 c0 l0 A1 c1 l1 w hr0 hc0 hr1 hc1
  rw [h2] at this
  exact this
def linear_Separate.f (l0 : List (List Int)) (l1 : List Int) : Option (List Int × Bool × Int) := some (H.sepAns l0 l1)
theorem linear_Separate.calls (A0 : Option Addr) (c0 : Nat) (l0 : List (List Int)) (A1 : Option Addr) (c1 : Nat) (l1 : List Int) (r1 : List Int) (r2 : Bool) (r3 : Int) (w : World) (hr0 : Kd.C (Kd.slice 3 (Kd.int .i64)) w A0 l0.length l0) (hc0 : l0.length ≤ c0) (hr1 : Kd.C (Kd.int .i64) w A1 l1.length l1) (hc1 : l1.length ≤ c1) (h : linear_Separate.f l0 l1 = some (r1, r2, r3)) :
    Calls Try.prog 34 #[.slice A0 l0.length c0, .slice A1 l1.length c1] w fun e w' => ∃ v0_ : Value, e = .returned (.tuple #[v0_, .bool r2, .int .i64 r3]) ∧ Kd.R (Kd.int .i64) 3 w' w.heap.size (fun _ => True) v0_ r1 ∧ Below w.heap.size w w' := by
  have h2 : H.sepAns l0 l1 = (r1, r2, r3) := Option.some.inj h
  have := H.Separate_calls A0 c0 l0 A1 c1 l1 w hr0 hc0 hr1 hc1
  rw [h2] at this
  exact this
end Go.Proofs.Ytipdpfnjobfbpaa.P


