/- signatoryref13.Combine. -/
import Derived.Test.YtipdpfnjobfbpaaMRed
namespace Go.Proofs.Ytipdpfnjobfbpaa.H
open Go.RowKit Go.Shelf Go.Proofs.YtipdpfnjobfbpaaW.PrintWords Go.Proofs.YtipdpfnjobfbpaaW.PrintLast Go.Proofs.YtipdpfnjobfbpaaW.PrintMore Go.Proofs.Ytipdpfnjobfbpaa.P SG SG.Lin
set_option linter.unusedVariables false
set_option linter.unusedSimpArgs false
theorem turned13_inner {zs : List (List Int)} {m : Nat} (hm : m ≤ 64) (hn : zs.length ≤ 64) (hw : ∀ x, x ∈ zs → x.length = m) (a1 : Int) (x5 : List (List Int)) (h5 : x5.length ≤ 64) {c : Nat} (hc : c < m) : ∀ (d i k : Nat), i + d = zs.length → d < k →
    ∃ k', k = k' + d + 1 ∧ signatoryref13_Turned.l1 k zs a1 x5 (c : Int) ((zs.take i).map fun x => x.getD c 0) (i : Int) =
      signatoryref13_Turned.l0 k' zs a1 (x5 ++ [zs.map fun x => x.getD c 0]) ((c + 1 : Nat) : Int) := by
  intro d
  induction d with
  | zero =>
    intro i k hi hk
    obtain ⟨k, rfl⟩ : ∃ q, k = q + 1 := ⟨k - 1, by omega⟩
    refine ⟨k, rfl, ?_⟩
    obtain rfl : i = zs.length := by omega
    unfold signatoryref13_Turned.l1
    rw [if_neg (by omega), if_pos (by omega), List.take_length, wrap_nat (by omega)]
  | succ d ih =>
    intro i k hi hk
    obtain ⟨k, rfl⟩ : ∃ q, k = q + 1 := ⟨k - 1, by omega⟩
    have hil : i < zs.length := by omega
    have hx := hw _ (getD_mem (d := []) hil)
    obtain ⟨k', e, h⟩ := ih (i + 1) k (by omega) (by omega)
    refine ⟨k', by omega, ?_⟩
    rw [← h]
    conv => lhs; unfold signatoryref13_Turned.l1
    unfold rd_L2 rd
    rw [Int.toNat_natCast, Int.toNat_natCast, if_pos (by omega), if_pos (by omega), if_pos (by omega), if_pos (by omega), if_pos (by rw [List.length_map, List.length_take]; omega), wrap_nat (by omega), List.take_add_one, List.getElem?_eq_getElem hil, List.map_append, List.getD_eq_getElem?_getD (l := zs), List.getElem?_eq_getElem hil]
    rfl
theorem turned13_outer {zs : List (List Int)} {m : Nat} (hm : m ≤ 64) (hn : zs.length ≤ 64) (hw : ∀ x, x ∈ zs → x.length = m) : ∀ (d c k : Nat), c + d = m → d * (zs.length + 2) + 1 ≤ k →
    signatoryref13_Turned.l0 k zs (m : Int) ((colsP zs m).take c) (c : Int) = some (colsP zs m) := by
  intro d
  have hlen : (colsP zs m).length = m := by simp [colsP]
  induction d with
  | zero =>
    intro c k hc hk
    obtain ⟨k, rfl⟩ : ∃ q, k = q + 1 := ⟨k - 1, by omega⟩
    unfold signatoryref13_Turned.l0
    rw [if_neg (by omega), List.take_of_length_le (by omega)]
  | succ d ih =>
    intro c k hc hk
    obtain ⟨k, rfl⟩ : ∃ q, k = q + 1 := ⟨k - 1, by omega⟩
    rw [Nat.succ_mul] at hk
    obtain ⟨k', e, h⟩ := turned13_inner hm hn hw (m : Int) ((colsP zs m).take c) (by rw [List.length_take]; omega) (show c < m by omega) zs.length 0 k (by omega) (by omega)
    rw [List.take_zero, List.map_nil, show ((0 : Nat) : Int) = 0 from rfl] at h
    unfold signatoryref13_Turned.l0
    rw [if_pos (by omega), h]
    have e2 : (colsP zs m).take c ++ [zs.map fun x => x.getD c 0] = (colsP zs m).take (c + 1) := by
      rw [List.take_add_one, List.getElem?_eq_getElem (by omega)]
      unfold colsP
      simp
    rw [e2]
    exact ih (c + 1) k' (by omega) (by omega)
theorem turned13_run {zs : List (List Int)} {m : Nat} (hm : m ≤ 64) (hn : zs.length ≤ 64) (hw : ∀ x, x ∈ zs → x.length = m) : signatoryref13_Turned.f (64 * 66 + 1) zs (m : Int) = some (colsP zs m) := by
  unfold signatoryref13_Turned.f
  have := turned13_outer hm hn hw m 0 (64 * 66 + 1) (by omega) (by
    have : m * (zs.length + 2) ≤ 64 * 66 := Nat.mul_le_mul (by omega) (by omega)
    omega)
  rw [List.take_zero] at this
  exact this
/-- Columns, the first k of them with what stands in the target behind them. -/
def mixP (zs : List (List Int)) (t : List Int) (k : Nat) : List (List Int) := t.mapIdx fun j n => if j < k then zs.map (fun x => x.getD j 0) ++ [n] else zs.map fun x => x.getD j 0
theorem mixP_len (zs : List (List Int)) (t : List Int) (k : Nat) : (mixP zs t k).length = t.length := List.length_mapIdx
theorem mixP_zero (zs : List (List Int)) (t : List Int) : mixP zs t 0 = colsP zs t.length := by
  unfold mixP colsP
  apply List.ext_getElem
  · simp
  · intro i h1 h2; simp
theorem mixP_all (zs : List (List Int)) (t : List Int) : mixP zs t t.length = turnedP zs t := by
  unfold mixP turnedP
  apply List.ext_getElem
  · simp
  · intro i h1 h2
    rw [List.length_mapIdx] at h1
    rw [List.getElem_mapIdx, List.getElem_mapIdx, if_pos h1]
theorem mixP_at (zs : List (List Int)) (t : List Int) {k : Nat} (hk : k < t.length) : (mixP zs t k).getD k [] = zs.map fun x => x.getD k 0 := by
  unfold mixP
  rw [getD_mapIdx _ _ _ _ 0 hk, if_neg (Nat.lt_irrefl k)]
theorem mixP_succ (zs : List (List Int)) (t : List Int) {k : Nat} (hk : k < t.length) : (mixP zs t k).set k ((mixP zs t k).getD k [] ++ [t.getD k 0]) = mixP zs t (k + 1) := by
  rw [mixP_at _ _ hk]
  unfold mixP
  apply List.ext_getElem
  · simp
  · intro j h1 h2
    rw [List.getElem_set, List.getElem_mapIdx, List.getElem_mapIdx]
    by_cases e : k = j
    · subst e
      rw [if_pos rfl, if_pos (by omega), List.getD_eq_getElem?_getD (l := t), List.getElem?_eq_getElem hk]; rfl
    · rw [if_neg e]
      by_cases h3 : j < k
      · rw [if_pos h3, if_pos (by omega)]
      · rw [if_neg h3, if_neg (by omega)]
theorem ReducedN (A : Option Addr) (cA : Nat) (zs : List (List Int)) {N : Nat} (hNe : zs.length = N) (L many : Nat) (w : World) (hC : Kd.C kRows w A zs.length zs) (hcA : N ≤ cA) (hG : SG.Lin.Good zs zs.length L) (hmL : many ≤ L) (hL : L ≤ 1000) (hN : N ≤ 1000) :
    Calls Try.prog 71 #[.slice A N cA, .int .i64 many] w (RedOut (gj zs many) w) := by
  subst hNe
  exact Reduced_calls A cA zs L many w hC hcA hG hmL hL hN
def coT.T8 : Bool × List (List Nat × List Nat) := (true, [([], []), ([], []), ([], []), ([], []), ([2, 3], [2, 3]), ([4], [4]), ([], []), ([], []), ([6, 7], [6, 7]), ([8], [8]), ([9], [9]), ([5, 10], [5, 10]), ([0, 1, 0, 1, 2, 3, 4, 5, 6, 7, 8, 9, 10, 11], [0, 1]), ([12, 11, 11, 0, 1, 2, 3, 4, 5, 6, 7, 8, 9, 10, 11], [11, 12])])
def coT.B8 : List Nat := [0, 0, 0, 0, 12, 28, 0, 0, 192, 448, 960, 2044, 4095, 8191]
theorem coT.tab8 : rtab .any (opsOf Try.f33 8) = coT.T8 := by kernel_rfl
theorem coT.bits8 : waitsOk coT.T8.2 coT.B8 = true := by kernel_rfl
def coT.T19 : Bool × List (List Nat × List Nat) := (true, [([], []), ([], []), ([], []), ([1, 2], [1, 2]), ([3], [3]), ([], []), ([], []), ([5, 6], [5, 6]), ([7], [7]), ([], []), ([9], [9]), ([8, 10], [8, 10]), ([11], [11]), ([0, 4, 0, 1, 2, 3, 4, 5, 6, 7, 8, 9, 10, 11, 12], [0, 4]), ([13, 12, 0, 1, 2, 3, 4, 5, 6, 7, 8, 9, 10, 11, 12], [12, 13])])
def coT.B19 : List Nat := [0, 0, 0, 6, 14, 0, 0, 96, 224, 0, 512, 2016, 4064, 8191, 16383]
theorem coT.tab19 : rtab .any (opsOf Try.f33 19) = coT.T19 := by kernel_rfl
theorem coT.bits19 : waitsOk coT.T19.2 coT.B19 = true := by kernel_rfl
set_option maxRecDepth 100000 in
set_option maxHeartbeats 2000000 in
theorem rCombine_calls (A : Option Addr) (c : Nat) (zs : List (List Int)) (A1 : Option Addr) (c1 : Nat) (t : List Int) (w : World) (hC : Kd.C kRows w A zs.length zs) (hc : zs.length ≤ c) (hC1 : Kd.C (Kd.int .i64) w A1 t.length t) (hc1 : t.length ≤ c1) :
    Calls Try.prog 33 #[.slice A zs.length c, .slice A1 t.length c1] w (AnsOut (combAns zs t) w) := by
  have HC := Aside0.mk hC
  have HC1 := Aside0.mk hC1
  have HER := Aside0.mk ((error_run zs t 301 (by omega)).trans (congrArg some (err_exam zs t).symm))
  clear hC hC1
  by_cases hz : exam zs t = 0
  · obtain ⟨h64, hm64, hG, hf⟩ := exam_zero hz
    have hTG := turned_good hG rfl hf
    have HTRN := Aside0.mk (turned13_run (m := t.length) hm64 h64 hG.wide)
    have hRed := gj_red hTG zs.length (by omega)
    have ea : combAns zs t = (match combineP zs t with | some y => (y, true, 0) | none => ([], false, 0)) := by unfold combAns; rw [if_neg (fun h => h hz)]; cases combineP zs t <;> rfl
    have hcp : combineP zs t = if ((gj (turnedP zs t) zs.length).1.drop (gj (turnedP zs t) zs.length).2.length).all (fun x => x.getD zs.length 0 == 0) = true then some (solved (gj (turnedP zs t) zs.length) zs.length) else none := rfl
    rw [ea, hcp]
    rw [hz] at HER
    have hTlen := hTG.len
    have HTL := Aside0.mk hTlen
    have HTG := Aside0.mk (show SG.Lin.Good (turnedP zs t) (turnedP zs t).length (zs.length + 1) by rw [hTlen]; exact hTG)
    clear ea hcp hz hTG hG hf hTlen
    generalize hst : gj (turnedP zs t) zs.length = st at *
    have HST := Aside0.mk hst
    obtain ⟨rs, hrs⟩ : ∃ rs, rs = (match (if (st.1.drop st.2.length).all (fun x => x.getD zs.length 0 == 0) = true then some (solved st zs.length) else none : Option (List Int)) with | some y => (y, true, (0 : Int)) | none => ([], false, 0)) := ⟨_, rfl⟩
    rw [← hrs]
    have HRS := Aside0.mk hrs
    have HRED := Aside0.mk hRed
    clear hst hrs hRed
    unfold AnsOut
    go_enter Try.func33, Try.ntmps33
    go_wp2_with fail
    refine (signatoryref13_Error.calls 301 A c zs A1 c1 t 0 w HC.out hc HC1.out hc1 HER.out).mono ?_
    rintro e w1 ⟨rfl, hb1⟩
    have HB1 := Aside0.mk hb1.below
    clear hb1
    go_wp2_with fail
    refine (signatoryref13_Turned.calls _ A c zs (t.length : Int) _ w1 (Kd.C_below HC.out HB1.out) hc HTRN.out).mono ?_
    rintro e w2 ⟨v8, rfl, hS, hb2⟩
    obtain ⟨A8, cp8, e8⟩ := Kd.S_slice hS
    have hcl : (colsP zs t.length).length = t.length := by simp [colsP]
    rw [hcl] at e8
    subst e8
    have HB2 := Aside0.mk (below_call HB1.out hb2)
    have HS2 := Aside0.mk (Kd.S_lower (base' := w.heap.size) hS HB1.out.size)
    rw [← mixP_zero] at HS2
    clear hS hb2 hcl
    go_wp2_with fail
    go_loopw [9] (fun v9 wr => ∃ k : Nat, k ≤ t.length ∧ v9 = .int .i64 k ∧ Aside0 (Kd.S kRows 31 wr w.heap.size (fun _ => True) (.slice A8 t.length cp8) (mixP zs t k)) ∧ Aside0 (Below w.heap.size w wr)) (fun v9 _ => t.length - (intOf v9).toNat)
    case atStart => exact ⟨0, Nat.zero_le _, rfl, HS2, HB2⟩
    case round =>
      clear HS2 HB2
      obtain ⟨k, hk, rfl, HS, HB⟩ := hrel
      by_cases hlt : k < t.length
      · have hltz : (k : Int) < (t.length : Int) := by omega
        have hmx := mixP_at zs t hlt
        obtain ⟨x, hx⟩ : ∃ x, (mixP zs t k).getD k [] = x := ⟨_, rfl⟩
        have hxl : x.length = zs.length := by rw [← hx, hmx, List.length_map]
        have HXS := Aside0.mk (mixP_succ zs t hlt)
        rw [hx] at HXS
        obtain ⟨adt, rfl, hwt⟩ := at_int HC1.out (Below.refl _ _) k hlt
        have HWT := Aside0.mk hwt
        have HSD := Aside0.mk (Kd.S_drew HS.out)
        have HBD := Aside0.mk (below_drew1 HB.out)
        clear HS HB hmx hwt
        obtain ⟨go, co, eo, gob, gol, cl, hgo⟩ := Kd.S_form HSD.out (by rw [mixP_len]; omega)
        rw [mixP_len] at eo
        injection eo with eo _ eoc
        subst eo eoc
        obtain ⟨oki, ce, hcl, hM, hcc, hfr, hoki, hH⟩ := Kd.S_elem HSD.out [] (k : Int) (by omega) (by omega)
        rw [Int.toNat_natCast] at hM
        rw [hx] at hM
        obtain ⟨ve, rfl, ge⟩ := hM
        have hX := hcc 0 _ rfl
        rw [Nat.add_zero, show kRows.sz = 1 from rfl, Nat.mul_one, Int.toNat_natCast] at hX
        obtain ⟨Av, cv, ev⟩ := Kd.R_slice ge
        subst ev
        have HGE := Aside0.mk (show Kd.R (Kd.int .i64) 3 wr.drew w.heap.size oki (.slice Av x.length cv) x from ge)
        have HOI := Aside0.mk hoki
        have HH := Aside0.mk hH
        have HX := Aside0.mk hX
        have HGO := Aside0.mk gob
        have hlr : x.length ≤ 64 := by omega
        obtain ⟨tv, htv⟩ : ∃ v, t.getD k 0 = v := ⟨_, rfl⟩
        rw [htv] at HWT HXS
        clear hcl hcc hfr hoki hH ge hgo gol hX hx hxl htv
        go_wp2_with fail
        refine wp_onlyN ?_
        refine start_ (n := 14) (S := fun w' => w'.cell? ⟨go, k, none⟩ = some (.slice Av x.length cv) ∧ w'.cell? (adt.add k) = some (.int .i64 tv)) (ds := [13]) (Array.replicate 14 false) (by kernel_rfl) rfl rfl ⟨HX.out, (HBD.out.cell (World.block_lt_of_cell? w _ HWT.out)).trans HWT.out⟩ (fun hHeld => ?_)
        generalize wr.drew = w18 at *
        refine with_tabW coT.tab8 coT.bits8 (fun HT_ HW_ => ?_)
        refine pure_ (i := 0) (N := some 30) (v := ?_) (a' := ?_) #[true, false, false, false, false, false, false, false, false, false, false, false, false, false] rfl rfl (any_of HT_.out (by kernel_rfl)) (fun _ _ _ h => h) (Or.inl ⟨by rfl, ?_⟩) ?_ ?_
        rotate_left
        · intro w'
          go_simp
          with_reducible rfl
        rotate_left
        · simp only [Act.put, List.setIfInBounds_toArray, List.set_cons_zero, List.set_cons_succ, i64_w, i32_w]
          rfl
        refine pure_ (i := 1) (N := some 31) (v := ?_) (a' := ?_) #[true, true, false, false, false, false, false, false, false, false, false, false, false, false] rfl rfl (any_of HT_.out (by kernel_rfl)) (fun _ _ _ h => h) (Or.inl ⟨by rfl, ?_⟩) ?_ ?_
        rotate_left
        · intro w'
          go_simp
          with_reducible rfl
        rotate_left
        · simp only [Act.put, List.setIfInBounds_toArray, List.set_cons_zero, List.set_cons_succ, i64_w, i32_w]
          rfl
        refine pure_ (i := 2) (N := some 32) (v := ?_) (a' := ?_) #[true, true, true, false, false, false, false, false, false, false, false, false, false, false] rfl rfl (any_of HT_.out (by kernel_rfl)) (fun _ _ _ h => h) (Or.inl ⟨by rfl, ?_⟩) ?_ ?_
        rotate_left
        · intro w'
          go_simp
          with_reducible rfl
        rotate_left
        · simp only [Act.put, List.setIfInBounds_toArray, List.set_cons_zero, List.set_cons_succ, i64_w, i32_w]
          rfl
        refine pure_ (i := 3) (N := some 33) (v := ?_) (a' := ?_) #[true, true, true, true, false, false, false, false, false, false, false, false, false, false] rfl rfl (any_of HT_.out (by kernel_rfl)) (fun _ _ _ h => h) (Or.inl ⟨by rfl, ?_⟩) ?_ ?_
        rotate_left
        · intro w'
          go_simp
          with_reducible rfl
        rotate_left
        · simp only [Act.put, List.setIfInBounds_toArray, List.set_cons_zero, List.set_cons_succ, i64_w, i32_w]
          rfl
        refine pure_ (i := 4) (N := some 34) (v := ?_) (a' := ?_) #[true, true, true, true, true, false, false, false, false, false, false, false, false, false] rfl rfl (any_of HT_.out (by kernel_rfl)) (fun _ _ _ h => h) (Or.inl ⟨by rfl, ?_⟩) ?_ ?_
        rotate_left
        · intro w'
          go_simp
          with_reducible rfl
        rotate_left
        · simp only [Act.put, List.setIfInBounds_toArray, List.set_cons_zero, List.set_cons_succ, i64_w, i32_w]
          rfl
        refine take_ (i := 5) (N := some 35) (v := ?_) (a' := ?_) #[true, true, true, true, true, true, false, false, false, false, false, false, false, false] rfl rfl (take_ofW HT_.out HW_.out (by kernel_rfl)) (fun _ _ _ h => h) (Or.inl ⟨by rfl, ?_⟩) hHeld ?_ ?_
        rotate_left
        · rintro w' ⟨s0, s1⟩
          go_simp
          with_reducible rfl
        rotate_left
        · simp only [Act.put, List.setIfInBounds_toArray, List.set_cons_zero, List.set_cons_succ, i64_w, i32_w]
          rfl
        refine pure_ (i := 6) (N := some 36) (v := ?_) (a' := ?_) #[true, true, true, true, true, true, true, false, false, false, false, false, false, false] rfl rfl (any_of HT_.out (by kernel_rfl)) (fun _ _ _ h => h) (Or.inl ⟨by rfl, ?_⟩) ?_ ?_
        rotate_left
        · intro w'
          go_simp
          with_reducible rfl
        rotate_left
        · simp only [Act.put, List.setIfInBounds_toArray, List.set_cons_zero, List.set_cons_succ, i64_w, i32_w]
          rfl
        refine pure_ (i := 7) (N := some 37) (v := ?_) (a' := ?_) #[true, true, true, true, true, true, true, true, false, false, false, false, false, false] rfl rfl (any_of HT_.out (by kernel_rfl)) (fun _ _ _ h => h) (Or.inl ⟨by rfl, ?_⟩) ?_ ?_
        rotate_left
        · intro w'
          go_simp
          with_reducible rfl
        rotate_left
        · simp only [Act.put, List.setIfInBounds_toArray, List.set_cons_zero, List.set_cons_succ, i64_w, i32_w]
          rfl
        refine pure_ (i := 8) (N := some 38) (v := ?_) (a' := ?_) #[true, true, true, true, true, true, true, true, true, false, false, false, false, false] rfl rfl (any_of HT_.out (by kernel_rfl)) (fun _ _ _ h => h) (Or.inl ⟨by rfl, ?_⟩) ?_ ?_
        rotate_left
        · intro w'
          go_simp
          with_reducible rfl
        rotate_left
        · simp only [Act.put, List.setIfInBounds_toArray, List.set_cons_zero, List.set_cons_succ, i64_w, i32_w]
          rfl
        refine take_ (i := 9) (N := some 39) (v := ?_) (a' := ?_) #[true, true, true, true, true, true, true, true, true, true, false, false, false, false] rfl rfl (take_ofW HT_.out HW_.out (by kernel_rfl)) (fun _ _ _ h => h) (Or.inl ⟨by rfl, ?_⟩) hHeld ?_ ?_
        rotate_left
        · rintro w' ⟨s0, s1⟩
          go_simp
          with_reducible rfl
        rotate_left
        · simp only [Act.put, List.setIfInBounds_toArray, List.set_cons_zero, List.set_cons_succ, i64_w, i32_w]
          rfl
        refine one_ (i := 10) (N := some 40) #[true, true, true, true, true, true, true, true, true, true, true, false, false, false] rfl rfl (one_of HT_.out (by kernel_rfl)) (by decide) (fun K hK => ?_)
        refine value_ (w1 := ?_) (v := ?_) (by rfl) rfl ?_ ?_
        rotate_left 2
        · go_simp
          constructor
          · rfl
          · rfl
        refine hK.out _ _ ⟨(World.cell?_alloc_lt _ _ _ (World.block_lt_of_cell? _ _ hHeld.1)).trans hHeld.1, (World.cell?_alloc_lt _ _ _ (World.block_lt_of_cell? _ _ hHeld.2)).trans hHeld.2⟩ (fun hHeld => ?_)
        clear hK K
        refine norm_ (a' := ?_) ?_ ?_
        rotate_left
        · show Act.put _ (some 40) _ = _
          simp only [Act.put, List.setIfInBounds_toArray, List.set_cons_zero, List.set_cons_succ, i64_w, i32_w]
          rfl
        refine one_ (i := 11) (N := some 41) #[true, true, true, true, true, true, true, true, true, true, true, true, false, false] rfl rfl (one_of HT_.out (by kernel_rfl)) (by decide) (fun K hK => ?_)
        refine Kd.R_append_step (Kd.int .i64) (w0 := w) w.heap.size (by rfl) (.tmp 35) (.tmp 40) 31 3 (.int .i64 0) 8 rfl Try.underlying31 info3 rfl (by decide) (by omega) (.slice Av x.length cv) x tv [.int .i64 tv] (fun k_ => oki k_ ∨ True ∧ w18.heap.size ≤ k_) (fun _ => False) rfl rfl ?aP (fun _ hk => hk.elim) ?aF ?aO ?aB ?aS ?aL ?_
        (case aP => exact rfl)
        (case aB => exact HBD.out)
        (case aF => exact (fun k_ hk => .inr ⟨trivial, hk⟩))
        (case aO => exact Kd.R_mono HGE.out (fun _ hk => .inl hk))
        (case aS => exact HBD.out.size)
        (case aL => omega)
        intro v20 w21 ho hb hg hat
        have HS0 := cell_grown hg HX.out (fun e_ => (HOI.out _ (HGE.out.1 _ e_.symm)).2 rfl)
        have HB21 := Aside0.mk hb
        have HH21 := Aside0.mk (Kd.H_grown (Kd.H_widen HH.out) hg (fun k_ e_ => .inl (HGE.out.1 k_ e_)))
        obtain ⟨Ao, co2, eo⟩ := Kd.R_slice ho
        rw [show (x ++ [tv]).length = x.length + 1 by simp] at eo
        subst eo
        have HO21 := Aside0.mk ho
        clear ho hb hg hat
        obtain ⟨_, _, hraw, _, _, hcc2, _⟩ := Kd.H_raw HH21.out (by omega) (by omega)
        obtain ⟨_, hfr2⟩ := Kd.H_at HH21.out (by omega) (by omega)
        have hx22 := hcc2 0 _ rfl
        have hf22 := hfr2 0
        rw [Nat.add_zero, show kRows.sz = 1 from rfl, Nat.mul_one, Int.toNat_natCast] at hx22 hf22
        have HP22 := Kd.S_seg0 HH21.out (by omega) (by omega) (seg := [.slice Ao (x.length + 1) co2]) (j := 0) (show 1 ≤ 1 from by decide) (x' := x ++ [tv]) (by exact Kd.M_row HO21.out) (fun _ hk => hk)
        rw [Nat.add_zero, show kRows.sz = 1 from rfl, Nat.mul_one, Int.toNat_natCast] at HP22
        have HQ22 := HP22.1
        rw [HXS.out] at HQ22
        have HQ := Aside0.mk HQ22
        clear HP22 HQ22 hcc2 hfr2 hraw
        refine hK.out _ _ ⟨HS0, (HB21.out.cell (World.block_lt_of_cell? w _ HWT.out)).trans HWT.out⟩ (fun hHeld => ?_)
        clear hK K
        refine norm_ (a' := ?_) ?_ ?_
        rotate_left
        · show Act.put _ (some 41) _ = _
          simp only [Act.put, List.setIfInBounds_toArray, List.set_cons_zero, List.set_cons_succ, i64_w, i32_w]
          rfl
        refine pure_ (i := 12) (N := some 42) (v := ?_) (a' := ?_) #[true, true, true, true, true, true, true, true, true, true, true, true, true, false] rfl rfl (any_of HT_.out (by kernel_rfl)) (fun _ _ _ h => h) (Or.inl ⟨by rfl, ?_⟩) ?_ ?_
        rotate_left
        · intro w'
          go_simp
          with_reducible rfl
        rotate_left
        · simp only [Act.put, List.setIfInBounds_toArray, List.set_cons_zero, List.set_cons_succ, i64_w, i32_w]
          rfl
        refine last_ (i := 13) (N := none) #[true, true, true, true, true, true, true, true, true, true, true, true, true, true] rfl rfl (one_of HT_.out (by kernel_rfl)) (by decide) (fun K hK => ?_)
        refine skip_ (w1 := ?_) (by rfl) rfl ?_ ?_
        rotate_left
        · go_simp
          rfl
        refine hK.out _ _ ?_
        clear hK K
        refine done_ (done_of HT_.out (by kernel_rfl)) ?_
        unfold onlyN
        dsimp only
        have HB22 := Aside0.mk (HB21.out.setCell (p := ⟨go, k, none⟩) HGO.out (.slice Ao (x.length + 1) co2))
        clear HB21 HO21 HH21 HBD HSD HX HH HGE hx22 hf22 HS0 hHeld
        go_wp2_with fail
        go_roundw
        case rel => exact ⟨k + 1, by omega, by go_num, ⟨HQ.out⟩, HB22⟩
        case measure => simp [intOf]; omega
      · have hltz : ¬ (k : Int) < (t.length : Int) := by omega
        obtain rfl : k = t.length := by omega
        rw [mixP_all] at HS
        obtain ⟨e_, hle8, hC8⟩ := Kd.S_reads' HS.out
        clear e_
        have HC8 := Aside0.mk hC8
        have HTN := Aside0.mk (show (turnedP zs t).length = t.length from HTL.out)
        clear hC8 HS
        go_wp2_with fail
        refine (ReducedN A8 cp8 (turnedP zs t) HTN.out (zs.length + 1) zs.length wr HC8.out hle8 HTG.out (by omega) (by omega) (by omega)).mono ?_
        rintro e w4 ⟨A4, c4, A5, c5, rfl, hle4, hC4, hle5, hC5, hb4⟩
        rw [HST.out] at hle4 hC4 hle5 hC5 ⊢
        have HRL := Aside0.mk (HRED.out.good.len)
        rw [HRL.out] at hle4 hC4 ⊢
        obtain ⟨r, hr⟩ : ∃ r, st.2.length = r := ⟨_, rfl⟩
        have hrm : st.2.length ≤ t.length := HRED.out.shape.le
        rw [hr] at hle5 hrm hC5 ⊢
        have HRr := Aside0.mk hr
        have HC4 := Aside0.mk (show Kd.C kRows w4 A4 st.1.length st.1 by rw [HRL.out]; exact hC4)
        have HC5 := Aside0.mk (show Kd.C (Kd.int .i64) w4 A5 (st.2.map Int.ofNat).length (st.2.map Int.ofNat) by rw [List.length_map, HRr.out]; exact hC5)
        have HB4 := Aside0.mk (below_call HB.out hb4)
        clear hC4 hC5 hb4 hr HC8 hlt hltz hk
        go_wp2_with fail
        go_loop [11] (fun v11 => ∃ k : Nat, r ≤ k ∧ k ≤ t.length ∧ v11 = .int .i64 k ∧ Aside0 (∀ i, r ≤ i → i < k → at2 st.1 i zs.length = 0)) (fun v11 => t.length - (intOf v11).toNat)
        case atStart => exact ⟨r, Nat.le_refl _, hrm, rfl, ⟨fun i h1 h2 => by omega⟩⟩
        case round =>
          obtain ⟨k, hrk, hkm, rfl, HZ⟩ := hrel
          by_cases hlt : k < t.length
          · have hltz : (k : Int) < (t.length : Int) := by omega
            obtain ⟨ad, A6, c6, rfl, q1, hle6, hC6⟩ := at_row HC4.out (Below.refl _ _) k (by rw [HRL.out]; exact hlt)
            have hw := HRED.out.good.row hlt
            obtain ⟨ad6, rfl, q2⟩ := at_int hC6 (Below.refl _ _) zs.length (by rw [hw]; omega)
            rw [hw] at q1 hle6
            change w4.cell? (ad6.add zs.length) = some (.int .i64 (at2 st.1 k zs.length)) at q2
            have hnz : (zs.length : Int) < (zs.length : Int) + 1 := by omega
            have hn1 : ((zs.length + 1 : Nat) : Int) = (zs.length : Int) + 1 := by omega
            obtain ⟨x, hx⟩ : ∃ x, at2 st.1 k zs.length = x := ⟨_, rfl⟩
            rw [hx] at q2
            have HX := Aside0.mk hx
            clear hC6 hw hx
            by_cases hx0 : x = 0
            · have hb0 : (x != 0) = false := by rw [hx0]; rfl
              have HX0 := Aside0.mk hx0
              clear hx0
              go_wp2_with fail
              go_round
              case rel =>
                refine ⟨k + 1, by omega, by omega, by go_num, ⟨fun i h1 h2 => ?_⟩⟩
                by_cases hik : i < k
                · exact HZ.out i h1 hik
                · obtain rfl : i = k := by omega
                  rw [HX.out]; exact HX0.out
              case measure => simp [intOf]; omega
            · have hb0 : (x != 0) = true := by rw [bne_iff_ne]; exact hx0
              have hrs0 : rs = ([], false, 0) := by
                rw [HRS.out, if_neg (fun hall => hx0 (by rw [← HX.out]; exact all_drop.1 hall _ (by rw [HRr.out]; exact hrk) (by rw [HRL.out]; exact hlt)))]
              have HRS0 := Aside0.mk hrs0
              clear hx0 hrs0
              go_wp2_with fail
              go_ret3
              rw [HRS0.out]
              exact ⟨_, rfl, Kd.R_nil _ _ _ _ _, HB4.out⟩
          · have hltz : ¬ (k : Int) < (t.length : Int) := by omega
            obtain rfl : k = t.length := by omega
            have hrs1 : rs = (solved st zs.length, true, 0) := by
              rw [HRS.out, if_pos (all_drop.2 (fun i h1 h2 => by
                rw [HRL.out] at h2
                exact HZ.out i (by rw [← HRr.out]; exact h1) h2))]
            have HR1 := Aside0.mk hrs1
            clear hrs1 HZ hkm hlt
            go_wp2_with ((with_reducible refine gate_dst (N := 69) rfl ?_); refine Kd.R_make (Kd.int .i64) (w0 := w4) w4.heap.size 3 rfl (N := 69) rfl 31 _ _ rfl (zs.length : Int) rfl rfl Try.underlying31 (.int .i64 0) 8 info3 rfl (by decide) (by omega) 0 (ok := fun _ => True) (okp := fun _ => True) rfl (fun _ hk => hk) trivial (by omega) (by omega) (Below.refl _ _) (Nat.le_refl _) ?_; intro v5 w5 ho hb hg hnew_; rw [Int.toNat_natCast] at ho; have HO := Aside0.mk ho; have HB5 := Aside0.mk hb; obtain ⟨A7, cap7, e7⟩ := Kd.R_slice ho; rw [List.length_replicate] at e7; subst e7; clear ho hb hg hnew_)
            have HO0 := Aside0.mk (show Kd.R (Kd.int .i64) 3 w5 w4.heap.size (fun _ => True) (.slice A7 zs.length cap7) (partS st zs.length 0) by rw [partS_zero]; exact HO.out)
            go_loopw [13] (fun v13 wr => ∃ k : Nat, k ≤ r ∧ v13 = .int .i64 k ∧ Aside0 (Kd.R (Kd.int .i64) 3 wr w4.heap.size (fun _ => True) (.slice A7 zs.length cap7) (partS st zs.length k)) ∧ Aside0 (Below w4.heap.size w4 wr)) (fun v13 _ => r - (intOf v13).toNat)
            case atStart => exact ⟨0, Nat.zero_le _, rfl, HO0, HB5⟩
            case round =>
              clear HO0 HO HB5
              obtain ⟨k, hk, rfl, HO, HB5⟩ := hrel
              by_cases hlt : k < r
              · have hltz : (k : Int) < (r : Int) := by omega
                have hlt2 : k < st.2.length := by rw [HRr.out]; exact hlt
                have hcn : st.2.getD k 0 < zs.length := HRED.out.shape.lt k hlt2
                obtain ⟨ap, rfl, q0⟩ := at_int HC5.out HB5.out k (by rw [List.length_map]; exact hlt2)
                rw [show (st.2.map Int.ofNat).getD k 0 = ((st.2.getD k 0 : Nat) : Int) by
                  rw [List.getD_eq_getElem?_getD, List.getD_eq_getElem?_getD, List.getElem?_map, List.getElem?_eq_getElem hlt2]; rfl] at q0
                have hkm : k < t.length := by omega
                obtain ⟨ad, A6, c6, rfl, q1, hle6, hC6⟩ := at_row HC4.out HB5.out k (by rw [HRL.out]; exact hkm)
                have hw := HRED.out.good.row hkm
                obtain ⟨ad6, rfl, q2⟩ := at_int hC6 (Below.refl _ _) zs.length (by rw [hw]; omega)
                rw [hw] at q1 hle6
                change wr.cell? (ad6.add zs.length) = some (.int .i64 (at2 st.1 k zs.length)) at q2
                have hnz : (zs.length : Int) < (zs.length : Int) + 1 := by omega
                have hkmz : (k : Int) < (t.length : Int) := by omega
                have HSU := Aside0.mk (partS_succ HRED.out hlt2)
                obtain ⟨g, capg, eg, hgb, _, _⟩ := Kd.R_form HO.out (by rw [partS_len]; omega)
                rw [partS_len] at eg
                injection eg with eg en_ eg2
                clear en_
                subst eg eg2
                have hPUT := fun (w' : World) (hb : Below wr.heap.size wr w') => Kd.R_putn (enc := fun x => .int .i64 x) (h1 := fun _ => rfl) (Kd.R_below HO.out hb) ((st.2.getD k 0 : Nat) : Int) (at2 st.1 k zs.length)
                have q5 := Kd.R_celln (enc := fun x => .int .i64 x) (h1 := fun _ => rfl) 0 HO.out ((st.2.getD k 0 : Nat) : Int) (by omega) (by omega)
                rw [Int.toNat_natCast] at q5
                simp only [Int.toNat_natCast] at hPUT
                obtain ⟨q5, q6⟩ := q5
                have HPUT := Aside0.mk hPUT
                have HGB := Aside0.mk hgb
                generalize st.2.getD k 0 = cc at *
                generalize at2 st.1 k zs.length = x at *
                have hcz : (cc : Int) < (zs.length : Int) := by omega
                clear hC6 hw hlt2 hgb hPUT
                go_wp2_with fail
                refine wp_onlyN ?_
                refine start_ (n := 15) (S := fun w' => w'.cell? (ap.add k) = some (.int .i64 cc) ∧ w'.cell? (ad.add k) = some (.slice (some ad6) (zs.length + 1) c6) ∧ w'.cell? (ad6.add zs.length) = some (.int .i64 x) ∧ w'.cell? ⟨g, cc, none⟩ = some (.int .i64 (rdOf 0 (partS st zs.length k) (cc : Int))) ∧ w'.frozen? ⟨g, cc, none⟩ = false) (ds := [14]) (Array.replicate 15 false) (by kernel_rfl) rfl rfl ⟨q0, q1, q2, q5, q6⟩ (fun hHeld => ?_)
                refine with_tabW coT.tab19 coT.bits19 (fun HT_ HW_ => ?_)
                refine pure_ (i := 0) (N := some 76) (v := ?_) (a' := ?_) #[true, false, false, false, false, false, false, false, false, false, false, false, false, false, false] rfl rfl (any_of HT_.out (by kernel_rfl)) (fun _ _ _ h => h) (Or.inl ⟨by rfl, ?_⟩) ?_ ?_
                rotate_left
                · intro w'
                  go_simp
                  with_reducible rfl
                rotate_left
                · simp only [Act.put, List.setIfInBounds_toArray, List.set_cons_zero, List.set_cons_succ, i64_w, i32_w]
                  rfl
                refine pure_ (i := 1) (N := some 77) (v := ?_) (a' := ?_) #[true, true, false, false, false, false, false, false, false, false, false, false, false, false, false] rfl rfl (any_of HT_.out (by kernel_rfl)) (fun _ _ _ h => h) (Or.inl ⟨by rfl, ?_⟩) ?_ ?_
                rotate_left
                · intro w'
                  go_simp
                  with_reducible rfl
                rotate_left
                · simp only [Act.put, List.setIfInBounds_toArray, List.set_cons_zero, List.set_cons_succ, i64_w, i32_w]
                  rfl
                refine pure_ (i := 2) (N := some 78) (v := ?_) (a' := ?_) #[true, true, true, false, false, false, false, false, false, false, false, false, false, false, false] rfl rfl (any_of HT_.out (by kernel_rfl)) (fun _ _ _ h => h) (Or.inl ⟨by rfl, ?_⟩) ?_ ?_
                rotate_left
                · intro w'
                  go_simp
                  with_reducible rfl
                rotate_left
                · simp only [Act.put, List.setIfInBounds_toArray, List.set_cons_zero, List.set_cons_succ, i64_w, i32_w]
                  rfl
                refine pure_ (i := 3) (N := some 79) (v := ?_) (a' := ?_) #[true, true, true, true, false, false, false, false, false, false, false, false, false, false, false] rfl rfl (any_of HT_.out (by kernel_rfl)) (fun _ _ _ h => h) (Or.inl ⟨by rfl, ?_⟩) ?_ ?_
                rotate_left
                · intro w'
                  go_simp
                  with_reducible rfl
                rotate_left
                · simp only [Act.put, List.setIfInBounds_toArray, List.set_cons_zero, List.set_cons_succ, i64_w, i32_w]
                  rfl
                refine take_ (i := 4) (N := some 80) (v := ?_) (a' := ?_) #[true, true, true, true, true, false, false, false, false, false, false, false, false, false, false] rfl rfl (take_ofW HT_.out HW_.out (by kernel_rfl)) (fun _ _ _ h => h) (Or.inl ⟨by rfl, ?_⟩) hHeld ?_ ?_
                rotate_left
                · rintro w' ⟨s0, s1, s2, s3, s4⟩
                  go_simp
                  with_reducible rfl
                rotate_left
                · simp only [Act.put, List.setIfInBounds_toArray, List.set_cons_zero, List.set_cons_succ, i64_w, i32_w]
                  rfl
                refine pure_ (i := 5) (N := some 81) (v := ?_) (a' := ?_) #[true, true, true, true, true, true, false, false, false, false, false, false, false, false, false] rfl rfl (any_of HT_.out (by kernel_rfl)) (fun _ _ _ h => h) (Or.inl ⟨by rfl, ?_⟩) ?_ ?_
                rotate_left
                · intro w'
                  go_simp
                  with_reducible rfl
                rotate_left
                · simp only [Act.put, List.setIfInBounds_toArray, List.set_cons_zero, List.set_cons_succ, i64_w, i32_w]
                  rfl
                refine pure_ (i := 6) (N := some 82) (v := ?_) (a' := ?_) #[true, true, true, true, true, true, true, false, false, false, false, false, false, false, false] rfl rfl (any_of HT_.out (by kernel_rfl)) (fun _ _ _ h => h) (Or.inl ⟨by rfl, ?_⟩) ?_ ?_
                rotate_left
                · intro w'
                  go_simp
                  with_reducible rfl
                rotate_left
                · simp only [Act.put, List.setIfInBounds_toArray, List.set_cons_zero, List.set_cons_succ, i64_w, i32_w]
                  rfl
                refine pure_ (i := 7) (N := some 83) (v := ?_) (a' := ?_) #[true, true, true, true, true, true, true, true, false, false, false, false, false, false, false] rfl rfl (any_of HT_.out (by kernel_rfl)) (fun _ _ _ h => h) (Or.inl ⟨by rfl, ?_⟩) ?_ ?_
                rotate_left
                · intro w'
                  go_simp
                  with_reducible rfl
                rotate_left
                · simp only [Act.put, List.setIfInBounds_toArray, List.set_cons_zero, List.set_cons_succ, i64_w, i32_w]
                  rfl
                refine take_ (i := 8) (N := some 84) (v := ?_) (a' := ?_) #[true, true, true, true, true, true, true, true, true, false, false, false, false, false, false] rfl rfl (take_ofW HT_.out HW_.out (by kernel_rfl)) (fun _ _ _ h => h) (Or.inl ⟨by rfl, ?_⟩) hHeld ?_ ?_
                rotate_left
                · rintro w' ⟨s0, s1, s2, s3, s4⟩
                  go_simp
                  with_reducible rfl
                rotate_left
                · simp only [Act.put, List.setIfInBounds_toArray, List.set_cons_zero, List.set_cons_succ, i64_w, i32_w]
                  rfl
                refine pure_ (i := 9) (N := some 85) (v := ?_) (a' := ?_) #[true, true, true, true, true, true, true, true, true, true, false, false, false, false, false] rfl rfl (any_of HT_.out (by kernel_rfl)) (fun _ _ _ h => h) (Or.inl ⟨by rfl, ?_⟩) ?_ ?_
                rotate_left
                · intro w'
                  go_simp
                  with_reducible rfl
                rotate_left
                · simp only [Act.put, List.setIfInBounds_toArray, List.set_cons_zero, List.set_cons_succ, i64_w, i32_w]
                  rfl
                refine pure_ (i := 10) (N := some 86) (v := ?_) (a' := ?_) #[true, true, true, true, true, true, true, true, true, true, true, false, false, false, false] rfl rfl (any_of HT_.out (by kernel_rfl)) (fun _ _ _ h => h) (Or.inl ⟨by rfl, ?_⟩) ?_ ?_
                rotate_left
                · intro w'
                  go_simp
                  with_reducible rfl
                rotate_left
                · simp only [Act.put, List.setIfInBounds_toArray, List.set_cons_zero, List.set_cons_succ, i64_w, i32_w]
                  rfl
                refine pure_ (i := 11) (N := some 87) (v := ?_) (a' := ?_) #[true, true, true, true, true, true, true, true, true, true, true, true, false, false, false] rfl rfl (any_of HT_.out (by kernel_rfl)) (fun _ _ _ h => h) (Or.inl ⟨by rfl, ?_⟩) ?_ ?_
                rotate_left
                · intro w'
                  go_simp
                  with_reducible rfl
                rotate_left
                · simp only [Act.put, List.setIfInBounds_toArray, List.set_cons_zero, List.set_cons_succ, i64_w, i32_w]
                  rfl
                refine take_ (i := 12) (N := some 88) (v := ?_) (a' := ?_) #[true, true, true, true, true, true, true, true, true, true, true, true, true, false, false] rfl rfl (take_ofW HT_.out HW_.out (by kernel_rfl)) (fun _ _ _ h => h) (Or.inl ⟨by rfl, ?_⟩) hHeld ?_ ?_
                rotate_left
                · rintro w' ⟨s0, s1, s2, s3, s4⟩
                  go_simp
                  with_reducible rfl
                rotate_left
                · simp only [Act.put, List.setIfInBounds_toArray, List.set_cons_zero, List.set_cons_succ, i64_w, i32_w]
                  rfl
                refine pure_ (i := 13) (N := some 89) (v := ?_) (a' := ?_) #[true, true, true, true, true, true, true, true, true, true, true, true, true, true, false] rfl rfl (any_of HT_.out (by kernel_rfl)) (fun _ _ _ h => h) (Or.inl ⟨by rfl, ?_⟩) ?_ ?_
                rotate_left
                · intro w'
                  go_simp
                  with_reducible rfl
                rotate_left
                · simp only [Act.put, List.setIfInBounds_toArray, List.set_cons_zero, List.set_cons_succ, i64_w, i32_w]
                  rfl
                refine last_ (i := 14) (N := none) #[true, true, true, true, true, true, true, true, true, true, true, true, true, true, true] rfl rfl (one_of HT_.out (by kernel_rfl)) (by decide) (fun K hK => ?_)
                refine skip_ (w1 := ?_) (by rfl) rfl ?_ ?_
                rotate_left
                · go_simp
                  rfl
                refine hK.out _ _ ?_
                clear hK K
                refine done_ (done_of HT_.out (by kernel_rfl)) ?_
                have G1 := Aside0.mk (HPUT.out wr.drew (below_drew (Below.refl _ wr)))
                rw [← HSU.out] at G1
                have G2 := Aside0.mk ((below_call HB5.out (below_drew (Below.refl _ wr))).setCell (p := ⟨g, cc, none⟩) HGB.out (.int .i64 x))
                unfold onlyN
                dsimp only
                clear HPUT HO HB5 hHeld
                go_wp2_with fail
                go_roundw
                case rel => exact ⟨k + 1, by omega, by go_num, ⟨G1.out⟩, ⟨G2.out⟩⟩
                case measure => simp [intOf]; omega
              · have hltz : ¬ (k : Int) < (r : Int) := by omega
                obtain rfl : k = r := by omega
                have HOF := Aside0.mk (show Kd.R (Kd.int .i64) 3 wr w4.heap.size (fun _ => True) (.slice A7 zs.length cap7) (solved st zs.length) by rw [← partS_all, HRr.out]; exact HO.out)
                clear HO hk hlt
                go_wp2_with fail
                go_ret3
                rw [HR1.out]
                exact ⟨_, rfl, Kd.R_lower HOF.out HB4.out.size, below_call HB4.out HB5.out⟩
  · have ea : combAns zs t = ([], false, exam zs t) := by unfold combAns; rw [if_pos hz]
    have hnz : ((exam zs t) != 0) = true := by rw [bne_iff_ne]; exact hz
    rw [ea]
    generalize exam zs t = r at *
    clear hz ea
    unfold AnsOut
    go_enter Try.func33, Try.ntmps33
    go_wp2_with fail
    refine (signatoryref13_Error.calls 301 A c zs A1 c1 t r w HC.out hc HC1.out hc1 HER.out).mono ?_
    rintro e w1 ⟨rfl, hb1⟩
    have HB1 := Aside0.mk hb1.below
    clear hb1
    go_wp2_with fail
    go_ret3
    exact ⟨_, rfl, Kd.R_nil _ _ _ _ _, HB1.out⟩
end Go.Proofs.Ytipdpfnjobfbpaa.H
