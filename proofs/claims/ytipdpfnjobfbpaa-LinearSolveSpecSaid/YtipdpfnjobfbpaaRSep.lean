/- signatoryref13.Separate. -/
import Derived.Test.YtipdpfnjobfbpaaRComb
namespace Go.Proofs.Ytipdpfnjobfbpaa.H
open Go.RowKit Go.Shelf Go.Proofs.YtipdpfnjobfbpaaW.PrintWords Go.Proofs.YtipdpfnjobfbpaaW.PrintLast Go.Proofs.YtipdpfnjobfbpaaW.PrintMore Go.Proofs.Ytipdpfnjobfbpaa.P SG SG.Lin
set_option linter.unusedVariables false
set_option linter.unusedSimpArgs false
theorem product13_loop (a b : List Int) (ha : a.length ≤ 1000) (hab : a.length ≤ b.length) : ∀ (d i k : Nat), i + d = a.length → d < k →
    signatoryref13_Product.l0 k a b ((List.range i).foldl (fun n i => fadd n (fmul (a.getD i 0) (b.getD i 0))) 0) (i : Int) = some (dotP a b) := by
  intro d
  induction d with
  | zero =>
    intro i k hi hk
    obtain ⟨k, rfl⟩ : ∃ q, k = q + 1 := ⟨k - 1, by omega⟩
    unfold signatoryref13_Product.l0
    obtain rfl : i = a.length := by omega
    rw [if_neg (by omega)]; rfl
  | succ d ih =>
    intro i k hi hk
    obtain ⟨k, rfl⟩ : ∃ q, k = q + 1 := ⟨k - 1, by omega⟩
    unfold signatoryref13_Product.l0
    unfold rd
    rw [Int.toNat_natCast, if_pos (by omega), if_pos (by omega), if_pos (by omega), rMul_f]
    show (signatoryref09_Add.f _ _).bind _ = _
    rw [rAdd_f]
    show signatoryref13_Product.l0 k a b _ _ = _
    rw [wrap_nat (by omega)]
    have := ih (i + 1) k (by omega) (by omega)
    rw [List.range_succ, List.foldl_append] at this
    exact this
theorem product13_run (a b : List Int) (ha : a.length ≤ 1000) (hab : a.length ≤ b.length) : signatoryref13_Product.f 1001 a b = some (dotP a b) :=
  product13_loop a b ha hab a.length 0 1001 (by omega) (by omega)
theorem times_map (a : List Int) (n : Int) : timesP a n = a.map fun x => fmul x n := by
  refine list_ext_getD (by rw [times_len, List.length_map]) fun j hj => ?_
  rw [times_len] at hj
  rw [times_at hj]
  simp [List.getD_eq_getElem?_getD, hj]
/-- Between the pivots before a column and the others. -/
theorem pivot_in {p : List Nat} {nx c : Nat} (h1 : ∀ j, j < nx → p.getD j 0 < c) (h2 : ∀ j, nx ≤ j → j < p.length → c ≤ p.getD j 0) (hinc : ∀ i k, i < k → k < p.length → p.getD i 0 < p.getD k 0) : c ∈ p ↔ nx < p.length ∧ p.getD nx 0 = c := by
  constructor
  · intro h
    obtain ⟨k, hk, he, _⟩ := mem_get h
    have hn : nx ≤ k := by
      rcases Nat.lt_or_ge k nx with q | q
      · have := h1 k q; omega
      · exact q
    rcases Nat.lt_or_ge nx k with q | q
    · have := h2 nx (Nat.le_refl _) (by omega)
      have := hinc nx k q hk
      omega
    · obtain rfl : k = nx := by omega
      exact ⟨hk, he⟩
  · rintro ⟨h, rfl⟩
    exact getD_mem h
theorem neg_wrap {x : Int} (h : InF x) : wrap64 (-x) = -x := by unfold InF at h; unfold wrap64; omega
def seT.T16 : Bool × List (List Nat × List Nat) := (true, [([], []), ([], []), ([], []), ([1, 2], [1, 2]), ([3], [3]), ([], []), ([], []), ([5, 6], [5, 6]), ([7], [7]), ([], []), ([8, 9], [8, 9]), ([10], [10]), ([11], [11]), ([12], [12]), ([0, 4, 0, 1, 2, 3, 4, 5, 6, 7, 8, 9, 10, 11, 12, 13], [0, 4]), ([14, 13, 13, 0, 1, 2, 3, 4, 5, 6, 7, 8, 9, 10, 11, 12, 13], [13, 14])])
def seT.B16 : List Nat := [0, 0, 0, 6, 14, 0, 0, 96, 224, 0, 992, 2016, 4064, 8160, 16383, 32767]
theorem seT.tab16 : rtab .any (opsOf Try.f35 16) = seT.T16 := by kernel_rfl
theorem seT.bits16 : waitsOk seT.T16.2 seT.B16 = true := by kernel_rfl
set_option maxRecDepth 100000 in
set_option maxHeartbeats 2000000 in
theorem rSeparate_calls (A : Option Addr) (c : Nat) (zs : List (List Int)) (A1 : Option Addr) (c1 : Nat) (t : List Int) (w : World) (hC : Kd.C kRows w A zs.length zs) (hc : zs.length ≤ c) (hC1 : Kd.C (Kd.int .i64) w A1 t.length t) (hc1 : t.length ≤ c1) :
    Calls Try.prog 35 #[.slice A zs.length c, .slice A1 t.length c1] w (AnsOut (sepAns zs t) w) := by
  have HC := Aside0.mk hC
  have HC1 := Aside0.mk hC1
  have HER := Aside0.mk ((error_run zs t 301 (by omega)).trans (congrArg some (err_exam zs t).symm))
  clear hC hC1
  by_cases hz : exam zs t = 0
  · obtain ⟨h64, hm64, hG, hf⟩ := exam_zero hz
    have hRed := gj_red hG t.length (Nat.le_refl _)
    have ea : sepAns zs t = (match separateP zs t with | some y => (y, true, 0) | none => ([], false, 0)) := by unfold sepAns; rw [if_neg (fun h => h hz)]; cases separateP zs t <;> rfl
    obtain ⟨rs, hrs⟩ : ∃ rs, rs = (match separateP zs t with | some y => (y, true, (0 : Int)) | none => ([], false, 0)) := ⟨_, rfl⟩
    rw [ea, ← hrs]
    rw [hz] at HER
    have HFI := Aside0.mk (show ∀ cc y, cc < t.length → (∀ i, i < cc → sepAt (gj zs t.length) t i = none) → sepAt (gj zs t.length) t cc = some y → rs = (y, true, 0) from fun cc y h1 h2 h3 => by rw [hrs, sep_first h1 h2 h3])
    have HNO := Aside0.mk (show (∀ i, i < t.length → sepAt (gj zs t.length) t i = none) → rs = ([], false, 0) from fun h => by rw [hrs, sep_none h])
    have HGD := Aside0.mk hG
    have HFL := Aside0.mk hf
    clear ea hz hf hrs hG
    obtain ⟨st, hst⟩ : ∃ st, gj zs t.length = st := ⟨_, rfl⟩
    rw [hst] at HFI HNO hRed
    have HST := Aside0.mk hst
    have HRED := Aside0.mk hRed
    clear hst hRed
    unfold AnsOut
    go_enter Try.func35, Try.ntmps35
    go_wp2_with fail
    refine (signatoryref13_Error.calls 301 A c zs A1 c1 t 0 w HC.out hc HC1.out hc1 HER.out).mono ?_
    rintro e w1 ⟨rfl, hb1⟩
    have HB1 := Aside0.mk hb1.below
    clear hb1
    go_wp2_with fail
    refine (Reduced_calls A c zs t.length t.length w1 (Kd.C_below HC.out HB1.out) hc HGD.out (Nat.le_refl _) (by omega) (by omega)).mono ?_
    rintro e w4 ⟨A4, c4, A5, c5, rfl, hle4, hC4, hle5, hC5, hb4⟩
    rw [HST.out] at hle4 hC4 hle5 hC5 ⊢
    have HRL := Aside0.mk (HRED.out.good.len)
    rw [HRL.out] at hle4 hC4 ⊢
    obtain ⟨r, hr⟩ : ∃ r, st.2.length = r := ⟨_, rfl⟩
    have hrz : st.2.length ≤ zs.length := HRED.out.shape.le
    rw [hr] at hle5 hrz hC5 ⊢
    have HRr := Aside0.mk hr
    have HC4 := Aside0.mk (show Kd.C kRows w4 A4 st.1.length st.1 by rw [HRL.out]; exact hC4)
    have HC5 := Aside0.mk (show Kd.C (Kd.int .i64) w4 A5 (st.2.map Int.ofNat).length (st.2.map Int.ofNat) by rw [List.length_map, HRr.out]; exact hC5)
    have HB4 := Aside0.mk (below_call HB1.out hb4)
    clear hC4 hC5 hb4 hr
    go_wp2_with fail
    go_loopw [10, 11] (fun v10 v11 wr => ∃ cc nx : Nat, cc ≤ t.length ∧ nx ≤ r ∧ v11 = .int .i64 cc ∧ v10 = .int .i64 nx ∧ Aside0 (∀ j, j < nx → st.2.getD j 0 < cc) ∧ Aside0 (∀ j, nx ≤ j → j < r → cc ≤ st.2.getD j 0) ∧ Aside0 (∀ i, i < cc → sepAt st t i = none) ∧ Aside0 (Below w4.heap.size w4 wr)) (fun _ v11 _ => t.length - (intOf v11).toNat)
    case atStart => exact ⟨0, 0, Nat.zero_le _, Nat.zero_le _, rfl, rfl, ⟨fun j hj => by omega⟩, ⟨fun j _ _ => Nat.zero_le _⟩, ⟨fun i hi => by omega⟩, ⟨Below.refl _ _⟩⟩
    case round =>
      obtain ⟨cc, nx, hcm, hnx, rfl, rfl, HL, HG, HN, HB⟩ := hrel
      by_cases hlt : cc < t.length
      · have hltz : (cc : Int) < (t.length : Int) := by omega
        have hpin := pivot_in (p := st.2) (nx := nx) (c := cc) HL.out (by rw [HRr.out]; exact HG.out) HRED.out.shape.inc
        rw [HRr.out] at hpin
        have HPIN := Aside0.mk hpin
        clear hpin
        by_cases hin : nx < r ∧ st.2.getD nx 0 = cc
        · obtain ⟨hn1, hn2⟩ := hin
          have hnz : (nx : Int) < (r : Int) := by omega
          obtain ⟨ap, rfl, q0⟩ := at_int HC5.out HB.out nx (by rw [List.length_map, HRr.out]; exact hn1)
          rw [show (st.2.map Int.ofNat).getD nx 0 = (cc : Int) by
            rw [List.getD_eq_getElem?_getD, List.getElem?_map, List.getElem?_eq_getElem (by rw [HRr.out]; exact hn1)]
            rw [List.getD_eq_getElem?_getD, List.getElem?_eq_getElem (by rw [HRr.out]; exact hn1)] at hn2
            exact congrArg Int.ofNat hn2] at q0
          have H1 := Aside0.mk (show ∀ j, j < nx + 1 → st.2.getD j 0 < cc + 1 from fun j hj => by
            by_cases e : j = nx
            · rw [e, hn2]; omega
            · have := HL.out j (by omega); omega)
          have H2 := Aside0.mk (show ∀ j, nx + 1 ≤ j → j < r → cc + 1 ≤ st.2.getD j 0 from fun j hj hjr => by
            have := HRED.out.shape.inc nx j (by omega) (by rw [HRr.out]; exact hjr); omega)
          have H3 := Aside0.mk (show ∀ i, i < cc + 1 → sepAt st t i = none from fun i hi => by
            by_cases e : i = cc
            · rw [e]; unfold sepAt; rw [if_pos (HPIN.out.2 ⟨hn1, hn2⟩)]
            · exact HN.out i (by omega))
          clear hn2
          go_wp2_with fail
          go_roundw
          case rel => exact ⟨cc + 1, nx + 1, by omega, by omega, by go_num, by go_num, H1, H2, H3, HB⟩
          case measure => simp [intOf]; omega
        · have hni : cc ∉ st.2 := fun q => hin (HPIN.out.1 q)
          have H1 := Aside0.mk (show ∀ j, j < nx → st.2.getD j 0 < cc + 1 from fun j hj => by have := HL.out j hj; omega)
          have H2 := Aside0.mk (show ∀ j, nx ≤ j → j < r → cc + 1 ≤ st.2.getD j 0 from fun j hj hjr => by
            have h3 := HG.out j hj hjr
            by_cases e : st.2.getD j 0 = cc
            · exact absurd (show cc ∈ st.2 by rw [← e]; exact getD_mem (by rw [HRr.out]; exact hjr)) hni
            · omega)
          have HNI := Aside0.mk hni
          clear hin hni
          have htest : nx < r → ∃ ap v, A5 = some ap ∧ wr.cell? (ap.add nx) = some (.int .i64 v) ∧ (v == (cc : Int)) = false := fun hn1 => by
            obtain ⟨ap, e, q0⟩ := at_int HC5.out HB.out nx (by rw [List.length_map, HRr.out]; exact hn1)
            refine ⟨ap, _, e, q0, ?_⟩
            rw [beq_eq_false_iff_ne]
            intro q
            refine HNI.out (HPIN.out.2 ⟨hn1, ?_⟩)
            rw [List.getD_eq_getElem?_getD, List.getElem?_map, List.getElem?_eq_getElem (by rw [HRr.out]; exact hn1)] at q
            rw [List.getD_eq_getElem?_getD, List.getElem?_eq_getElem (by rw [HRr.out]; exact hn1)]
            exact Int.ofNat_inj.1 q
          have HTEST := Aside0.mk htest
          clear htest HL HG HPIN
          by_cases hn1 : nx < r
          · have hnz : (nx : Int) < (r : Int) := by omega
            obtain ⟨ap, vp, rfl, q0, hb0⟩ := HTEST.out hn1
            clear HTEST
            go_wp2_with ((with_reducible refine gate_dst (N := 52) rfl ?_); refine Kd.R_make (Kd.int .i64) (w0 := w4) w4.heap.size 3 rfl (N := 52) rfl 31 _ _ rfl (t.length : Int) rfl rfl Try.underlying31 (.int .i64 0) 8 info3 rfl (by decide) (by omega) 0 (ok := fun _ => True) (okp := fun _ => True) rfl (fun _ hk => hk) trivial (by omega) (by omega) HB.out HB.out.size ?_; intro v5 w5 ho hb hg hnew_; rw [Int.toNat_natCast] at ho; obtain ⟨g, cap5, e5, hgb, _, _⟩ := Kd.R_form ho (by rw [List.length_replicate]; omega); rw [List.length_replicate] at e5; subst e5; have HO := Aside0.mk ho; have HB5 := Aside0.mk hb; have HGB := Aside0.mk hgb; have q9 := Kd.R_celln (enc := fun x => .int .i64 x) (h1 := fun _ => rfl) 0 ho (cc : Int) (by omega) (by omega); rw [Int.toNat_natCast] at q9; obtain ⟨q9, q8⟩ := q9; clear ho hb hg hnew_ hgb)
            have HO1 := Aside0.mk (Kd.R_putn (enc := fun x => .int .i64 x) (h1 := fun _ => rfl) HO.out (cc : Int) 1)
            rw [Int.toNat_natCast, ← wS_zero st t.length cc] at HO1
            have HB6 := Aside0.mk (HB5.out.setCell (p := ⟨g, cc, none⟩) HGB.out (.int .i64 1))
            clear HO HB5 q9 q8 HB
            go_loopw [13] (fun v13 wr => ∃ k : Nat, k ≤ r ∧ v13 = .int .i64 k ∧ Aside0 (Kd.R (Kd.int .i64) 3 wr w4.heap.size (fun _ => True) (.slice (some ⟨g, 0, none⟩) t.length cap5) (wS st t.length cc k)) ∧ Aside0 (Below w4.heap.size w4 wr)) (fun v13 _ => r - (intOf v13).toNat)
            case atStart => exact ⟨0, Nat.zero_le _, rfl, ⟨HO1.out⟩, ⟨HB6.out⟩⟩
            case round =>
              clear HO1 HB6
              obtain ⟨k, hk, rfl, HO, HB⟩ := hrel
              by_cases hlt2 : k < r
              · have hltz2 : (k : Int) < (r : Int) := by omega
                have hlt3 : k < st.2.length := by rw [HRr.out]; exact hlt2
                have hcn : st.2.getD k 0 < t.length := HRED.out.shape.lt k hlt3
                obtain ⟨apk, eap, q0k⟩ := at_int HC5.out HB.out k (by rw [List.length_map]; exact hlt3)
                injection eap with eap; subst eap
                rw [show (st.2.map Int.ofNat).getD k 0 = ((st.2.getD k 0 : Nat) : Int) by
                  rw [List.getD_eq_getElem?_getD, List.getD_eq_getElem?_getD, List.getElem?_map, List.getElem?_eq_getElem hlt3]; rfl] at q0k
                have hkz : k < zs.length := by omega
                obtain ⟨ad, A6, c6, rfl, q1, hle6, hC6⟩ := at_row HC4.out HB.out k (by rw [HRL.out]; exact hkz)
                have hw := HRED.out.good.row hkz
                obtain ⟨ad6, rfl, q2⟩ := at_int hC6 (Below.refl _ _) cc (by rw [hw]; exact hlt)
                rw [hw] at q1 hle6
                change wr.cell? (ad6.add cc) = some (.int .i64 (at2 st.1 k cc)) at q2
                have hkzz : (k : Int) < (zs.length : Int) := by omega
                have HSU := Aside0.mk (wS_succ (c := cc) HRED.out hlt3 HNI.out)
                have hxi := HRED.out.good.at k cc
                have hPUT := fun (w' : World) (hb : Below wr.heap.size wr w') => Kd.R_putn (enc := fun x => .int .i64 x) (h1 := fun _ => rfl) (Kd.R_below HO.out hb) ((st.2.getD k 0 : Nat) : Int) ((-at2 st.1 k cc) % 1073741789)
                have q5 := Kd.R_celln (enc := fun x => .int .i64 x) (h1 := fun _ => rfl) 0 HO.out ((st.2.getD k 0 : Nat) : Int) (by omega) (by omega)
                rw [Int.toNat_natCast] at q5
                simp only [Int.toNat_natCast] at hPUT
                obtain ⟨q5, q6⟩ := q5
                have HPUT := Aside0.mk hPUT
                generalize st.2.getD k 0 = pc at *
                generalize at2 st.1 k cc = x at *
                have hpz : (pc : Int) < (t.length : Int) := by omega
                have HNW := Aside0.mk (neg_wrap hxi)
                clear hC6 hw hlt3 hPUT hxi
                go_wp2_with fail
                refine wp_onlyN ?_
                refine start_ (n := 16) (S := fun w' => w'.cell? (ap.add k) = some (.int .i64 pc) ∧ w'.cell? (ad.add k) = some (.slice (some ad6) t.length c6) ∧ w'.cell? (ad6.add cc) = some (.int .i64 x) ∧ w'.cell? ⟨g, pc, none⟩ = some (.int .i64 (rdOf 0 (wS st t.length cc k) (pc : Int))) ∧ w'.frozen? ⟨g, pc, none⟩ = false) (ds := [15]) (Array.replicate 16 false) (by kernel_rfl) rfl rfl ⟨q0k, q1, q2, q5, q6⟩ (fun hHeld => ?_)
                refine with_tabW seT.tab16 seT.bits16 (fun HT_ HW_ => ?_)
                refine pure_ (i := 0) (N := some 62) (v := ?_) (a' := ?_) #[true, false, false, false, false, false, false, false, false, false, false, false, false, false, false, false] rfl rfl (any_of HT_.out (by kernel_rfl)) (fun _ _ _ h => h) (Or.inl ⟨by rfl, ?_⟩) ?_ ?_
                rotate_left
                · intro w'
                  go_simp
                  with_reducible rfl
                rotate_left
                · simp only [Act.put, List.setIfInBounds_toArray, List.set_cons_zero, List.set_cons_succ, i64_w, i32_w]
                  rfl
                refine pure_ (i := 1) (N := some 63) (v := ?_) (a' := ?_) #[true, true, false, false, false, false, false, false, false, false, false, false, false, false, false, false] rfl rfl (any_of HT_.out (by kernel_rfl)) (fun _ _ _ h => h) (Or.inl ⟨by rfl, ?_⟩) ?_ ?_
                rotate_left
                · intro w'
                  go_simp
                  with_reducible rfl
                rotate_left
                · simp only [Act.put, List.setIfInBounds_toArray, List.set_cons_zero, List.set_cons_succ, i64_w, i32_w]
                  rfl
                refine pure_ (i := 2) (N := some 64) (v := ?_) (a' := ?_) #[true, true, true, false, false, false, false, false, false, false, false, false, false, false, false, false] rfl rfl (any_of HT_.out (by kernel_rfl)) (fun _ _ _ h => h) (Or.inl ⟨by rfl, ?_⟩) ?_ ?_
                rotate_left
                · intro w'
                  go_simp
                  with_reducible rfl
                rotate_left
                · simp only [Act.put, List.setIfInBounds_toArray, List.set_cons_zero, List.set_cons_succ, i64_w, i32_w]
                  rfl
                refine pure_ (i := 3) (N := some 65) (v := ?_) (a' := ?_) #[true, true, true, true, false, false, false, false, false, false, false, false, false, false, false, false] rfl rfl (any_of HT_.out (by kernel_rfl)) (fun _ _ _ h => h) (Or.inl ⟨by rfl, ?_⟩) ?_ ?_
                rotate_left
                · intro w'
                  go_simp
                  with_reducible rfl
                rotate_left
                · simp only [Act.put, List.setIfInBounds_toArray, List.set_cons_zero, List.set_cons_succ, i64_w, i32_w]
                  rfl
                refine take_ (i := 4) (N := some 66) (v := ?_) (a' := ?_) #[true, true, true, true, true, false, false, false, false, false, false, false, false, false, false, false] rfl rfl (take_ofW HT_.out HW_.out (by kernel_rfl)) (fun _ _ _ h => h) (Or.inl ⟨by rfl, ?_⟩) hHeld ?_ ?_
                rotate_left
                · rintro w' ⟨s0, s1, s2, s3, s4⟩
                  go_simp
                  with_reducible rfl
                rotate_left
                · simp only [Act.put, List.setIfInBounds_toArray, List.set_cons_zero, List.set_cons_succ, i64_w, i32_w]
                  rfl
                refine pure_ (i := 5) (N := some 67) (v := ?_) (a' := ?_) #[true, true, true, true, true, true, false, false, false, false, false, false, false, false, false, false] rfl rfl (any_of HT_.out (by kernel_rfl)) (fun _ _ _ h => h) (Or.inl ⟨by rfl, ?_⟩) ?_ ?_
                rotate_left
                · intro w'
                  go_simp
                  with_reducible rfl
                rotate_left
                · simp only [Act.put, List.setIfInBounds_toArray, List.set_cons_zero, List.set_cons_succ, i64_w, i32_w]
                  rfl
                refine pure_ (i := 6) (N := some 68) (v := ?_) (a' := ?_) #[true, true, true, true, true, true, true, false, false, false, false, false, false, false, false, false] rfl rfl (any_of HT_.out (by kernel_rfl)) (fun _ _ _ h => h) (Or.inl ⟨by rfl, ?_⟩) ?_ ?_
                rotate_left
                · intro w'
                  go_simp
                  with_reducible rfl
                rotate_left
                · simp only [Act.put, List.setIfInBounds_toArray, List.set_cons_zero, List.set_cons_succ, i64_w, i32_w]
                  rfl
                refine pure_ (i := 7) (N := some 69) (v := ?_) (a' := ?_) #[true, true, true, true, true, true, true, true, false, false, false, false, false, false, false, false] rfl rfl (any_of HT_.out (by kernel_rfl)) (fun _ _ _ h => h) (Or.inl ⟨by rfl, ?_⟩) ?_ ?_
                rotate_left
                · intro w'
                  go_simp
                  with_reducible rfl
                rotate_left
                · simp only [Act.put, List.setIfInBounds_toArray, List.set_cons_zero, List.set_cons_succ, i64_w, i32_w]
                  rfl
                refine take_ (i := 8) (N := some 70) (v := ?_) (a' := ?_) #[true, true, true, true, true, true, true, true, true, false, false, false, false, false, false, false] rfl rfl (take_ofW HT_.out HW_.out (by kernel_rfl)) (fun _ _ _ h => h) (Or.inl ⟨by rfl, ?_⟩) hHeld ?_ ?_
                rotate_left
                · rintro w' ⟨s0, s1, s2, s3, s4⟩
                  go_simp
                  with_reducible rfl
                rotate_left
                · simp only [Act.put, List.setIfInBounds_toArray, List.set_cons_zero, List.set_cons_succ, i64_w, i32_w]
                  rfl
                refine pure_ (i := 9) (N := some 71) (v := ?_) (a' := ?_) #[true, true, true, true, true, true, true, true, true, true, false, false, false, false, false, false] rfl rfl (any_of HT_.out (by kernel_rfl)) (fun _ _ _ h => h) (Or.inl ⟨by rfl, ?_⟩) ?_ ?_
                rotate_left
                · intro w'
                  go_simp
                  with_reducible rfl
                rotate_left
                · simp only [Act.put, List.setIfInBounds_toArray, List.set_cons_zero, List.set_cons_succ, i64_w, i32_w]
                  rfl
                refine pure_ (i := 10) (N := some 72) (v := ?_) (a' := ?_) #[true, true, true, true, true, true, true, true, true, true, true, false, false, false, false, false] rfl rfl (any_of HT_.out (by kernel_rfl)) (fun _ _ _ h => h) (Or.inl ⟨by rfl, ?_⟩) ?_ ?_
                rotate_left
                · intro w'
                  go_simp
                  with_reducible rfl
                rotate_left
                · simp only [Act.put, List.setIfInBounds_toArray, List.set_cons_zero, List.set_cons_succ, i64_w, i32_w]
                  rfl
                refine take_ (i := 11) (N := some 73) (v := ?_) (a' := ?_) #[true, true, true, true, true, true, true, true, true, true, true, true, false, false, false, false] rfl rfl (take_ofW HT_.out HW_.out (by kernel_rfl)) (fun _ _ _ h => h) (Or.inl ⟨by rfl, ?_⟩) hHeld ?_ ?_
                rotate_left
                · rintro w' ⟨s0, s1, s2, s3, s4⟩
                  go_simp
                  with_reducible rfl
                rotate_left
                · simp only [Act.put, List.setIfInBounds_toArray, List.set_cons_zero, List.set_cons_succ, i64_w, i32_w]
                  rfl
                refine pure_ (i := 12) (N := some 74) (v := ?_) (a' := ?_) #[true, true, true, true, true, true, true, true, true, true, true, true, true, false, false, false] rfl rfl (any_of HT_.out (by kernel_rfl)) (fun _ _ _ h => h) (Or.inl ⟨by rfl, ?_⟩) ?_ ?_
                rotate_left
                · intro w'
                  go_simp
                  with_reducible rfl
                rotate_left
                · simp only [Act.put, List.setIfInBounds_toArray, List.set_cons_zero, List.set_cons_succ, i64_w, i32_w]
                  rfl
                refine one_ (i := 13) (N := some 75) #[true, true, true, true, true, true, true, true, true, true, true, true, true, true, false, false] rfl rfl (one_of HT_.out (by kernel_rfl)) (by decide) (fun K hK => ?_)
                refine goes_ Try.func82 (by kernel_rfl) rfl #[.int .i64 (wrap64 (-x))] (by rfl) rfl rfl (by (try simp only [List.map_toArray, List.map_cons, List.map_nil]); first | done | rfl) ?_
                with_reducible refine (signatoryref09_Mod.calls (wrap64 (-x)) ((wrap64 (-x)) % 1073741789) _ (rMod_f _)).mono ?_
                rintro e w' ⟨rfl, ⟨nd, rfl⟩⟩
                refine ⟨_, rfl, ?_⟩
                refine hK.out _ _ ⟨hHeld.1, hHeld.2.1, hHeld.2.2.1, hHeld.2.2.2.1, hHeld.2.2.2.2⟩ (fun hHeld => ?_)
                clear hK K
                refine norm_ (a' := ?_) ?_ ?_
                rotate_left
                · show Act.put _ (some 75) _ = _
                  simp only [Act.put, List.setIfInBounds_toArray, List.set_cons_zero, List.set_cons_succ, i64_w, i32_w]
                  rfl
                refine pure_ (i := 14) (N := some 76) (v := ?_) (a' := ?_) #[true, true, true, true, true, true, true, true, true, true, true, true, true, true, true, false] rfl rfl (any_of HT_.out (by kernel_rfl)) (fun _ _ _ h => h) (Or.inl ⟨by rfl, ?_⟩) ?_ ?_
                rotate_left
                · intro w'
                  go_simp
                  with_reducible rfl
                rotate_left
                · simp only [Act.put, List.setIfInBounds_toArray, List.set_cons_zero, List.set_cons_succ, i64_w, i32_w]
                  rfl
                refine last_ (i := 15) (N := none) #[true, true, true, true, true, true, true, true, true, true, true, true, true, true, true, true] rfl rfl (one_of HT_.out (by kernel_rfl)) (by decide) (fun K hK => ?_)
                refine skip_ (w1 := ?_) (by rfl) rfl ?_ ?_
                rotate_left
                · go_simp
                  rfl
                refine hK.out _ _ ?_
                clear hK K
                refine done_ (done_of HT_.out (by kernel_rfl)) ?_
                rw [HNW.out]
                have hbw : Below wr.heap.size wr (wr.drewN (1 + nd)) := pw_below_drewN (Below.refl _ wr) _
                have G1 := Aside0.mk (HPUT.out _ hbw)
                rw [← HSU.out] at G1
                have G2 := Aside0.mk ((below_call HB.out hbw).setCell (p := ⟨g, pc, none⟩) HGB.out (.int .i64 (-x % 1073741789)))
                unfold onlyN
                dsimp only
                clear HPUT HO HB hHeld hbw
                go_wp2_with fail
                go_roundw
                case rel => exact ⟨k + 1, by omega, by go_num, ⟨G1.out⟩, ⟨G2.out⟩⟩
                case measure => simp [intOf]; omega
              · have hltz2 : ¬ (k : Int) < (r : Int) := by omega
                obtain rfl : k = r := by omega
                have HOF := Aside0.mk (show Kd.R (Kd.int .i64) 3 wr w4.heap.size (fun _ => True) (.slice (some ⟨g, 0, none⟩) t.length cap5) (wOf st t.length cc) by rw [← wS_all, HRr.out]; exact HO.out)
                obtain ⟨e_, hle9, hC9⟩ := Kd.R_reads' HOF.out
                clear e_
                have HC9 := Aside0.mk hC9
                have HBW := Aside0.mk (below_call HB4.out HB.out)
                have hwl := wOf_len st t.length cc
                have HWL := Aside0.mk hwl
                have HPR := Aside0.mk (product13_run (wOf st t.length cc) t (by rw [hwl]; omega) (by rw [hwl]; exact Nat.le_refl _))
                have hdi := dot_in (wOf st t.length cc) t
                have HSA := Aside0.mk (show sepAt st t cc = if dotP (wOf st t.length cc) t = 0 then none else some ((wOf st t.length cc).map fun x => fmul x (finv (dotP (wOf st t.length cc) t))) by unfold sepAt; rw [if_neg HNI.out])
                generalize wOf st t.length cc = wv at *
                have HPC := Aside0.mk (show Calls Try.prog 83 #[.slice (some ⟨g, 0, none⟩) t.length cap5, .slice A1 t.length c1] wr (fun e w' => e = .returned (.int .i64 (dotP wv t)) ∧ Drawn0 wr w') by
                  have := signatoryref13_Product.calls 1001 (some ⟨g, 0, none⟩) cap5 wv A1 c1 t (dotP wv t) wr HC9.out (by rw [HWL.out]; exact hle9) (Kd.C_below HC1.out HBW.out) hc1 HPR.out
                  rw [HWL.out] at this
                  exact this)
                clear hC9 hwl HO HPR hk hlt2
                go_wp2_with fail
                refine HPC.out.mono ?_
                rintro e w' ⟨rfl, ⟨nd, rfl⟩⟩
                clear HPC
                by_cases hp0 : dotP wv t = 0
                · have HS3 := Aside0.mk (show ∀ i, i < cc + 1 → sepAt st t i = none from fun i hi => by
                    by_cases e : i = cc
                    · rw [e, HSA.out, if_pos hp0]
                    · exact HN.out i (by omega))
                  rw [hp0]
                  clear hp0 HSA hdi
                  go_wp2_with fail
                  go_roundw
                  case rel => exact ⟨cc + 1, nx, by omega, hnx, by go_num, rfl, H1, H2, HS3, ⟨pw_below_drewN HB.out nd⟩⟩
                  case measure => simp [intOf]; omega
                · have hpb : ((dotP wv t) != 0) = true := by rw [bne_iff_ne]; exact hp0
                  have HRS := Aside0.mk (HFI.out cc _ hlt HN.out (by rw [HSA.out, if_neg hp0]))
                  rw [← times_map] at HRS
                  have HPI := Aside0.mk hdi
                  have HP0 := Aside0.mk hp0
                  generalize dotP wv t = p at *
                  clear hp0 HSA hdi
                  go_wp2_with fail
                  refine (InverseC HPI.out HP0.out _).mono ?_
                  rintro e w' ⟨rfl, ⟨nd2, rfl⟩⟩
                  have HFV := Aside0.mk (finv_in p)
                  generalize finv p = iv at *
                  go_wp2_with fail
                  refine (timesC (some ⟨g, 0, none⟩) cap5 wv HWL.out (by omega) iv HFV.out _ (Kd.C_drewN HC9.out (nd + nd2)) hle9).mono ?_
                  rintro e w9 ⟨v9, rfl, hR9, hb9⟩
                  have HB9 := Aside0.mk (below_call (pw_below_drewN HBW.out (nd + nd2)) hb9)
                  have HR9 := Aside0.mk (Kd.R_lower hR9 (base' := w.heap.size) (pw_below_drewN HBW.out (nd + nd2)).size)
                  clear hR9 hb9
                  go_wp2_with fail
                  go_ret3
                  rw [HRS.out]
                  exact ⟨_, rfl, HR9.out, HB9.out⟩
          · have hnz : ¬ (nx : Int) < (r : Int) := by omega
            clear HTEST
            go_wp2_with ((with_reducible refine gate_dst (N := 52) rfl ?_); refine Kd.R_make (Kd.int .i64) (w0 := w4) w4.heap.size 3 rfl (N := 52) rfl 31 _ _ rfl (t.length : Int) rfl rfl Try.underlying31 (.int .i64 0) 8 info3 rfl (by decide) (by omega) 0 (ok := fun _ => True) (okp := fun _ => True) rfl (fun _ hk => hk) trivial (by omega) (by omega) HB.out HB.out.size ?_; intro v5 w5 ho hb hg hnew_; rw [Int.toNat_natCast] at ho; obtain ⟨g, cap5, e5, hgb, _, _⟩ := Kd.R_form ho (by rw [List.length_replicate]; omega); rw [List.length_replicate] at e5; subst e5; have HO := Aside0.mk ho; have HB5 := Aside0.mk hb; have HGB := Aside0.mk hgb; have q9 := Kd.R_celln (enc := fun x => .int .i64 x) (h1 := fun _ => rfl) 0 ho (cc : Int) (by omega) (by omega); rw [Int.toNat_natCast] at q9; obtain ⟨q9, q8⟩ := q9; clear ho hb hg hnew_ hgb)
            have HO1 := Aside0.mk (Kd.R_putn (enc := fun x => .int .i64 x) (h1 := fun _ => rfl) HO.out (cc : Int) 1)
            rw [Int.toNat_natCast, ← wS_zero st t.length cc] at HO1
            have HB6 := Aside0.mk (HB5.out.setCell (p := ⟨g, cc, none⟩) HGB.out (.int .i64 1))
            clear HO HB5 q9 q8 HB
            go_loopw [13] (fun v13 wr => ∃ k : Nat, k ≤ r ∧ v13 = .int .i64 k ∧ Aside0 (Kd.R (Kd.int .i64) 3 wr w4.heap.size (fun _ => True) (.slice (some ⟨g, 0, none⟩) t.length cap5) (wS st t.length cc k)) ∧ Aside0 (Below w4.heap.size w4 wr)) (fun v13 _ => r - (intOf v13).toNat)
            case atStart => exact ⟨0, Nat.zero_le _, rfl, ⟨HO1.out⟩, ⟨HB6.out⟩⟩
            case round =>
              clear HO1 HB6
              obtain ⟨k, hk, rfl, HO, HB⟩ := hrel
              by_cases hlt2 : k < r
              · have hltz2 : (k : Int) < (r : Int) := by omega
                have hlt3 : k < st.2.length := by rw [HRr.out]; exact hlt2
                have hcn : st.2.getD k 0 < t.length := HRED.out.shape.lt k hlt3
                obtain ⟨apk, eap, q0k⟩ := at_int HC5.out HB.out k (by rw [List.length_map]; exact hlt3)
                subst eap
                rw [show (st.2.map Int.ofNat).getD k 0 = ((st.2.getD k 0 : Nat) : Int) by
                  rw [List.getD_eq_getElem?_getD, List.getD_eq_getElem?_getD, List.getElem?_map, List.getElem?_eq_getElem hlt3]; rfl] at q0k
                have hkz : k < zs.length := by omega
                obtain ⟨ad, A6, c6, rfl, q1, hle6, hC6⟩ := at_row HC4.out HB.out k (by rw [HRL.out]; exact hkz)
                have hw := HRED.out.good.row hkz
                obtain ⟨ad6, rfl, q2⟩ := at_int hC6 (Below.refl _ _) cc (by rw [hw]; exact hlt)
                rw [hw] at q1 hle6
                change wr.cell? (ad6.add cc) = some (.int .i64 (at2 st.1 k cc)) at q2
                have hkzz : (k : Int) < (zs.length : Int) := by omega
                have HSU := Aside0.mk (wS_succ (c := cc) HRED.out hlt3 HNI.out)
                have hxi := HRED.out.good.at k cc
                have hPUT := fun (w' : World) (hb : Below wr.heap.size wr w') => Kd.R_putn (enc := fun x => .int .i64 x) (h1 := fun _ => rfl) (Kd.R_below HO.out hb) ((st.2.getD k 0 : Nat) : Int) ((-at2 st.1 k cc) % 1073741789)
                have q5 := Kd.R_celln (enc := fun x => .int .i64 x) (h1 := fun _ => rfl) 0 HO.out ((st.2.getD k 0 : Nat) : Int) (by omega) (by omega)
                rw [Int.toNat_natCast] at q5
                simp only [Int.toNat_natCast] at hPUT
                obtain ⟨q5, q6⟩ := q5
                have HPUT := Aside0.mk hPUT
                generalize st.2.getD k 0 = pc at *
                generalize at2 st.1 k cc = x at *
                have hpz : (pc : Int) < (t.length : Int) := by omega
                have HNW := Aside0.mk (neg_wrap hxi)
                clear hC6 hw hlt3 hPUT hxi
                go_wp2_with fail
                refine wp_onlyN ?_
                refine start_ (n := 16) (S := fun w' => w'.cell? (apk.add k) = some (.int .i64 pc) ∧ w'.cell? (ad.add k) = some (.slice (some ad6) t.length c6) ∧ w'.cell? (ad6.add cc) = some (.int .i64 x) ∧ w'.cell? ⟨g, pc, none⟩ = some (.int .i64 (rdOf 0 (wS st t.length cc k) (pc : Int))) ∧ w'.frozen? ⟨g, pc, none⟩ = false) (ds := [15]) (Array.replicate 16 false) (by kernel_rfl) rfl rfl ⟨q0k, q1, q2, q5, q6⟩ (fun hHeld => ?_)
                refine with_tabW seT.tab16 seT.bits16 (fun HT_ HW_ => ?_)
                refine pure_ (i := 0) (N := some 62) (v := ?_) (a' := ?_) #[true, false, false, false, false, false, false, false, false, false, false, false, false, false, false, false] rfl rfl (any_of HT_.out (by kernel_rfl)) (fun _ _ _ h => h) (Or.inl ⟨by rfl, ?_⟩) ?_ ?_
                rotate_left
                · intro w'
                  go_simp
                  with_reducible rfl
                rotate_left
                · simp only [Act.put, List.setIfInBounds_toArray, List.set_cons_zero, List.set_cons_succ, i64_w, i32_w]
                  rfl
                refine pure_ (i := 1) (N := some 63) (v := ?_) (a' := ?_) #[true, true, false, false, false, false, false, false, false, false, false, false, false, false, false, false] rfl rfl (any_of HT_.out (by kernel_rfl)) (fun _ _ _ h => h) (Or.inl ⟨by rfl, ?_⟩) ?_ ?_
                rotate_left
                · intro w'
                  go_simp
                  with_reducible rfl
                rotate_left
                · simp only [Act.put, List.setIfInBounds_toArray, List.set_cons_zero, List.set_cons_succ, i64_w, i32_w]
                  rfl
                refine pure_ (i := 2) (N := some 64) (v := ?_) (a' := ?_) #[true, true, true, false, false, false, false, false, false, false, false, false, false, false, false, false] rfl rfl (any_of HT_.out (by kernel_rfl)) (fun _ _ _ h => h) (Or.inl ⟨by rfl, ?_⟩) ?_ ?_
                rotate_left
                · intro w'
                  go_simp
                  with_reducible rfl
                rotate_left
                · simp only [Act.put, List.setIfInBounds_toArray, List.set_cons_zero, List.set_cons_succ, i64_w, i32_w]
                  rfl
                refine pure_ (i := 3) (N := some 65) (v := ?_) (a' := ?_) #[true, true, true, true, false, false, false, false, false, false, false, false, false, false, false, false] rfl rfl (any_of HT_.out (by kernel_rfl)) (fun _ _ _ h => h) (Or.inl ⟨by rfl, ?_⟩) ?_ ?_
                rotate_left
                · intro w'
                  go_simp
                  with_reducible rfl
                rotate_left
                · simp only [Act.put, List.setIfInBounds_toArray, List.set_cons_zero, List.set_cons_succ, i64_w, i32_w]
                  rfl
                refine take_ (i := 4) (N := some 66) (v := ?_) (a' := ?_) #[true, true, true, true, true, false, false, false, false, false, false, false, false, false, false, false] rfl rfl (take_ofW HT_.out HW_.out (by kernel_rfl)) (fun _ _ _ h => h) (Or.inl ⟨by rfl, ?_⟩) hHeld ?_ ?_
                rotate_left
                · rintro w' ⟨s0, s1, s2, s3, s4⟩
                  go_simp
                  with_reducible rfl
                rotate_left
                · simp only [Act.put, List.setIfInBounds_toArray, List.set_cons_zero, List.set_cons_succ, i64_w, i32_w]
                  rfl
                refine pure_ (i := 5) (N := some 67) (v := ?_) (a' := ?_) #[true, true, true, true, true, true, false, false, false, false, false, false, false, false, false, false] rfl rfl (any_of HT_.out (by kernel_rfl)) (fun _ _ _ h => h) (Or.inl ⟨by rfl, ?_⟩) ?_ ?_
                rotate_left
                · intro w'
                  go_simp
                  with_reducible rfl
                rotate_left
                · simp only [Act.put, List.setIfInBounds_toArray, List.set_cons_zero, List.set_cons_succ, i64_w, i32_w]
                  rfl
                refine pure_ (i := 6) (N := some 68) (v := ?_) (a' := ?_) #[true, true, true, true, true, true, true, false, false, false, false, false, false, false, false, false] rfl rfl (any_of HT_.out (by kernel_rfl)) (fun _ _ _ h => h) (Or.inl ⟨by rfl, ?_⟩) ?_ ?_
                rotate_left
                · intro w'
                  go_simp
                  with_reducible rfl
                rotate_left
                · simp only [Act.put, List.setIfInBounds_toArray, List.set_cons_zero, List.set_cons_succ, i64_w, i32_w]
                  rfl
                refine pure_ (i := 7) (N := some 69) (v := ?_) (a' := ?_) #[true, true, true, true, true, true, true, true, false, false, false, false, false, false, false, false] rfl rfl (any_of HT_.out (by kernel_rfl)) (fun _ _ _ h => h) (Or.inl ⟨by rfl, ?_⟩) ?_ ?_
                rotate_left
                · intro w'
                  go_simp
                  with_reducible rfl
                rotate_left
                · simp only [Act.put, List.setIfInBounds_toArray, List.set_cons_zero, List.set_cons_succ, i64_w, i32_w]
                  rfl
                refine take_ (i := 8) (N := some 70) (v := ?_) (a' := ?_) #[true, true, true, true, true, true, true, true, true, false, false, false, false, false, false, false] rfl rfl (take_ofW HT_.out HW_.out (by kernel_rfl)) (fun _ _ _ h => h) (Or.inl ⟨by rfl, ?_⟩) hHeld ?_ ?_
                rotate_left
                · rintro w' ⟨s0, s1, s2, s3, s4⟩
                  go_simp
                  with_reducible rfl
                rotate_left
                · simp only [Act.put, List.setIfInBounds_toArray, List.set_cons_zero, List.set_cons_succ, i64_w, i32_w]
                  rfl
                refine pure_ (i := 9) (N := some 71) (v := ?_) (a' := ?_) #[true, true, true, true, true, true, true, true, true, true, false, false, false, false, false, false] rfl rfl (any_of HT_.out (by kernel_rfl)) (fun _ _ _ h => h) (Or.inl ⟨by rfl, ?_⟩) ?_ ?_
                rotate_left
                · intro w'
                  go_simp
                  with_reducible rfl
                rotate_left
                · simp only [Act.put, List.setIfInBounds_toArray, List.set_cons_zero, List.set_cons_succ, i64_w, i32_w]
                  rfl
                refine pure_ (i := 10) (N := some 72) (v := ?_) (a' := ?_) #[true, true, true, true, true, true, true, true, true, true, true, false, false, false, false, false] rfl rfl (any_of HT_.out (by kernel_rfl)) (fun _ _ _ h => h) (Or.inl ⟨by rfl, ?_⟩) ?_ ?_
                rotate_left
                · intro w'
                  go_simp
                  with_reducible rfl
                rotate_left
                · simp only [Act.put, List.setIfInBounds_toArray, List.set_cons_zero, List.set_cons_succ, i64_w, i32_w]
                  rfl
                refine take_ (i := 11) (N := some 73) (v := ?_) (a' := ?_) #[true, true, true, true, true, true, true, true, true, true, true, true, false, false, false, false] rfl rfl (take_ofW HT_.out HW_.out (by kernel_rfl)) (fun _ _ _ h => h) (Or.inl ⟨by rfl, ?_⟩) hHeld ?_ ?_
                rotate_left
                · rintro w' ⟨s0, s1, s2, s3, s4⟩
                  go_simp
                  with_reducible rfl
                rotate_left
                · simp only [Act.put, List.setIfInBounds_toArray, List.set_cons_zero, List.set_cons_succ, i64_w, i32_w]
                  rfl
                refine pure_ (i := 12) (N := some 74) (v := ?_) (a' := ?_) #[true, true, true, true, true, true, true, true, true, true, true, true, true, false, false, false] rfl rfl (any_of HT_.out (by kernel_rfl)) (fun _ _ _ h => h) (Or.inl ⟨by rfl, ?_⟩) ?_ ?_
                rotate_left
                · intro w'
                  go_simp
                  with_reducible rfl
                rotate_left
                · simp only [Act.put, List.setIfInBounds_toArray, List.set_cons_zero, List.set_cons_succ, i64_w, i32_w]
                  rfl
                refine one_ (i := 13) (N := some 75) #[true, true, true, true, true, true, true, true, true, true, true, true, true, true, false, false] rfl rfl (one_of HT_.out (by kernel_rfl)) (by decide) (fun K hK => ?_)
                refine goes_ Try.func82 (by kernel_rfl) rfl #[.int .i64 (wrap64 (-x))] (by rfl) rfl rfl (by (try simp only [List.map_toArray, List.map_cons, List.map_nil]); first | done | rfl) ?_
                with_reducible refine (signatoryref09_Mod.calls (wrap64 (-x)) ((wrap64 (-x)) % 1073741789) _ (rMod_f _)).mono ?_
                rintro e w' ⟨rfl, ⟨nd, rfl⟩⟩
                refine ⟨_, rfl, ?_⟩
                refine hK.out _ _ ⟨hHeld.1, hHeld.2.1, hHeld.2.2.1, hHeld.2.2.2.1, hHeld.2.2.2.2⟩ (fun hHeld => ?_)
                clear hK K
                refine norm_ (a' := ?_) ?_ ?_
                rotate_left
                · show Act.put _ (some 75) _ = _
                  simp only [Act.put, List.setIfInBounds_toArray, List.set_cons_zero, List.set_cons_succ, i64_w, i32_w]
                  rfl
                refine pure_ (i := 14) (N := some 76) (v := ?_) (a' := ?_) #[true, true, true, true, true, true, true, true, true, true, true, true, true, true, true, false] rfl rfl (any_of HT_.out (by kernel_rfl)) (fun _ _ _ h => h) (Or.inl ⟨by rfl, ?_⟩) ?_ ?_
                rotate_left
                · intro w'
                  go_simp
                  with_reducible rfl
                rotate_left
                · simp only [Act.put, List.setIfInBounds_toArray, List.set_cons_zero, List.set_cons_succ, i64_w, i32_w]
                  rfl
                refine last_ (i := 15) (N := none) #[true, true, true, true, true, true, true, true, true, true, true, true, true, true, true, true] rfl rfl (one_of HT_.out (by kernel_rfl)) (by decide) (fun K hK => ?_)
                refine skip_ (w1 := ?_) (by rfl) rfl ?_ ?_
                rotate_left
                · go_simp
                  rfl
                refine hK.out _ _ ?_
                clear hK K
                refine done_ (done_of HT_.out (by kernel_rfl)) ?_
                rw [HNW.out]
                have hbw : Below wr.heap.size wr (wr.drewN (1 + nd)) := pw_below_drewN (Below.refl _ wr) _
                have G1 := Aside0.mk (HPUT.out _ hbw)
                rw [← HSU.out] at G1
                have G2 := Aside0.mk ((below_call HB.out hbw).setCell (p := ⟨g, pc, none⟩) HGB.out (.int .i64 (-x % 1073741789)))
                unfold onlyN
                dsimp only
                clear HPUT HO HB hHeld hbw
                go_wp2_with fail
                go_roundw
                case rel => exact ⟨k + 1, by omega, by go_num, ⟨G1.out⟩, ⟨G2.out⟩⟩
                case measure => simp [intOf]; omega
              · have hltz2 : ¬ (k : Int) < (r : Int) := by omega
                obtain rfl : k = r := by omega
                have HOF := Aside0.mk (show Kd.R (Kd.int .i64) 3 wr w4.heap.size (fun _ => True) (.slice (some ⟨g, 0, none⟩) t.length cap5) (wOf st t.length cc) by rw [← wS_all, HRr.out]; exact HO.out)
                obtain ⟨e_, hle9, hC9⟩ := Kd.R_reads' HOF.out
                clear e_
                have HC9 := Aside0.mk hC9
                have HBW := Aside0.mk (below_call HB4.out HB.out)
                have hwl := wOf_len st t.length cc
                have HWL := Aside0.mk hwl
                have HPR := Aside0.mk (product13_run (wOf st t.length cc) t (by rw [hwl]; omega) (by rw [hwl]; exact Nat.le_refl _))
                have hdi := dot_in (wOf st t.length cc) t
                have HSA := Aside0.mk (show sepAt st t cc = if dotP (wOf st t.length cc) t = 0 then none else some ((wOf st t.length cc).map fun x => fmul x (finv (dotP (wOf st t.length cc) t))) by unfold sepAt; rw [if_neg HNI.out])
                generalize wOf st t.length cc = wv at *
                have HPC := Aside0.mk (show Calls Try.prog 83 #[.slice (some ⟨g, 0, none⟩) t.length cap5, .slice A1 t.length c1] wr (fun e w' => e = .returned (.int .i64 (dotP wv t)) ∧ Drawn0 wr w') by
                  have := signatoryref13_Product.calls 1001 (some ⟨g, 0, none⟩) cap5 wv A1 c1 t (dotP wv t) wr HC9.out (by rw [HWL.out]; exact hle9) (Kd.C_below HC1.out HBW.out) hc1 HPR.out
                  rw [HWL.out] at this
                  exact this)
                clear hC9 hwl HO HPR hk hlt2
                go_wp2_with fail
                refine HPC.out.mono ?_
                rintro e w' ⟨rfl, ⟨nd, rfl⟩⟩
                clear HPC
                by_cases hp0 : dotP wv t = 0
                · have HS3 := Aside0.mk (show ∀ i, i < cc + 1 → sepAt st t i = none from fun i hi => by
                    by_cases e : i = cc
                    · rw [e, HSA.out, if_pos hp0]
                    · exact HN.out i (by omega))
                  rw [hp0]
                  clear hp0 HSA hdi
                  go_wp2_with fail
                  go_roundw
                  case rel => exact ⟨cc + 1, nx, by omega, hnx, by go_num, rfl, H1, H2, HS3, ⟨pw_below_drewN HB.out nd⟩⟩
                  case measure => simp [intOf]; omega
                · have hpb : ((dotP wv t) != 0) = true := by rw [bne_iff_ne]; exact hp0
                  have HRS := Aside0.mk (HFI.out cc _ hlt HN.out (by rw [HSA.out, if_neg hp0]))
                  rw [← times_map] at HRS
                  have HPI := Aside0.mk hdi
                  have HP0 := Aside0.mk hp0
                  generalize dotP wv t = p at *
                  clear hp0 HSA hdi
                  go_wp2_with fail
                  refine (InverseC HPI.out HP0.out _).mono ?_
                  rintro e w' ⟨rfl, ⟨nd2, rfl⟩⟩
                  have HFV := Aside0.mk (finv_in p)
                  generalize finv p = iv at *
                  go_wp2_with fail
                  refine (timesC (some ⟨g, 0, none⟩) cap5 wv HWL.out (by omega) iv HFV.out _ (Kd.C_drewN HC9.out (nd + nd2)) hle9).mono ?_
                  rintro e w9 ⟨v9, rfl, hR9, hb9⟩
                  have HB9 := Aside0.mk (below_call (pw_below_drewN HBW.out (nd + nd2)) hb9)
                  have HR9 := Aside0.mk (Kd.R_lower hR9 (base' := w.heap.size) (pw_below_drewN HBW.out (nd + nd2)).size)
                  clear hR9 hb9
                  go_wp2_with fail
                  go_ret3
                  rw [HRS.out]
                  exact ⟨_, rfl, HR9.out, HB9.out⟩
      · have hltz : ¬ (cc : Int) < (t.length : Int) := by omega
        obtain rfl : cc = t.length := by omega
        have HRS := Aside0.mk (HNO.out HN.out)
        clear hlt hcm
        go_wp2_with fail
        go_ret3
        rw [HRS.out]
        exact ⟨_, rfl, Kd.R_nil _ _ _ _ _, below_call HB4.out HB.out⟩
  · have ea : sepAns zs t = ([], false, exam zs t) := by unfold sepAns; rw [if_pos hz]
    have hnz : ((exam zs t) != 0) = true := by rw [bne_iff_ne]; exact hz
    rw [ea]
    generalize exam zs t = r at *
    clear hz ea
    unfold AnsOut
    go_enter Try.func35, Try.ntmps35
    go_wp2_with fail
    refine (signatoryref13_Error.calls 301 A c zs A1 c1 t r w HC.out hc HC1.out hc1 HER.out).mono ?_
    rintro e w1 ⟨rfl, hb1⟩
    have HB1 := Aside0.mk hb1.below
    clear hb1
    go_wp2_with fail
    go_ret3
    exact ⟨_, rfl, Kd.R_nil _ _ _ _ _, HB1.out⟩
end Go.Proofs.Ytipdpfnjobfbpaa.H
