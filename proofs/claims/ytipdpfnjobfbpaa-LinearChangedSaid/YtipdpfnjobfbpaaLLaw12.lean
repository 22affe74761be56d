/- signatorylaw13.LinearChanged returns true, whatever it is given. -/
import Derived.Test.YtipdpfnjobfbpaaLLaw9
import Derived.Test.YtipdpfnjobfbpaaWTab
namespace Go.Proofs.Ytipdpfnjobfbpaa.H
open Go.RowKit Go.Shelf Go.Proofs.YtipdpfnjobfbpaaW.PrintWords Go.Proofs.YtipdpfnjobfbpaaW.PrintLast Go.Proofs.YtipdpfnjobfbpaaW.PrintMore Go.Proofs.Ytipdpfnjobfbpaa.P SG SG.Lin
set_option linter.unusedVariables false
set_option linter.unusedSimpArgs false
/-- A list of m numbers, the first k of them made. -/
def genL (f : Nat → Int) (m k : Nat) : List Int := (List.range m).map fun j => if j < k then f j else 0
theorem genL_len (f : Nat → Int) (m k : Nat) : (genL f m k).length = m := by simp [genL]
theorem genL_zero (f : Nat → Int) (m : Nat) : genL f m 0 = List.replicate m 0 := by
  refine List.ext_getElem (by simp [genL]) (fun q h1 h2 => ?_)
  simp [genL]
theorem genL_succ (f : Nat → Int) (m k : Nat) (h : k < m) : (genL f m k).set k (f k) = genL f m (k + 1) := by
  refine List.ext_getElem (by simp [genL]) (fun q h1 h2 => ?_)
  have e : ∀ j' (hh : q < (genL f m j').length), (genL f m j')[q] = if q < j' then f q else 0 := fun j' hh => by simp [genL]
  rw [List.getElem_set, e, e]
  by_cases hq : k = q
  · subst hq; rw [if_pos rfl, if_pos (by omega)]
  · rw [if_neg hq]
    by_cases h3 : q < k
    · rw [if_pos h3, if_pos (by omega)]
    · rw [if_neg h3, if_neg (by omega)]
theorem genL_at (f : Nat → Int) (m k j : Nat) (h : j < m) : (genL f m k).getD j 0 = if j < k then f j else 0 := by
  unfold genL; rw [getD_range_map h]
theorem genL_in {f : Nat → Int} (hf : ∀ j, InF (f j)) (m k : Nat) : ∀ q, q ∈ genL f m k → InF q := fun q hq => by
  obtain ⟨j, _, rfl⟩ := List.mem_map.1 hq
  split
  · exact hf j
  · exact InF0
theorem tmod_nat {i : Int} (h0 : 0 ≤ i) {n : Nat} (hn : 0 < n) : i % (n : Int) = ((i.toNat % n : Nat) : Int) := by
  rw [Int.natCast_emod, Int.toNat_of_nonneg h0]
/-- What is stored at column j. -/
def fch (zs : List (List Int)) (a b : Nat) (n : Int) (j : Nat) : Int := if a ≠ b then fadd (at2 zs a j) (fmul n (at2 zs b j)) else if n % 1073741789 ≠ 0 then fmul n (at2 zs a j) else at2 zs a j
def chT.T12 : Bool × List (List Nat × List Nat) := (true, [([], []), ([], []), ([0, 1], [0, 1]), ([2], [2]), ([], []), ([], []), ([], []), ([5, 6], [5, 6]), ([7], [7]), ([], []), ([8, 9], [8, 9]), ([10], [10]), ([], []), ([], []), ([], []), ([13, 14], [13, 14]), ([15], [15]), ([], []), ([16, 17], [16, 17]), ([18], [18]), ([12, 19], [12, 19]), ([11, 20, 20], [11, 20]), ([3, 4, 0, 1, 2, 3, 4, 5, 6, 7, 8, 9, 10, 11, 12, 13, 14, 15, 16, 17, 18, 19, 20, 21], [3, 4]), ([22, 21, 21, 0, 1, 2, 3, 4, 5, 6, 7, 8, 9, 10, 11, 12, 13, 14, 15, 16, 17, 18, 19, 20, 21], [21, 22])])
def chT.B12 : List Nat := [0, 0, 3, 7, 0, 0, 0, 96, 224, 0, 992, 2016, 0, 0, 0, 24576, 57344, 0, 253952, 516096, 1044480, 2097120, 4194303, 8388607]
theorem chT.tab12 : rtab .any (opsOf Try.f12 12) = chT.T12 := by kernel_rfl
theorem chT.bits12 : waitsOk chT.T12.2 chT.B12 = true := by kernel_rfl
def chT.T14 : Bool × List (List Nat × List Nat) := (true, [([], []), ([], []), ([0, 1], [0, 1]), ([2], [2]), ([], []), ([], []), ([], []), ([], []), ([6, 7], [6, 7]), ([8], [8]), ([], []), ([9, 10], [9, 10]), ([11], [11]), ([5, 12], [5, 12]), ([3, 4, 0, 1, 2, 3, 4, 5, 6, 7, 8, 9, 10, 11, 12, 13], [3, 4]), ([14, 13, 13, 0, 1, 2, 3, 4, 5, 6, 7, 8, 9, 10, 11, 12, 13], [13, 14])])
def chT.B14 : List Nat := [0, 0, 3, 7, 0, 0, 0, 0, 192, 448, 0, 1984, 4032, 8160, 16383, 32767]
theorem chT.tab14 : rtab .any (opsOf Try.f12 14) = chT.T14 := by kernel_rfl
theorem chT.bits14 : waitsOk chT.T14.2 chT.B14 = true := by kernel_rfl
def chT.T15 : Bool × List (List Nat × List Nat) := (true, [([], []), ([], []), ([0, 1], [0, 1]), ([2], [2]), ([], []), ([], []), ([], []), ([5, 6], [5, 6]), ([7], [7]), ([], []), ([8, 9], [8, 9]), ([10], [10]), ([3, 4, 0, 1, 2, 3, 4, 5, 6, 7, 8, 9, 10, 11], [3, 4]), ([12, 11, 0, 1, 2, 3, 4, 5, 6, 7, 8, 9, 10, 11], [11, 12])])
def chT.B15 : List Nat := [0, 0, 3, 7, 0, 0, 0, 96, 224, 0, 992, 2016, 4095, 8191]
theorem chT.tab15 : rtab .any (opsOf Try.f12 15) = chT.T15 := by kernel_rfl
theorem chT.bits15 : waitsOk chT.T15.2 chT.B15 = true := by kernel_rfl
set_option maxRecDepth 100000 in
set_option maxHeartbeats 8000000 in
theorem law12_calls (A : Option Addr) (c : Nat) (zs : List (List Int)) (A1 : Option Addr) (c1 : Nat) (t : List Int) (i k n : Int) (w : World) (hC : Kd.C kRows w A zs.length zs) (hc : zs.length ≤ c) (hC1 : Kd.C (Kd.int .i64) w A1 t.length t) (hc1 : t.length ≤ c1) (hi0 : 0 ≤ i) (hi1 : i < 256) (hk0 : 0 ≤ k) (hk1 : k < 256) :
    Calls Try.prog 12 #[.slice A zs.length c, .slice A1 t.length c1, .int .u8 i, .int .u8 k, .int .i64 n] w fun e w' => e = .returned (.bool true) ∧ Below w.heap.size w w' := by
  have HC := Aside0.mk hC
  have HC1 := Aside0.mk hC1
  obtain ⟨b, hr1, hr2⟩ := right_run zs t
  have HR1 := Aside0.mk (hr1 400 (Nat.le_refl _))
  have HR2 := Aside0.mk hr2
  clear hC hC1 hr1 hr2
  go_enter Try.func12, Try.ntmps12
  go_wp2_with fail
  refine (sane13_calls w).mono ?_
  rintro e w1 ⟨rfl, hb1⟩
  have HB1 := Aside0.mk hb1
  clear hb1
  go_wp2_with fail
  refine (signatorylaw13_right.calls 400 A c zs A1 c1 t b w1 (Kd.C_below HC.out HB1.out) hc (Kd.C_below HC1.out HB1.out) hc1 HR1.out).mono ?_
  rintro e w2 ⟨rfl, hb2⟩
  have HB2 := Aside0.mk (below_call HB1.out hb2.below)
  clear hb2 HB1 HR1
  cases b with
  | false =>
    clear HR2
    go_wp2_with fail
    go_ret
    exact ⟨rfl, HB2.out⟩
  | true =>
    obtain ⟨hn, hm, he⟩ := HR2.out rfl
    obtain ⟨_, _, hG, hf⟩ := exam_zero he
    have HE := Aside0.mk he
    have HG := Aside0.mk hG
    have HF := Aside0.mk hf
    clear HR2 he hG hf
    by_cases hN : zs.length = 0
    · have hNz : ((zs.length : Int) == 0) = true := by rw [beq_iff_eq]; omega
      clear hN
      go_wp2_with fail
      go_ret
      exact ⟨rfl, HB2.out⟩
    · have hNz : ((zs.length : Int) == 0) = false := by rw [beq_eq_false_iff_ne]; omega
      have hNp : 0 < zs.length := by omega
      have hNpz : (0 : Int) < (zs.length : Int) := by omega
      have HA := Aside0.mk (tmod_nat hi0 hNp)
      have HBb := Aside0.mk (tmod_nat hk0 hNp)
      have hal : i.toNat % zs.length < zs.length := Nat.mod_lt _ hNp
      have hbl : k.toNat % zs.length < zs.length := Nat.mod_lt _ hNp
      clear hN
      go_wp2_with fail
      go_quiet (fail)
      rw [HA.out, HBb.out]
      clear HA HBb
      generalize i.toNat % zs.length = a at *
      generalize k.toNat % zs.length = b at *
      have HB3 := Aside0.mk (pw_below_drewN HB2.out nq)
      generalize w2.drewN nq = w3 at *
      obtain ⟨hs, hsl, hCh, hok⟩ := heads (Kd.C_below HC.out HB3.out)
      have HCH := Aside0.mk hCh
      have HHK := Aside0.mk hok
      have HSL := Aside0.mk hsl
      have hsb : hs.length ≤ 16 := by omega
      have haz : (a : Int) < (zs.length : Int) := by omega
      have hbz : (b : Int) < (zs.length : Int) := by omega
      have hab : (hs.set a ((none : Option Addr), 0, 0)).length = zs.length := by rw [List.length_set, hsl]
      clear hsl hok hCh hab HB2
      go_wp2_with (first | ((with_reducible refine gate_dst (N := 46) rfl ?_); refine Kd.R_lit kH w3.heap.size 31 ?hg (w0 := w3) (N := 46) ?hd (xs := ([] : List (Option Addr × Nat × Nat))) (inner := []) (ok := fun _ => True) (okp := fun _ => True) ?hr ?hp (fun _ hk => hk) trivial (Below.refl _ _) (Nat.le_refl _) (by simp) ?_; (case hd => rfl); (case hg => rfl); (case hr => first | (go_simp; done) | (go_simp; rfl)); (case hp => exact (Reps.none _ _)); intro v6 w6 ho hb hg_ hnew_; have HO := Aside0.mk ho; have HB1 := Aside0.mk hb; clear ho hb hg_ hnew_) | ((with_reducible refine gate_builtin (b := .append) (xs := #[.tmp 46, .tmp 47]) rfl ?_); at_builtin; refine Kd.R_append_rows kH (w0 := w3) w3.heap.size rfl (.tmp 46) (.tmp 47) 40 31 (.slice none 0 0) 24 rfl Try.underlying40 info31 rfl (by decide) (by omega) v6 [] hs A _ _ (fun _ => True) (fun _ => False) rfl rfl HO.out (Kd.C_below HCH.out HB1.out) (fun _ _ h => h) (fun _ hk => hk.elim) (fun _ _ => trivial) HB1.out HB1.out.size (by simp only [List.length_nil]; omega) ?_; intro v7 w7 ho hb hg hat; rw [List.nil_append] at ho; have HB7 := Aside0.mk hb; obtain ⟨tb, cap7, e7, htb, htl, _⟩ := Kd.R_form ho (by rw [HSL.out]; exact hNp); rw [HSL.out] at e7; subst e7; have HO2 := Aside0.mk ho; have HTB := Aside0.mk htb; have HTL := Aside0.mk htl; clear ho hb hg hat htb htl) | ((with_reducible refine gate_dst (N := 53) rfl ?_); refine Kd.R_make (Kd.int .i64) (w0 := w3) w3.heap.size 3 rfl (N := 53) rfl 31 _ _ rfl (t.length : Int) rfl rfl Try.underlying31 (.int .i64 0) 8 info3 rfl (by decide) (by omega) 0 (ok := fun _ => True) (okp := fun _ => True) rfl (fun _ hk => hk) trivial (by omega) (by omega) HB7.out HB7.out.size ?_; intro v8 w8 ho hb hg hnew_; rw [Int.toNat_natCast] at ho; have HO3 := Aside0.mk ho; have HB8 := Aside0.mk hb; obtain ⟨A8, cap8, e8⟩ := Kd.R_slice ho; rw [List.length_replicate] at e8; subst e8; have HO2b := Aside0.mk (Kd.R_grown HO2.out hg (fun _ _ => by simp)); have hq8 := Kd.R_celln (enc := encH) (h1 := fun _ => rfl) (none, 0, 0) HO2b.out (a : Int) (by omega) (by omega); rw [Int.toNat_natCast] at hq8; obtain ⟨hq8a, hq8b⟩ := hq8; generalize encH (rdOf (none, 0, 0) hs (a : Int)) = ha0 at hq8a; clear ho hb hg hnew_))
      have HT9 := Aside0.mk (Kd.R_putn (enc := encH) (h1 := fun _ => rfl) HO2b.out (a : Int) (A8, t.length, cap8))
      rw [Int.toNat_natCast] at HT9
      obtain ⟨_, _, etb, _, htl8, cells, hcells⟩ := Kd.R_form HO2b.out (by rw [HSL.out]; exact hNp)
      injection etb with etb el_ ec_; clear el_ ec_; injection etb with etb; injection etb with etb
      subst etb
      have HR9 := Aside0.mk (Kd.R_set HO3.out hcells (fun q hq => by rw [List.mem_singleton.1 hq]; decide) a (encH (A8, t.length, cap8)))
      rw [← genL_zero (fch zs a b n)] at HR9
      have HB9 := Aside0.mk (HB8.out.setCell (p := ⟨tb, a, none⟩) HTB.out (encH (A8, t.length, cap8)))
      clear hcells htl8 hq8a hq8b HO3 HO2b HO2 HB8 HB7 HO HB1
      change Code.wp _ _ _ _ (w8.setCell ⟨tb, a, none⟩ (encH (A8, t.length, cap8)))
      generalize w8.setCell ⟨tb, a, none⟩ (encH (A8, t.length, cap8)) = w9 at *
      go_loopw [57] (fun v57 wr => ∃ k : Nat, k ≤ t.length ∧ v57 = .int .i64 k ∧ Aside0 (Kd.R kH 31 wr w3.heap.size (fun _ => True) (.slice (some ⟨tb, 0, none⟩) zs.length cap7) (hs.set a (A8, t.length, cap8))) ∧ Aside0 (Kd.R (Kd.int .i64) 3 wr w3.heap.size (fun _ => True) (.slice A8 t.length cap8) (genL (fch zs a b n) t.length k)) ∧ Aside0 (Below w3.heap.size w3 wr)) (fun v57 _ => t.length - (intOf v57).toNat)
      case atStart => exact ⟨0, Nat.zero_le _, rfl, HT9, HR9, HB9⟩
      case round =>
        clear HT9 HR9 HB9
        obtain ⟨k, hk, rfl, HT, HR, HB⟩ := hrel
        by_cases hlt : k < t.length
        · have hltz : (k : Int) < (t.length : Int) := by omega
          have HBW := Aside0.mk (below_call HB3.out HB.out)
          obtain ⟨g, capg, eg, hgb, hgl, gcells, hgc⟩ := Kd.R_form HR.out (by rw [genL_len]; exact Nat.lt_of_le_of_lt (Nat.zero_le k) hlt)
          rw [genL_len] at eg
          injection eg with eg _ eg2
          subst eg eg2
          obtain ⟨_, _, etb, htb, _, tcells, htc⟩ := Kd.R_form HT.out (by rw [List.length_set, HSL.out]; exact hNp)
          injection etb with etb el_ ec_; clear el_ ec_; injection etb with etb; injection etb with etb
          subst etb
          have q1 := (Kd.R_celln (enc := encH) (h1 := fun _ => rfl) (none, 0, 0) HT.out (a : Int) (by omega) (by omega)).1
          have qe : rdOf ((none, 0, 0) : Option Addr × Nat × Nat) (hs.set a (some ⟨g, 0, none⟩, t.length, cap8)) (a : Int) = (some ⟨g, 0, none⟩, t.length, cap8) := by
            unfold rdOf
            rw [Int.toNat_natCast, List.getD_eq_getElem?_getD, List.getElem?_set_self (by rw [HSL.out]; exact hal)]; rfl
          rw [qe, Int.toNat_natCast] at q1
          have q7 := Kd.R_celln (enc := fun x => .int .i64 x) (h1 := fun _ => rfl) 0 HR.out (k : Int) (by omega) (by omega)
          rw [Int.toNat_natCast] at q7
          obtain ⟨q7, q8⟩ := q7
          obtain ⟨ad, Aa, ca, rfl, q2, hlea, hCa⟩ := at_row HC.out HBW.out a hal
          obtain ⟨ada, rfl, q3⟩ := at_int hCa (Below.refl _ _) k (by rw [HG.out.row hal]; exact hlt)
          rw [HG.out.row hal] at q2 hlea
          obtain ⟨ad', Ab, cb, ead, q4, hleb, hCb⟩ := at_row HC.out HBW.out b hbl
          injection ead with ead
          subst ead
          obtain ⟨adb, rfl, q5⟩ := at_int hCb (Below.refl _ _) k (by rw [HG.out.row hbl]; exact hlt)
          rw [HG.out.row hbl] at q4 hleb
          obtain ⟨va, hva⟩ : ∃ v, at2 zs a k = v := ⟨_, rfl⟩
          obtain ⟨vb, hvb⟩ : ∃ v, at2 zs b k = v := ⟨_, rfl⟩
          change wr.cell? (ada.add k) = some (.int .i64 (at2 zs a k)) at q3
          change wr.cell? (adb.add k) = some (.int .i64 (at2 zs b k)) at q5
          rw [hva] at q3
          rw [hvb] at q5
          have FIN := Aside0.mk (show ∀ (w' : World), Below wr.heap.size wr w' → ∀ x : Int, fch zs a b n k = x → Kd.R kH 31 (w'.setCell ⟨g, k, none⟩ (.int .i64 x)) w3.heap.size (fun _ => True) (.slice (some ⟨tb, 0, none⟩) zs.length cap7) (hs.set a (some ⟨g, 0, none⟩, t.length, cap8)) ∧ Kd.R (Kd.int .i64) 3 (w'.setCell ⟨g, k, none⟩ (.int .i64 x)) w3.heap.size (fun _ => True) (.slice (some ⟨g, 0, none⟩) t.length cap8) (genL (fch zs a b n) t.length (k + 1)) ∧ Below w3.heap.size w3 (w'.setCell ⟨g, k, none⟩ (.int .i64 x)) by
            intro w' hbw x hx
            refine ⟨Kd.R_set (Kd.R_below HT.out hbw) (blk_below hgc hbw) (fun q hq => by rw [List.mem_singleton.1 hq]; decide) k _, ?_, (below_call HB.out hbw).setCell (p := ⟨g, k, none⟩) hgb _⟩
            have := Kd.R_putn (enc := fun x => .int .i64 x) (h1 := fun _ => rfl) (Kd.R_below HR.out hbw) (k : Int) x
            rw [Int.toNat_natCast, ← hx, genL_succ _ _ _ hlt] at this
            rw [← hx]
            exact this)
          clear hCa hCb htc hgc qe hgl htb hgb
          by_cases hab : a = b
          · subst hab
            obtain rfl : va = vb := hva.symm.trans hvb
            have hne : ((a : Int) != (a : Int)) = false := bne_self_eq_false _
            clear q4 q5 hleb hvb
            go_wp2_with fail
            refine (Mod_calls n _).mono ?_
            rintro e w' ⟨rfl, ⟨nd0, rfl⟩⟩
            by_cases hz : n % 1073741789 = 0
            · have HF1 := Aside0.mk (show fch zs a a n k = va by unfold fch; rw [if_neg (fun h => h rfl), if_neg (fun h => h hz), hva])
              rw [hz]
              clear hva hz
              go_wp2_with fail
              refine wp_onlyN ?_
              refine start_ (n := 14) (S := fun w' => w'.cell? ⟨tb, a, none⟩ = some (.slice (some ⟨g, 0, none⟩) t.length cap8) ∧ w'.cell? (ad.add a) = some (.slice (some ada) t.length ca) ∧ w'.cell? (ada.add k) = some (.int .i64 va) ∧ w'.cell? ⟨g, k, none⟩ = some (.int .i64 (rdOf 0 (genL (fch zs a a n) t.length k) (k : Int))) ∧ w'.frozen? ⟨g, k, none⟩ = false) (ds := [13]) (Array.replicate 14 false) (by kernel_rfl) rfl rfl ⟨q1, q2, q3, q7, q8⟩ (fun hHeld => ?_)
              refine with_tabW chT.tab15 chT.bits15 (fun HT_ HW_ => ?_)
              refine pure_ (i := 0) (N := some 104) (v := ?_) (a' := ?_) #[true, false, false, false, false, false, false, false, false, false, false, false, false, false] rfl rfl (any_of HT_.out (by kernel_rfl)) (fun _ _ _ h => h) (Or.inl ⟨by rfl, ?_⟩) ?_ ?_
              rotate_left
              · intro w'
                go_simp
                with_reducible rfl
              rotate_left
              · simp only [Act.put, List.setIfInBounds_toArray, List.set_cons_zero, List.set_cons_succ, i64_w, i32_w]
                rfl
              refine pure_ (i := 1) (N := some 105) (v := ?_) (a' := ?_) #[true, true, false, false, false, false, false, false, false, false, false, false, false, false] rfl rfl (any_of HT_.out (by kernel_rfl)) (fun _ _ _ h => h) (Or.inl ⟨by rfl, ?_⟩) ?_ ?_
              rotate_left
              · intro w'
                go_simp
                with_reducible rfl
              rotate_left
              · simp only [Act.put, List.setIfInBounds_toArray, List.set_cons_zero, List.set_cons_succ, i64_w, i32_w]
                rfl
              refine pure_ (i := 2) (N := some 106) (v := ?_) (a' := ?_) #[true, true, true, false, false, false, false, false, false, false, false, false, false, false] rfl rfl (any_of HT_.out (by kernel_rfl)) (fun _ _ _ h => h) (Or.inl ⟨by rfl, ?_⟩) ?_ ?_
              rotate_left
              · intro w'
                go_simp
                with_reducible rfl
              rotate_left
              · simp only [Act.put, List.setIfInBounds_toArray, List.set_cons_zero, List.set_cons_succ, i64_w, i32_w]
                rfl
              refine take_ (i := 3) (N := some 107) (v := ?_) (a' := ?_) #[true, true, true, true, false, false, false, false, false, false, false, false, false, false] rfl rfl (take_ofW HT_.out HW_.out (by kernel_rfl)) (fun _ _ _ h => h) (Or.inl ⟨by rfl, ?_⟩) hHeld ?_ ?_
              rotate_left
              · rintro w' ⟨s0, s1, s2, s3, s4⟩
                go_simp
                with_reducible rfl
              rotate_left
              · simp only [Act.put, List.setIfInBounds_toArray, List.set_cons_zero, List.set_cons_succ, i64_w, i32_w]
                rfl
              refine pure_ (i := 4) (N := some 108) (v := ?_) (a' := ?_) #[true, true, true, true, true, false, false, false, false, false, false, false, false, false] rfl rfl (any_of HT_.out (by kernel_rfl)) (fun _ _ _ h => h) (Or.inl ⟨by rfl, ?_⟩) ?_ ?_
              rotate_left
              · intro w'
                go_simp
                with_reducible rfl
              rotate_left
              · simp only [Act.put, List.setIfInBounds_toArray, List.set_cons_zero, List.set_cons_succ, i64_w, i32_w]
                rfl
              refine pure_ (i := 5) (N := some 109) (v := ?_) (a' := ?_) #[true, true, true, true, true, true, false, false, false, false, false, false, false, false] rfl rfl (any_of HT_.out (by kernel_rfl)) (fun _ _ _ h => h) (Or.inl ⟨by rfl, ?_⟩) ?_ ?_
              rotate_left
              · intro w'
                go_simp
                with_reducible rfl
              rotate_left
              · simp only [Act.put, List.setIfInBounds_toArray, List.set_cons_zero, List.set_cons_succ, i64_w, i32_w]
                rfl
              refine pure_ (i := 6) (N := some 110) (v := ?_) (a' := ?_) #[true, true, true, true, true, true, true, false, false, false, false, false, false, false] rfl rfl (any_of HT_.out (by kernel_rfl)) (fun _ _ _ h => h) (Or.inl ⟨by rfl, ?_⟩) ?_ ?_
              rotate_left
              · intro w'
                go_simp
                with_reducible rfl
              rotate_left
              · simp only [Act.put, List.setIfInBounds_toArray, List.set_cons_zero, List.set_cons_succ, i64_w, i32_w]
                rfl
              refine pure_ (i := 7) (N := some 111) (v := ?_) (a' := ?_) #[true, true, true, true, true, true, true, true, false, false, false, false, false, false] rfl rfl (any_of HT_.out (by kernel_rfl)) (fun _ _ _ h => h) (Or.inl ⟨by rfl, ?_⟩) ?_ ?_
              rotate_left
              · intro w'
                go_simp
                with_reducible rfl
              rotate_left
              · simp only [Act.put, List.setIfInBounds_toArray, List.set_cons_zero, List.set_cons_succ, i64_w, i32_w]
                rfl
              refine take_ (i := 8) (N := some 112) (v := ?_) (a' := ?_) #[true, true, true, true, true, true, true, true, true, false, false, false, false, false] rfl rfl (take_ofW HT_.out HW_.out (by kernel_rfl)) (fun _ _ _ h => h) (Or.inl ⟨by rfl, ?_⟩) hHeld ?_ ?_
              rotate_left
              · rintro w' ⟨s0, s1, s2, s3, s4⟩
                go_simp
                with_reducible rfl
              rotate_left
              · simp only [Act.put, List.setIfInBounds_toArray, List.set_cons_zero, List.set_cons_succ, i64_w, i32_w]
                rfl
              refine pure_ (i := 9) (N := some 113) (v := ?_) (a' := ?_) #[true, true, true, true, true, true, true, true, true, true, false, false, false, false] rfl rfl (any_of HT_.out (by kernel_rfl)) (fun _ _ _ h => h) (Or.inl ⟨by rfl, ?_⟩) ?_ ?_
              rotate_left
              · intro w'
                go_simp
                with_reducible rfl
              rotate_left
              · simp only [Act.put, List.setIfInBounds_toArray, List.set_cons_zero, List.set_cons_succ, i64_w, i32_w]
                rfl
              refine pure_ (i := 10) (N := some 114) (v := ?_) (a' := ?_) #[true, true, true, true, true, true, true, true, true, true, true, false, false, false] rfl rfl (any_of HT_.out (by kernel_rfl)) (fun _ _ _ h => h) (Or.inl ⟨by rfl, ?_⟩) ?_ ?_
              rotate_left
              · intro w'
                go_simp
                with_reducible rfl
              rotate_left
              · simp only [Act.put, List.setIfInBounds_toArray, List.set_cons_zero, List.set_cons_succ, i64_w, i32_w]
                rfl
              refine take_ (i := 11) (N := some 115) (v := ?_) (a' := ?_) #[true, true, true, true, true, true, true, true, true, true, true, true, false, false] rfl rfl (take_ofW HT_.out HW_.out (by kernel_rfl)) (fun _ _ _ h => h) (Or.inl ⟨by rfl, ?_⟩) hHeld ?_ ?_
              rotate_left
              · rintro w' ⟨s0, s1, s2, s3, s4⟩
                go_simp
                with_reducible rfl
              rotate_left
              · simp only [Act.put, List.setIfInBounds_toArray, List.set_cons_zero, List.set_cons_succ, i64_w, i32_w]
                rfl
              refine pure_ (i := 12) (N := some 116) (v := ?_) (a' := ?_) #[true, true, true, true, true, true, true, true, true, true, true, true, true, false] rfl rfl (any_of HT_.out (by kernel_rfl)) (fun _ _ _ h => h) (Or.inl ⟨by rfl, ?_⟩) ?_ ?_
              rotate_left
              · intro w'
                go_simp
                with_reducible rfl
              rotate_left
              · simp only [Act.put, List.setIfInBounds_toArray, List.set_cons_zero, List.set_cons_succ, i64_w, i32_w]
                rfl
              refine last_ (i := 13) (N := none) #[true, true, true, true, true, true, true, true, true, true, true, true, true, true] rfl rfl (one_of HT_.out (by kernel_rfl)) (by decide) (fun K hK => ?_)
              refine skip_ (w1 := ?_) (by rfl) rfl ?_ ?_
              rotate_left
              · go_simp
                rfl
              refine hK.out _ _ ?_
              clear hK K
              refine done_ (done_of HT_.out (by kernel_rfl)) ?_
              obtain ⟨f1, f2, f3⟩ := FIN.out (wr.drewN (nd0 + 1)) (pw_below_drewN (Below.refl _ _) _) _ HF1.out
              have G1 := Aside0.mk f1
              have G2 := Aside0.mk f2
              have G3 := Aside0.mk f3
              clear f1 f2 f3 HT HR HB FIN
              unfold onlyN
              dsimp only
              go_wp2_with fail
              go_roundw
              case rel => exact ⟨k + 1, by omega, by go_num, G1, G2, G3⟩
              case measure => simp [intOf]; omega
            · have HF1 := Aside0.mk (show fch zs a a n k = fmul n va by unfold fch; rw [if_neg (fun h => h rfl), if_pos hz, hva])
              have hzb : ((n % 1073741789) != 0) = true := by rw [bne_iff_ne]; exact hz
              generalize n % 1073741789 = nm at hzb ⊢
              clear hva hz
              go_wp2_with fail
              refine wp_onlyN ?_
              refine start_ (n := 16) (S := fun w' => w'.cell? ⟨tb, a, none⟩ = some (.slice (some ⟨g, 0, none⟩) t.length cap8) ∧ w'.cell? (ad.add a) = some (.slice (some ada) t.length ca) ∧ w'.cell? (ada.add k) = some (.int .i64 va) ∧ w'.cell? ⟨g, k, none⟩ = some (.int .i64 (rdOf 0 (genL (fch zs a a n) t.length k) (k : Int))) ∧ w'.frozen? ⟨g, k, none⟩ = false) (ds := [15]) (Array.replicate 16 false) (by kernel_rfl) rfl rfl ⟨q1, q2, q3, q7, q8⟩ (fun hHeld => ?_)
              refine with_tabW chT.tab14 chT.bits14 (fun HT_ HW_ => ?_)
              refine pure_ (i := 0) (N := some 89) (v := ?_) (a' := ?_) #[true, false, false, false, false, false, false, false, false, false, false, false, false, false, false, false] rfl rfl (any_of HT_.out (by kernel_rfl)) (fun _ _ _ h => h) (Or.inl ⟨by rfl, ?_⟩) ?_ ?_
              rotate_left
              · intro w'
                go_simp
                with_reducible rfl
              rotate_left
              · simp only [Act.put, List.setIfInBounds_toArray, List.set_cons_zero, List.set_cons_succ, i64_w, i32_w]
                rfl
              refine pure_ (i := 1) (N := some 90) (v := ?_) (a' := ?_) #[true, true, false, false, false, false, false, false, false, false, false, false, false, false, false, false] rfl rfl (any_of HT_.out (by kernel_rfl)) (fun _ _ _ h => h) (Or.inl ⟨by rfl, ?_⟩) ?_ ?_
              rotate_left
              · intro w'
                go_simp
                with_reducible rfl
              rotate_left
              · simp only [Act.put, List.setIfInBounds_toArray, List.set_cons_zero, List.set_cons_succ, i64_w, i32_w]
                rfl
              refine pure_ (i := 2) (N := some 91) (v := ?_) (a' := ?_) #[true, true, true, false, false, false, false, false, false, false, false, false, false, false, false, false] rfl rfl (any_of HT_.out (by kernel_rfl)) (fun _ _ _ h => h) (Or.inl ⟨by rfl, ?_⟩) ?_ ?_
              rotate_left
              · intro w'
                go_simp
                with_reducible rfl
              rotate_left
              · simp only [Act.put, List.setIfInBounds_toArray, List.set_cons_zero, List.set_cons_succ, i64_w, i32_w]
                rfl
              refine take_ (i := 3) (N := some 92) (v := ?_) (a' := ?_) #[true, true, true, true, false, false, false, false, false, false, false, false, false, false, false, false] rfl rfl (take_ofW HT_.out HW_.out (by kernel_rfl)) (fun _ _ _ h => h) (Or.inl ⟨by rfl, ?_⟩) hHeld ?_ ?_
              rotate_left
              · rintro w' ⟨s0, s1, s2, s3, s4⟩
                go_simp
                with_reducible rfl
              rotate_left
              · simp only [Act.put, List.setIfInBounds_toArray, List.set_cons_zero, List.set_cons_succ, i64_w, i32_w]
                rfl
              refine pure_ (i := 4) (N := some 93) (v := ?_) (a' := ?_) #[true, true, true, true, true, false, false, false, false, false, false, false, false, false, false, false] rfl rfl (any_of HT_.out (by kernel_rfl)) (fun _ _ _ h => h) (Or.inl ⟨by rfl, ?_⟩) ?_ ?_
              rotate_left
              · intro w'
                go_simp
                with_reducible rfl
              rotate_left
              · simp only [Act.put, List.setIfInBounds_toArray, List.set_cons_zero, List.set_cons_succ, i64_w, i32_w]
                rfl
              refine pure_ (i := 5) (N := some 94) (v := ?_) (a' := ?_) #[true, true, true, true, true, true, false, false, false, false, false, false, false, false, false, false] rfl rfl (any_of HT_.out (by kernel_rfl)) (fun _ _ _ h => h) (Or.inl ⟨by rfl, ?_⟩) ?_ ?_
              rotate_left
              · intro w'
                go_simp
                with_reducible rfl
              rotate_left
              · simp only [Act.put, List.setIfInBounds_toArray, List.set_cons_zero, List.set_cons_succ, i64_w, i32_w]
                rfl
              refine pure_ (i := 6) (N := some 95) (v := ?_) (a' := ?_) #[true, true, true, true, true, true, true, false, false, false, false, false, false, false, false, false] rfl rfl (any_of HT_.out (by kernel_rfl)) (fun _ _ _ h => h) (Or.inl ⟨by rfl, ?_⟩) ?_ ?_
              rotate_left
              · intro w'
                go_simp
                with_reducible rfl
              rotate_left
              · simp only [Act.put, List.setIfInBounds_toArray, List.set_cons_zero, List.set_cons_succ, i64_w, i32_w]
                rfl
              refine pure_ (i := 7) (N := some 96) (v := ?_) (a' := ?_) #[true, true, true, true, true, true, true, true, false, false, false, false, false, false, false, false] rfl rfl (any_of HT_.out (by kernel_rfl)) (fun _ _ _ h => h) (Or.inl ⟨by rfl, ?_⟩) ?_ ?_
              rotate_left
              · intro w'
                go_simp
                with_reducible rfl
              rotate_left
              · simp only [Act.put, List.setIfInBounds_toArray, List.set_cons_zero, List.set_cons_succ, i64_w, i32_w]
                rfl
              refine pure_ (i := 8) (N := some 97) (v := ?_) (a' := ?_) #[true, true, true, true, true, true, true, true, true, false, false, false, false, false, false, false] rfl rfl (any_of HT_.out (by kernel_rfl)) (fun _ _ _ h => h) (Or.inl ⟨by rfl, ?_⟩) ?_ ?_
              rotate_left
              · intro w'
                go_simp
                with_reducible rfl
              rotate_left
              · simp only [Act.put, List.setIfInBounds_toArray, List.set_cons_zero, List.set_cons_succ, i64_w, i32_w]
                rfl
              refine take_ (i := 9) (N := some 98) (v := ?_) (a' := ?_) #[true, true, true, true, true, true, true, true, true, true, false, false, false, false, false, false] rfl rfl (take_ofW HT_.out HW_.out (by kernel_rfl)) (fun _ _ _ h => h) (Or.inl ⟨by rfl, ?_⟩) hHeld ?_ ?_
              rotate_left
              · rintro w' ⟨s0, s1, s2, s3, s4⟩
                go_simp
                with_reducible rfl
              rotate_left
              · simp only [Act.put, List.setIfInBounds_toArray, List.set_cons_zero, List.set_cons_succ, i64_w, i32_w]
                rfl
              refine pure_ (i := 10) (N := some 99) (v := ?_) (a' := ?_) #[true, true, true, true, true, true, true, true, true, true, true, false, false, false, false, false] rfl rfl (any_of HT_.out (by kernel_rfl)) (fun _ _ _ h => h) (Or.inl ⟨by rfl, ?_⟩) ?_ ?_
              rotate_left
              · intro w'
                go_simp
                with_reducible rfl
              rotate_left
              · simp only [Act.put, List.setIfInBounds_toArray, List.set_cons_zero, List.set_cons_succ, i64_w, i32_w]
                rfl
              refine pure_ (i := 11) (N := some 100) (v := ?_) (a' := ?_) #[true, true, true, true, true, true, true, true, true, true, true, true, false, false, false, false] rfl rfl (any_of HT_.out (by kernel_rfl)) (fun _ _ _ h => h) (Or.inl ⟨by rfl, ?_⟩) ?_ ?_
              rotate_left
              · intro w'
                go_simp
                with_reducible rfl
              rotate_left
              · simp only [Act.put, List.setIfInBounds_toArray, List.set_cons_zero, List.set_cons_succ, i64_w, i32_w]
                rfl
              refine take_ (i := 12) (N := some 101) (v := ?_) (a' := ?_) #[true, true, true, true, true, true, true, true, true, true, true, true, true, false, false, false] rfl rfl (take_ofW HT_.out HW_.out (by kernel_rfl)) (fun _ _ _ h => h) (Or.inl ⟨by rfl, ?_⟩) hHeld ?_ ?_
              rotate_left
              · rintro w' ⟨s0, s1, s2, s3, s4⟩
                go_simp
                with_reducible rfl
              rotate_left
              · simp only [Act.put, List.setIfInBounds_toArray, List.set_cons_zero, List.set_cons_succ, i64_w, i32_w]
                rfl
              refine one_ (i := 13) (N := some 102) #[true, true, true, true, true, true, true, true, true, true, true, true, true, true, false, false] rfl rfl (one_of HT_.out (by kernel_rfl)) (by decide) (fun K hK => ?_)
              refine goes_ Try.func41 (by kernel_rfl) rfl #[.int .i64 n, .int .i64 va] (by rfl) rfl rfl (by (try simp only [List.map_toArray, List.map_cons, List.map_nil]); first | done | rfl) ?_
              with_reducible refine (Mul_calls n va _).mono ?_
              rintro e w' ⟨rfl, ⟨nd, rfl⟩⟩
              refine ⟨_, rfl, ?_⟩
              refine hK.out _ _ ⟨hHeld.1, hHeld.2.1, hHeld.2.2.1, hHeld.2.2.2.1, hHeld.2.2.2.2⟩ (fun hHeld => ?_)
              clear hK K
              refine norm_ (a' := ?_) ?_ ?_
              rotate_left
              · show Act.put _ (some 102) _ = _
                simp only [Act.put, List.setIfInBounds_toArray, List.set_cons_zero, List.set_cons_succ, i64_w, i32_w]
                rfl
              refine pure_ (i := 14) (N := some 103) (v := ?_) (a' := ?_) #[true, true, true, true, true, true, true, true, true, true, true, true, true, true, true, false] rfl rfl (any_of HT_.out (by kernel_rfl)) (fun _ _ _ h => h) (Or.inl ⟨by rfl, ?_⟩) ?_ ?_
              rotate_left
              · intro w'
                go_simp
                with_reducible rfl
              rotate_left
              · simp only [Act.put, List.setIfInBounds_toArray, List.set_cons_zero, List.set_cons_succ, i64_w, i32_w]
                rfl
              refine last_ (i := 15) (N := none) #[true, true, true, true, true, true, true, true, true, true, true, true, true, true, true, true] rfl rfl (one_of HT_.out (by kernel_rfl)) (by decide) (fun K hK => ?_)
              refine skip_ (w1 := ?_) (by rfl) rfl ?_ ?_
              rotate_left
              · go_simp
                rfl
              refine hK.out _ _ ?_
              clear hK K
              refine done_ (done_of HT_.out (by kernel_rfl)) ?_
              obtain ⟨f1, f2, f3⟩ := FIN.out (wr.drewN (nd0 + 1 + nd)) (pw_below_drewN (Below.refl _ _) _) _ HF1.out
              have G1 := Aside0.mk f1
              have G2 := Aside0.mk f2
              have G3 := Aside0.mk f3
              clear f1 f2 f3 HT HR HB FIN
              unfold onlyN
              dsimp only
              go_wp2_with fail
              go_roundw
              case rel => exact ⟨k + 1, by omega, by go_num, G1, G2, G3⟩
              case measure => simp [intOf]; omega
          · have hne : ((a : Int) != (b : Int)) = true := by rw [bne_iff_ne]; omega
            have HF1 := Aside0.mk (show fch zs a b n k = fadd va (fmul n vb) by unfold fch; rw [if_pos hab, hva, hvb])
            clear hva hvb
            go_wp2_with fail
            rename_i K0 hK0
            refine wp_onlyN ?_
            refine start_ (n := 24) (S := fun w' => w'.cell? ⟨tb, a, none⟩ = some (.slice (some ⟨g, 0, none⟩) t.length cap8) ∧ w'.cell? (ad.add a) = some (.slice (some ada) t.length ca) ∧ w'.cell? (ada.add k) = some (.int .i64 va) ∧ w'.cell? (ad.add b) = some (.slice (some adb) t.length cb) ∧ w'.cell? (adb.add k) = some (.int .i64 vb) ∧ w'.cell? ⟨g, k, none⟩ = some (.int .i64 (rdOf 0 (genL (fch zs a b n) t.length k) (k : Int))) ∧ w'.frozen? ⟨g, k, none⟩ = false) (ds := [23]) (Array.replicate 24 false) (by kernel_rfl) rfl rfl ⟨q1, q2, q3, q4, q5, q7, q8⟩ (fun hHeld => ?_)
            refine with_tabW chT.tab12 chT.bits12 (fun HT_ HW_ => ?_)
            refine pure_ (i := 0) (N := some 63) (v := ?_) (a' := ?_) #[true, false, false, false, false, false, false, false, false, false, false, false, false, false, false, false, false, false, false, false, false, false, false, false] rfl rfl (any_of HT_.out (by kernel_rfl)) (fun _ _ _ h => h) (Or.inl ⟨by rfl, ?_⟩) ?_ ?_
            rotate_left
            · intro w'
              go_simp
              with_reducible rfl
            rotate_left
            · simp only [Act.put, List.setIfInBounds_toArray, List.set_cons_zero, List.set_cons_succ, i64_w, i32_w]
              rfl
            refine pure_ (i := 1) (N := some 64) (v := ?_) (a' := ?_) #[true, true, false, false, false, false, false, false, false, false, false, false, false, false, false, false, false, false, false, false, false, false, false, false] rfl rfl (any_of HT_.out (by kernel_rfl)) (fun _ _ _ h => h) (Or.inl ⟨by rfl, ?_⟩) ?_ ?_
            rotate_left
            · intro w'
              go_simp
              with_reducible rfl
            rotate_left
            · simp only [Act.put, List.setIfInBounds_toArray, List.set_cons_zero, List.set_cons_succ, i64_w, i32_w]
              rfl
            refine pure_ (i := 2) (N := some 65) (v := ?_) (a' := ?_) #[true, true, true, false, false, false, false, false, false, false, false, false, false, false, false, false, false, false, false, false, false, false, false, false] rfl rfl (any_of HT_.out (by kernel_rfl)) (fun _ _ _ h => h) (Or.inl ⟨by rfl, ?_⟩) ?_ ?_
            rotate_left
            · intro w'
              go_simp
              with_reducible rfl
            rotate_left
            · simp only [Act.put, List.setIfInBounds_toArray, List.set_cons_zero, List.set_cons_succ, i64_w, i32_w]
              rfl
            refine take_ (i := 3) (N := some 66) (v := ?_) (a' := ?_) #[true, true, true, true, false, false, false, false, false, false, false, false, false, false, false, false, false, false, false, false, false, false, false, false] rfl rfl (take_ofW HT_.out HW_.out (by kernel_rfl)) (fun _ _ _ h => h) (Or.inl ⟨by rfl, ?_⟩) hHeld ?_ ?_
            rotate_left
            · rintro w' ⟨s0, s1, s2, s3, s4, s5, s6⟩
              go_simp
              with_reducible rfl
            rotate_left
            · simp only [Act.put, List.setIfInBounds_toArray, List.set_cons_zero, List.set_cons_succ, i64_w, i32_w]
              rfl
            refine pure_ (i := 4) (N := some 67) (v := ?_) (a' := ?_) #[true, true, true, true, true, false, false, false, false, false, false, false, false, false, false, false, false, false, false, false, false, false, false, false] rfl rfl (any_of HT_.out (by kernel_rfl)) (fun _ _ _ h => h) (Or.inl ⟨by rfl, ?_⟩) ?_ ?_
            rotate_left
            · intro w'
              go_simp
              with_reducible rfl
            rotate_left
            · simp only [Act.put, List.setIfInBounds_toArray, List.set_cons_zero, List.set_cons_succ, i64_w, i32_w]
              rfl
            refine pure_ (i := 5) (N := some 68) (v := ?_) (a' := ?_) #[true, true, true, true, true, true, false, false, false, false, false, false, false, false, false, false, false, false, false, false, false, false, false, false] rfl rfl (any_of HT_.out (by kernel_rfl)) (fun _ _ _ h => h) (Or.inl ⟨by rfl, ?_⟩) ?_ ?_
            rotate_left
            · intro w'
              go_simp
              with_reducible rfl
            rotate_left
            · simp only [Act.put, List.setIfInBounds_toArray, List.set_cons_zero, List.set_cons_succ, i64_w, i32_w]
              rfl
            refine pure_ (i := 6) (N := some 69) (v := ?_) (a' := ?_) #[true, true, true, true, true, true, true, false, false, false, false, false, false, false, false, false, false, false, false, false, false, false, false, false] rfl rfl (any_of HT_.out (by kernel_rfl)) (fun _ _ _ h => h) (Or.inl ⟨by rfl, ?_⟩) ?_ ?_
            rotate_left
            · intro w'
              go_simp
              with_reducible rfl
            rotate_left
            · simp only [Act.put, List.setIfInBounds_toArray, List.set_cons_zero, List.set_cons_succ, i64_w, i32_w]
              rfl
            refine pure_ (i := 7) (N := some 70) (v := ?_) (a' := ?_) #[true, true, true, true, true, true, true, true, false, false, false, false, false, false, false, false, false, false, false, false, false, false, false, false] rfl rfl (any_of HT_.out (by kernel_rfl)) (fun _ _ _ h => h) (Or.inl ⟨by rfl, ?_⟩) ?_ ?_
            rotate_left
            · intro w'
              go_simp
              with_reducible rfl
            rotate_left
            · simp only [Act.put, List.setIfInBounds_toArray, List.set_cons_zero, List.set_cons_succ, i64_w, i32_w]
              rfl
            refine take_ (i := 8) (N := some 71) (v := ?_) (a' := ?_) #[true, true, true, true, true, true, true, true, true, false, false, false, false, false, false, false, false, false, false, false, false, false, false, false] rfl rfl (take_ofW HT_.out HW_.out (by kernel_rfl)) (fun _ _ _ h => h) (Or.inl ⟨by rfl, ?_⟩) hHeld ?_ ?_
            rotate_left
            · rintro w' ⟨s0, s1, s2, s3, s4, s5, s6⟩
              go_simp
              with_reducible rfl
            rotate_left
            · simp only [Act.put, List.setIfInBounds_toArray, List.set_cons_zero, List.set_cons_succ, i64_w, i32_w]
              rfl
            refine pure_ (i := 9) (N := some 72) (v := ?_) (a' := ?_) #[true, true, true, true, true, true, true, true, true, true, false, false, false, false, false, false, false, false, false, false, false, false, false, false] rfl rfl (any_of HT_.out (by kernel_rfl)) (fun _ _ _ h => h) (Or.inl ⟨by rfl, ?_⟩) ?_ ?_
            rotate_left
            · intro w'
              go_simp
              with_reducible rfl
            rotate_left
            · simp only [Act.put, List.setIfInBounds_toArray, List.set_cons_zero, List.set_cons_succ, i64_w, i32_w]
              rfl
            refine pure_ (i := 10) (N := some 73) (v := ?_) (a' := ?_) #[true, true, true, true, true, true, true, true, true, true, true, false, false, false, false, false, false, false, false, false, false, false, false, false] rfl rfl (any_of HT_.out (by kernel_rfl)) (fun _ _ _ h => h) (Or.inl ⟨by rfl, ?_⟩) ?_ ?_
            rotate_left
            · intro w'
              go_simp
              with_reducible rfl
            rotate_left
            · simp only [Act.put, List.setIfInBounds_toArray, List.set_cons_zero, List.set_cons_succ, i64_w, i32_w]
              rfl
            refine take_ (i := 11) (N := some 74) (v := ?_) (a' := ?_) #[true, true, true, true, true, true, true, true, true, true, true, true, false, false, false, false, false, false, false, false, false, false, false, false] rfl rfl (take_ofW HT_.out HW_.out (by kernel_rfl)) (fun _ _ _ h => h) (Or.inl ⟨by rfl, ?_⟩) hHeld ?_ ?_
            rotate_left
            · rintro w' ⟨s0, s1, s2, s3, s4, s5, s6⟩
              go_simp
              with_reducible rfl
            rotate_left
            · simp only [Act.put, List.setIfInBounds_toArray, List.set_cons_zero, List.set_cons_succ, i64_w, i32_w]
              rfl
            refine pure_ (i := 12) (N := some 75) (v := ?_) (a' := ?_) #[true, true, true, true, true, true, true, true, true, true, true, true, true, false, false, false, false, false, false, false, false, false, false, false] rfl rfl (any_of HT_.out (by kernel_rfl)) (fun _ _ _ h => h) (Or.inl ⟨by rfl, ?_⟩) ?_ ?_
            rotate_left
            · intro w'
              go_simp
              with_reducible rfl
            rotate_left
            · simp only [Act.put, List.setIfInBounds_toArray, List.set_cons_zero, List.set_cons_succ, i64_w, i32_w]
              rfl
            refine pure_ (i := 13) (N := some 76) (v := ?_) (a' := ?_) #[true, true, true, true, true, true, true, true, true, true, true, true, true, true, false, false, false, false, false, false, false, false, false, false] rfl rfl (any_of HT_.out (by kernel_rfl)) (fun _ _ _ h => h) (Or.inl ⟨by rfl, ?_⟩) ?_ ?_
            rotate_left
            · intro w'
              go_simp
              with_reducible rfl
            rotate_left
            · simp only [Act.put, List.setIfInBounds_toArray, List.set_cons_zero, List.set_cons_succ, i64_w, i32_w]
              rfl
            refine pure_ (i := 14) (N := some 77) (v := ?_) (a' := ?_) #[true, true, true, true, true, true, true, true, true, true, true, true, true, true, true, false, false, false, false, false, false, false, false, false] rfl rfl (any_of HT_.out (by kernel_rfl)) (fun _ _ _ h => h) (Or.inl ⟨by rfl, ?_⟩) ?_ ?_
            rotate_left
            · intro w'
              go_simp
              with_reducible rfl
            rotate_left
            · simp only [Act.put, List.setIfInBounds_toArray, List.set_cons_zero, List.set_cons_succ, i64_w, i32_w]
              rfl
            refine pure_ (i := 15) (N := some 78) (v := ?_) (a' := ?_) #[true, true, true, true, true, true, true, true, true, true, true, true, true, true, true, true, false, false, false, false, false, false, false, false] rfl rfl (any_of HT_.out (by kernel_rfl)) (fun _ _ _ h => h) (Or.inl ⟨by rfl, ?_⟩) ?_ ?_
            rotate_left
            · intro w'
              go_simp
              with_reducible rfl
            rotate_left
            · simp only [Act.put, List.setIfInBounds_toArray, List.set_cons_zero, List.set_cons_succ, i64_w, i32_w]
              rfl
            refine take_ (i := 16) (N := some 79) (v := ?_) (a' := ?_) #[true, true, true, true, true, true, true, true, true, true, true, true, true, true, true, true, true, false, false, false, false, false, false, false] rfl rfl (take_ofW HT_.out HW_.out (by kernel_rfl)) (fun _ _ _ h => h) (Or.inl ⟨by rfl, ?_⟩) hHeld ?_ ?_
            rotate_left
            · rintro w' ⟨s0, s1, s2, s3, s4, s5, s6⟩
              go_simp
              with_reducible rfl
            rotate_left
            · simp only [Act.put, List.setIfInBounds_toArray, List.set_cons_zero, List.set_cons_succ, i64_w, i32_w]
              rfl
            refine pure_ (i := 17) (N := some 80) (v := ?_) (a' := ?_) #[true, true, true, true, true, true, true, true, true, true, true, true, true, true, true, true, true, true, false, false, false, false, false, false] rfl rfl (any_of HT_.out (by kernel_rfl)) (fun _ _ _ h => h) (Or.inl ⟨by rfl, ?_⟩) ?_ ?_
            rotate_left
            · intro w'
              go_simp
              with_reducible rfl
            rotate_left
            · simp only [Act.put, List.setIfInBounds_toArray, List.set_cons_zero, List.set_cons_succ, i64_w, i32_w]
              rfl
            refine pure_ (i := 18) (N := some 81) (v := ?_) (a' := ?_) #[true, true, true, true, true, true, true, true, true, true, true, true, true, true, true, true, true, true, true, false, false, false, false, false] rfl rfl (any_of HT_.out (by kernel_rfl)) (fun _ _ _ h => h) (Or.inl ⟨by rfl, ?_⟩) ?_ ?_
            rotate_left
            · intro w'
              go_simp
              with_reducible rfl
            rotate_left
            · simp only [Act.put, List.setIfInBounds_toArray, List.set_cons_zero, List.set_cons_succ, i64_w, i32_w]
              rfl
            refine take_ (i := 19) (N := some 82) (v := ?_) (a' := ?_) #[true, true, true, true, true, true, true, true, true, true, true, true, true, true, true, true, true, true, true, true, false, false, false, false] rfl rfl (take_ofW HT_.out HW_.out (by kernel_rfl)) (fun _ _ _ h => h) (Or.inl ⟨by rfl, ?_⟩) hHeld ?_ ?_
            rotate_left
            · rintro w' ⟨s0, s1, s2, s3, s4, s5, s6⟩
              go_simp
              with_reducible rfl
            rotate_left
            · simp only [Act.put, List.setIfInBounds_toArray, List.set_cons_zero, List.set_cons_succ, i64_w, i32_w]
              rfl
            refine one_ (i := 20) (N := some 83) #[true, true, true, true, true, true, true, true, true, true, true, true, true, true, true, true, true, true, true, true, true, false, false, false] rfl rfl (one_of HT_.out (by kernel_rfl)) (by decide) (fun K hK => ?_)
            refine goes_ Try.func41 (by kernel_rfl) rfl #[.int .i64 n, .int .i64 vb] (by rfl) rfl rfl (by (try simp only [List.map_toArray, List.map_cons, List.map_nil]); first | done | rfl) ?_
            with_reducible refine (Mul_calls n vb _).mono ?_
            rintro e w' ⟨rfl, ⟨nd, rfl⟩⟩
            refine ⟨_, rfl, ?_⟩
            refine hK.out _ _ ⟨hHeld.1, hHeld.2.1, hHeld.2.2.1, hHeld.2.2.2.1, hHeld.2.2.2.2.1, hHeld.2.2.2.2.2.1, hHeld.2.2.2.2.2.2⟩ (fun hHeld => ?_)
            clear hK K
            refine norm_ (a' := ?_) ?_ ?_
            rotate_left
            · show Act.put _ (some 83) _ = _
              simp only [Act.put, List.setIfInBounds_toArray, List.set_cons_zero, List.set_cons_succ, i64_w, i32_w]
              rfl
            refine one_ (i := 21) (N := some 84) #[true, true, true, true, true, true, true, true, true, true, true, true, true, true, true, true, true, true, true, true, true, true, false, false] rfl rfl (one_of HT_.out (by kernel_rfl)) (by decide) (fun K hK => ?_)
            refine goes_ Try.func40 (by kernel_rfl) rfl #[.int .i64 va, .int .i64 (fmul n vb)] (by rfl) rfl rfl (by (try simp only [List.map_toArray, List.map_cons, List.map_nil]); first | done | rfl) ?_
            with_reducible refine (Add_calls va (fmul n vb) _).mono ?_
            rintro e w' ⟨rfl, hb⟩
            refine ⟨_, rfl, ?_⟩
            have hS2 := And.intro (pw_cell_below hb hHeld.1) (And.intro (pw_cell_below hb hHeld.2.1) (And.intro (pw_cell_below hb hHeld.2.2.1) (And.intro (pw_cell_below hb hHeld.2.2.2.1) (And.intro (pw_cell_below hb hHeld.2.2.2.2.1) (And.intro (pw_cell_below hb hHeld.2.2.2.2.2.1) (frozen_below hb hHeld.2.2.2.2.2.1 hHeld.2.2.2.2.2.2))))))
            have HBA := Aside0.mk hb
            clear hb
            have hfz2 := hS2.2.2.2.2.2.2
            have hcl2 := hS2.2.2.2.2.2.1
            refine hK.out _ _ hS2 (fun hHeld => ?_)
            clear hK K
            refine norm_ (a' := ?_) ?_ ?_
            rotate_left
            · show Act.put _ (some 84) _ = _
              simp only [Act.put, List.setIfInBounds_toArray, List.set_cons_zero, List.set_cons_succ, i64_w, i32_w]
              rfl
            refine pure_ (i := 22) (N := some 85) (v := ?_) (a' := ?_) #[true, true, true, true, true, true, true, true, true, true, true, true, true, true, true, true, true, true, true, true, true, true, true, false] rfl rfl (any_of HT_.out (by kernel_rfl)) (fun _ _ _ h => h) (Or.inl ⟨by rfl, ?_⟩) ?_ ?_
            rotate_left
            · intro w'
              go_simp
              with_reducible rfl
            rotate_left
            · simp only [Act.put, List.setIfInBounds_toArray, List.set_cons_zero, List.set_cons_succ, i64_w, i32_w]
              rfl
            refine last_ (i := 23) (N := none) #[true, true, true, true, true, true, true, true, true, true, true, true, true, true, true, true, true, true, true, true, true, true, true, true] rfl rfl (one_of HT_.out (by kernel_rfl)) (by decide) (fun K hK => ?_)
            refine skip_ (w1 := ?_) (by rfl) rfl ?_ ?_
            rotate_left
            · go_simp
              rfl
            refine hK.out _ _ ?_
            clear hK K
            refine done_ (done_of HT_.out (by kernel_rfl)) ?_
            obtain ⟨f1, f2, f3⟩ := FIN.out w' ((below_drew (Below.refl _ wr)).trans ((pw_below_drewN (Below.refl _ _) nd).trans HBA.out)) _ HF1.out
            have G1 := Aside0.mk f1
            have G2 := Aside0.mk f2
            have G3 := Aside0.mk f3
            clear f1 f2 f3 HT HR HB FIN
            unfold onlyN
            dsimp only
            generalize w'.setCell _ _ = wz at *
            go_wp2_with fail
            go_roundw
            case rel => exact ⟨k + 1, by omega, by go_num, G1, G2, G3⟩
            case measure => simp [intOf]; omega
        · have hltz : ¬ (k : Int) < (t.length : Int) := by omega
          obtain rfl : k = t.length := by omega
          obtain ⟨A9, c9, e9, hle9, hC9⟩ := Kd.R_reads HR.out
          rw [genL_len] at e9 hle9 hC9
          injection e9 with e9 _ e9c
          subst e9 e9c
          obtain ⟨A10, c10, e10, hle10, hC10⟩ := Kd.R_reads HT.out
          have hsl : (hs.set a (A8, t.length, cap8)).length = (zs.set a (genL (fch zs a b n) t.length t.length)).length := by rw [List.length_set, List.length_set, HSL.out]
          have hzl : (zs.set a (genL (fch zs a b n) t.length t.length)).length = zs.length := List.length_set
          rw [hsl, hzl] at e10 hle10 hC10
          injection e10 with e10 _ e10c
          subst e10 e10c
          have hfi : ∀ j, InF (fch zs a b n j) := fun j => by
            unfold fch
            split
            · exact fadd_in _ _
            · split
              · exact fmul_in _ _
              · exact HG.out.at a j
          have hat : ∀ j, j < t.length → (genL (fch zs a b n) t.length t.length).getD j 0 = fch zs a b n j := fun j hj => by rw [genL_at _ _ _ _ hj, if_pos hj]
          obtain ⟨hG2, hS2⟩ := changed_same HG.out hal hbl n (genL_len (fch zs a b n) t.length t.length) (genL_in hfi _ _)
            (fun h j hj => by rw [hat j hj]; unfold fch; rw [if_pos h])
            (fun h hz j hj => by rw [hat j hj]; unfold fch; rw [if_neg (fun q => q h), if_pos hz])
            (fun h hz j hj => by rw [hat j hj]; unfold fch; rw [if_neg (fun q => q h), if_neg (fun q => q hz)])
          have hrs := rank_same HG.out hG2 hS2
          have hcs := comb_same HG.out hG2 hS2 rfl HF.out
          have hrows := rows_of (zs := zs.set a (genL (fch zs a b n) t.length t.length)) hC10 hsl (fun i p x hp hx => by
            by_cases hi : a = i
            · subst hi
              rw [List.getElem?_set_self (by rw [HSL.out]; exact hal)] at hp
              rw [List.getElem?_set_self hal] at hx
              cases hp; cases hx
              exact ⟨(genL_len _ _ _).symm, by rw [genL_len]; exact hle9, by rw [genL_len]; exact hC9⟩
            · rw [List.getElem?_set_ne hi] at hp hx
              exact (HHK.out i p x hp hx).below HB.out)
          have hck2 := checkP_good hG2 (by omega) (by omega)
          have hex2 := exam_good hG2 (by omega) (by omega) rfl HF.out
          generalize zs.set a (genL (fch zs a b n) t.length t.length) = zs2 at *
          have HZL := Aside0.mk hzl
          have HRS := Aside0.mk hrs
          have HCS := Aside0.mk hcs
          have HRW := Aside0.mk hrows
          have HCK2 := Aside0.mk hck2
          have HEX2 := Aside0.mk hex2
          have HCK := Aside0.mk (checkP_good HG.out (by omega) (by omega))
          have HBW := Aside0.mk (below_call HB3.out HB.out)
          clear hsl hzl hfi hat hG2 hS2 hrs hcs hrows hck2 hex2 hle9 hC9 hC10 HT HR hk hlt
          go_wp2_with fail
          refine (rank_good HCK.out rfl (Kd.C_below HC.out HBW.out) hc).mono ?_
          rintro e w4 ⟨rfl, hb4⟩
          have HB4 := Aside0.mk (below_call HBW.out hb4)
          have HRW4 := Aside0.mk (Kd.C_below HRW.out hb4)
          clear hb4
          go_wp2_with fail
          refine (rank_good HCK2.out HZL.out (by rw [HZL.out]; exact HRW4.out) hle10).mono ?_
          rintro e w5 ⟨rfl, hb5⟩
          have HB5 := Aside0.mk (below_call HB4.out hb5)
          have HRW5 := Aside0.mk (Kd.C_below HRW4.out hb5)
          clear hb5
          go_wp2_with fail
          refine (comb_good HE.out rfl (Kd.C_below HC.out HB5.out) hc (Kd.C_below HC1.out HB5.out) hc1).mono ?_
          rintro e w6 ⟨⟨A6, c6, rfl, _, _⟩, hb6⟩
          have HB6 := Aside0.mk (below_call HB5.out hb6)
          have HRW6 := Aside0.mk (Kd.C_below HRW5.out hb6)
          clear hb6
          rw [HCS.out]
          generalize ((combineP zs t).getD []).length = n6
          go_wp2_with fail
          refine (comb_good HEX2.out HZL.out (by rw [HZL.out]; exact HRW6.out) hle10 (Kd.C_below HC1.out HB6.out) hc1).mono ?_
          rintro e w7 ⟨⟨A7, c7', rfl, _, _⟩, hb7⟩
          have HB7 := Aside0.mk (below_call HB6.out hb7)
          clear hb7
          generalize ((combineP zs2 t).getD []).length = n7
          generalize (combineP zs2 t).isSome = bb at *
          rw [HRS.out]
          go_wp2_with fail
          go_ret
          exact ⟨rfl, HB7.out⟩
end Go.Proofs.Ytipdpfnjobfbpaa.H
