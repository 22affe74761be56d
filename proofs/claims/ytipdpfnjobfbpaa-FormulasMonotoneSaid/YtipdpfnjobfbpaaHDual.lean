/- signatorylaw22.dual: what it makes of every small right gate. -/
import Derived.Test.YtipdpfnjobfbpaaHPure22c
import Derived.Test.YtipdpfnjobfbpaaHG2
import Derived.Deep.RegionLaw
namespace Go.Proofs.Ytipdpfnjobfbpaa.H
open Go.RowKit Go.Shelf Go.Proofs.YtipdpfnjobfbpaaW.PrintWords Go.Proofs.YtipdpfnjobfbpaaW.PrintLast Go.Proofs.YtipdpfnjobfbpaaW.PrintMore Go.Proofs.Ytipdpfnjobfbpaa.P
set_option linter.unusedVariables false
set_option linter.unusedSimpArgs false

def okD (T : S24) : Bool := if 0 ≤ T.f0 then true else decide (T.f1 ≤ (T.f2.length : Int)) && T.f2.attach.all fun x => okD x.1
termination_by SizeOf.sizeOf T
decreasing_by exact lt_of_mem_gate x.2
theorem okD_eq (T : S24) : okD T = if 0 ≤ T.f0 then true else decide (T.f1 ≤ (T.f2.length : Int)) && T.f2.all okD := by
  rw [okD]
  by_cases h : 0 ≤ T.f0
  · rw [if_pos h, if_pos h]
  · rw [if_neg h, if_neg h]; simp
def dualT (T : S24) : S24 := if 0 ≤ T.f0 then T else ⟨-1, (T.f2.length : Int) - T.f1 + 1, T.f2.attach.map fun x => dualT x.1⟩
termination_by SizeOf.sizeOf T
decreasing_by exact lt_of_mem_gate x.2
theorem dualT_eq (T : S24) : dualT T = if 0 ≤ T.f0 then T else ⟨-1, (T.f2.length : Int) - T.f1 + 1, T.f2.map dualT⟩ := by
  rw [dualT]
  by_cases h : 0 ≤ T.f0
  · rw [if_pos h, if_pos h]
  · rw [if_neg h, if_neg h]; simp
theorem lv_mem {T x : S24} (h : x ∈ T.f2) : lv x ≤ lv T := by
  rw [lv_eq T]
  have : T.f2.length ≠ 0 := by intro e; rw [List.eq_nil_of_length_eq_zero e] at h; cases h
  rw [if_neg this]
  obtain ⟨a, b, e⟩ := List.append_of_mem h
  rw [e]; simp; omega
theorem lv_len (T : S24) : T.f2.length ≤ lv T := by
  rw [lv_eq T]
  split
  · omega
  · have : ∀ l : List S24, l.length ≤ (l.map lv).sum := by
      intro l
      induction l with
      | nil => simp
      | cons x l ih => have := lv_pos x; simp; omega
    exact this _
/-- What a call of 'dual' says. -/
def DualSays (T : S24) : Prop :=
  ∀ (okP : Nat → Prop) (A2 : Option Addr) (c2 : Nat) (W : World), T.f2.length ≤ c2 → Kd.F k24 W okP A2 T.f2.length T.f2 →
    Calls Try.prog 24 #[gv T A2 c2] W fun e W' => ∃ (n m : Int) (v : Value) (xs : List S24), e = .returned (.tuple #[.agg #[.int .i64 n, .int .i64 m, v], .bool (okD T)]) ∧
      Kd.V k24 24 W' W.heap.size (fun k => okP k ∨ W.heap.size ≤ k) v xs ∧ (okD T = true → (⟨n, m, xs⟩ : S24) = dualT T) ∧ Below W.heap.size W W'
def DualPost (T : S24) (okP : Nat → Prop) (W : World) (e : Ending) (W' : World) : Prop :=
  ∃ (n m : Int) (v : Value) (xs : List S24), e = .returned (.tuple #[.agg #[.int .i64 n, .int .i64 m, v], .bool (okD T)]) ∧
      Kd.V k24 24 W' W.heap.size (fun k => okP k ∨ W.heap.size ≤ k) v xs ∧ (okD T = true → (⟨n, m, xs⟩ : S24) = dualT T) ∧ Below W.heap.size W W'

set_option maxRecDepth 100000 in
set_option maxHeartbeats 4000000 in
theorem dual_leaf (T : S24) (h0 : 0 ≤ T.f0) : DualSays T := by
  intro okP A2 c2 W hl hF
  show Calls Try.prog 24 #[gv T A2 c2] W (DualPost T okP W)
  have hu24 := Try.underlying24
  have HF := Aside0.mk hF
  clear hF
  have hd : decide (0 ≤ T.f0) = true := by simpa using h0
  have H0 := Aside0.mk h0
  clear h0
  unfold gv
  go_enter Try.func24, Try.ntmps24
  go_wp2_with fail
  refine bodyPost_ret (v := .tuple #[.agg #[.int .i64 T.f0, .int .i64 T.f1, .slice A2 T.f2.length c2], .bool true]) ?_ rfl ?_
  · simp [results, Try.f24, go_sem]
  · have hok : okD T = true := by rw [okD_eq, if_pos H0.out]
    have hB := below_alloc (below_alloc (Below.refl W.heap.size W) (Obj.cells #[Value.int IntKind.i64 T.f0, Value.int IntKind.i64 T.f1, Value.slice A2 T.f2.length c2] 24)) (Obj.cells #[Value.int IntKind.i64 T.f0, Value.int IntKind.i64 T.f1, Value.slice A2 T.f2.length c2] 24)
    refine ⟨T.f0, T.f1, .slice A2 T.f2.length c2, T.f2, by rw [hok], ⟨A2, c2, rfl, hl, Kd.F_mono (Kd.F_below HF.out hB) (fun k hk => .inl hk)⟩, fun _ => ?_, hB⟩
    rw [dualT_eq, if_pos H0.out]; cases T; rfl
set_option maxRecDepth 100000 in
set_option maxHeartbeats 4000000 in
theorem dual_short (T : S24) (h0 : ¬ 0 ≤ T.f0) (h1 : (T.f2.length : Int) < T.f1) : DualSays T := by
  intro okP A2 c2 W hl hF
  show Calls Try.prog 24 #[gv T A2 c2] W (DualPost T okP W)
  have hu24 := Try.underlying24
  clear hF
  have hd : decide (0 ≤ T.f0) = false := by simpa using h0
  have hd1 : decide ((T.f2.length : Int) < T.f1) = true := by simpa using h1
  have H0 := Aside0.mk h0
  have H1 := Aside0.mk h1
  clear h0 h1
  unfold gv
  go_enter Try.func24, Try.ntmps24
  go_wp2_with fail
  refine bodyPost_ret (v := .tuple #[.agg #[.int .i64 0, .int .i64 0, .slice none 0 0], .bool false]) ?_ rfl ?_
  · simp [results, Try.f24, go_sem]
  · have hok : okD T = false := by
      rw [okD_eq, if_neg (by have := H0.out; omega)]
      have : decide (T.f1 ≤ (T.f2.length : Int)) = false := by have := H1.out; simp; omega
      rw [this]; rfl
    refine ⟨0, 0, .slice none 0 0, [], by rw [hok], Kd.V_nil _ _ _ _ _, (fun h => by rw [hok] at h; cases h), ?_⟩
    repeat (first | exact Below.refl _ _ | apply below_alloc | apply below_set _ (by simp))
set_option maxRecDepth 100000 in
set_option maxHeartbeats 8000000 in
theorem dual_gate (T : S24) (h0 : ¬ 0 ≤ T.f0) (h1 : 1 ≤ T.f1) (h2 : T.f1 ≤ (T.f2.length : Int)) (h3 : T.f2.length ≤ 60) (ih : ∀ x, x ∈ T.f2 → DualSays x) : DualSays T := by
  intro okP A2 c2 W hl hF
  show Calls Try.prog 24 #[gv T A2 c2] W (DualPost T okP W)
  have hu24 := Try.underlying24
  have hu22 := Try.underlying22
  have hF' := Kd.F_bound hF
  have HF := Aside0.mk hF'
  clear hF hF'
  have hd : decide (0 ≤ T.f0) = false := by simpa using h0
  have hd1 : decide ((T.f2.length : Int) < T.f1) = false := by simpa using h2
  have H0 := Aside0.mk h0
  have IH := Aside0.mk ih
  clear h0 ih
  unfold gv
  go_enter Try.func24, Try.ntmps24
  go_wp2_with fail
  obtain ⟨b2, hb2⟩ : ∃ b2, W.heap.size + 1 = b2 := ⟨_, rfl⟩
  have K1 := blk_alloc (blk_new W (Obj.cells #[Value.int IntKind.i64 T.f0, Value.int IntKind.i64 T.f1, Value.slice A2 T.f2.length c2] 24)) (Obj.cells #[Value.int IntKind.i64 (-1), Value.int IntKind.i64 (↑T.f2.length - T.f1 + 1), Value.slice none 0 0] 24)
  have K2 := blk_new (W.alloc (Obj.cells #[Value.int IntKind.i64 T.f0, Value.int IntKind.i64 T.f1, Value.slice A2 T.f2.length c2] 24)) (Obj.cells #[Value.int IntKind.i64 (-1), Value.int IntKind.i64 (↑T.f2.length - T.f1 + 1), Value.slice none 0 0] 24)
  rw [World.size_alloc, hb2] at K2
  have HB2 := Aside0.mk hb2
  rw [hb2]
  clear hb2
  have hm : (0 : Int) ≤ (T.f2.length : Int) - T.f1 + 1 := by omega
  go_loopw [30] (fun v30 wr => ∃ (k : Nat) (v : Value), k ≤ T.f2.length ∧ v30 = .int .i64 k ∧ Aside0 ((T.f2.take k).all okD = true) ∧
      Aside0 (wr.heap[b2]? = some (.cells #[.int .i64 (-1), .int .i64 ((T.f2.length : Int) - T.f1 + 1), v] 24 (0, 0))) ∧
      Aside0 (Kd.N k24 24 wr (b2 + 1) (fun k => (okP k ∧ k < W.heap.size) ∨ b2 < k) v ((T.f2.take k).map dualT)) ∧ Aside0 (Below W.heap.size W wr)) (fun v30 _ => T.f2.length - (intOf v30).toNat)
  case atStart => exact ⟨0, .slice none 0 0, by omega, rfl, ⟨rfl⟩, ⟨K2⟩, ⟨Kd.N_nil _ _ _ _ _⟩, ⟨below_alloc (below_alloc (Below.refl _ _) _) _⟩⟩
  case round =>
    clear K1 K2
    obtain ⟨k, v, hk, rfl, HOK, K2, HN, HBw⟩ := hrel
    by_cases hlt : k < T.f2.length
    · have hltz : (k : Int) < (T.f2.length : Int) := by omega
      obtain ⟨ad, cs, rfl, _, hFK, hcc, _⟩ := Kd.F_get (Kd.F_below HF.out HBw.out) z24 (k : Int) (by omega) (by omega)
      obtain ⟨A3, c3, rfl, hl3, hF3⟩ := k24_openF hFK
      rw [Int.toNat_natCast] at hcc hF3 hl3
      rw [show k24.sz = 3 from rfl] at hcc
      have l0 : wr.cell? (ad.add (k * 3)) = some (.int .i64 (T.f2.getD k z24).f0) := hcc 0 _ rfl
      have l1 : wr.cell? ⟨(ad.add (k * 3)).block, (ad.add (k * 3)).off + 1, none⟩ = some (.int .i64 (T.f2.getD k z24).f1) := by rw [← add_field _ _ 1 (by omega)]; exact hcc 1 _ rfl
      have l2 : wr.cell? ⟨(ad.add (k * 3)).block, (ad.add (k * 3)).off + 2, none⟩ = some (.slice A3 (T.f2.getD k z24).f2.length c3) := by rw [← add_field _ _ 2 (by omega)]; exact hcc 2 _ rfl
      have hx := Aside0.mk (getD_mem_gate hlt)
      have hdrop := Aside0.mk (show T.f2.take (k + 1) = T.f2.take k ++ [T.f2.getD k z24] from by rw [List.take_succ_eq_append_getElem hlt, List.getD_eq_getElem?_getD, List.getElem?_eq_getElem hlt]; rfl)
      have hF3' := Aside0.mk hF3
      have hl3' := Aside0.mk hl3
      clear hFK hcc hF3 hl3
      generalize T.f2.getD k z24 = x at l0 l1 l2 hx hdrop hF3' hl3'
      go_wp2_with fail
      have hNlt := Aside0.mk (Kd.N_lt HN.out)
      have hb2lt := Aside0.mk (blk_lt K2.out)
      refine (IH.out x hx.out _ A3 c3 _ hl3'.out (Kd.F_alloc hF3'.out _)).mono ?_
      rintro e w2 ⟨n, m, v', xs', rfl, hV, hdu, hb1⟩
      obtain ⟨A4, c4, rfl⟩ := Kd.V_slice hV
      have HV := Aside0.mk hV
      have HDU := Aside0.mk hdu
      have hs2 := hb1.size
      rw [World.size_alloc] at hs2
      have K2 := Aside0.mk (blk_below (blk_alloc K2.out _) hb1)
      have HN := Aside0.mk (Kd.N_below (Kd.N_alloc HN.out _) hb1)
      have HBw2 := Aside0.mk (below_call (below_alloc HBw.out _) hb1)
      clear hV hdu hb1 l0 l1 l2
      cases hox : okD x with
      | true =>
        have HOX := Aside0.mk hox
        clear hox
        have q2 := fun o => (blk_cell (blk_alloc K2.out o) 2).trans rfl
        have C1 : ∀ k', ((okP k' ∧ k' < W.heap.size) ∨ (wr.alloc (Obj.cells #[Value.int IntKind.i64 x.f0, Value.int IntKind.i64 x.f1, Value.slice A3 x.f2.length c3] 24)).heap.size ≤ k') → ((okP k' ∧ k' < W.heap.size) ∨ b2 < k') ∧ some k' ≠ v.ownBlock := by
          intro k' hk'
          have hb := HB2.out
          have h1 := HBw.out.size
          have hlt2 := hb2lt.out
          rcases hk' with hk' | hk'
          · exact ⟨.inl hk', fun e => by have := Kd.N_base HN.out k' e.symm; omega⟩
          · rw [World.size_alloc] at hk'
            refine ⟨.inr (by omega), fun e => ?_⟩
            have := hNlt.out k' e.symm
            omega
        have C1 := Aside0.mk C1
        have C2 : ∀ o : Obj, ∀ k', (w2.alloc o).heap.size ≤ k' → ((okP k' ∧ k' < W.heap.size) ∨ b2 < k') := fun o k' hk' => by
          have hlt2 := blk_lt K2.out; exact .inr (by rw [World.size_alloc] at hk'; omega)
        have C2 := Aside0.mk C2
        have C3 : ∀ o : Obj, b2 + 1 ≤ (w2.alloc o).heap.size := fun o => by have hlt2 := blk_lt K2.out; rw [World.size_alloc]; omega
        have C3 := Aside0.mk C3
        have C4 := Aside0.mk (show (((T.f2.take k).map dualT).length + 1) * 40 ≤ 140737488355328 by simp; omega)
        go_wp2_with (at_builtin; refine Kd.N_append k24 (w0 := _) (b2 + 1) rfl _ _ 22 24 _ 40 rfl Try.underlying22 info24 rfl (by decide) (by omega) v ((T.f2.take k).map dualT) (⟨n, m, xs'⟩ : S24) [.int .i64 n, .int .i64 m, .slice A4 xs'.length c4] (fun k => (okP k ∧ k < W.heap.size) ∨ b2 < k) _ rfl (by simp [Act.eval, World.size_alloc]) (k24_mkF _ _ (⟨n, m, xs'⟩ : S24) (Kd.V_reads' HV.out).2.1 (Kd.V_F (Kd.V_alloc HV.out _))) C1.out (C2.out _) (Kd.N_alloc HN.out _) (Below.refl _ _) (C3.out _) C4.out ?_; intro v1 w1 hN1 _ hg1 _; obtain ⟨g1, cap1, rfl, hgb, hgl, _⟩ := Kd.N_form hN1 (by simp); have hK := blk_grown (blk_alloc K2.out _) hg1 (fun e => by have := Kd.N_base HN.out b2 e.symm; omega); have HK := Aside0.mk hK; have HN1 := Aside0.mk hN1; have hf2 := blk_frozen hK 2; have hc2 := (blk_cell hK 2).trans rfl; have HG1 := Aside0.mk hg1; clear hK hN1 hg1 q2)
        go_wp2_with fail
        go_roundw
        case rel =>
          have hb := HB2.out
          have hln : ((T.f2.take k).map dualT ++ [(⟨n, m, xs'⟩ : S24)]).length = k + 1 := by simp; omega
          have hN1 := HN1.out
          have h5 := blk_set HK.out 2 (.slice (some ⟨g1, 0, none⟩) (k + 1) cap1)
          rw [hln] at hN1
          have hN2 := Kd.N_far hN1 (p := ⟨b2, 2, none⟩) (fun k' hk' => show k' ≠ b2 from by rcases hk' with hk' | hk' <;> omega) (.slice (some ⟨g1, 0, none⟩) (k + 1) cap1)
          rw [HDU.out HOX.out] at hN2
          refine ⟨k + 1, .slice (some ⟨g1, 0, none⟩) (k + 1) cap1, by omega, by go_num, ⟨?_⟩, ⟨?_⟩, ⟨?_⟩, ⟨?_⟩⟩
          · rw [hdrop.out, List.all_append, HOK.out]; simp [HOX.out]
          · simpa using h5
          · rw [hdrop.out, List.map_append]; exact hN2
          · have h6 : Below W.heap.size W w1 := (below_alloc HBw2.out _).grown HG1.out (by rw [World.size_alloc]; have := HBw2.out.size; omega) (fun r e => by have := Kd.N_base HN.out r e; omega)
            exact below_set (g := b2) (j := 2) (v := .slice (some ⟨g1, 0, none⟩) (k + 1) cap1) h6 (by omega)
        case measure => simp [intOf]; omega
      | false =>
        have HOX := Aside0.mk hox
        clear hox
        obtain ⟨Av, cv, rfl⟩ := Kd.N_slice HN.out
        have q0 := fun o => (blk_cell (blk_alloc K2.out o) 0).trans rfl
        have q1 := fun o => (blk_cell (blk_alloc K2.out o) 1).trans rfl
        have q2 := fun o => (blk_cell (blk_alloc K2.out o) 2).trans rfl
        have f0 := fun o => blk_frozen (blk_alloc K2.out o) 0
        have f1 := fun o => blk_frozen (blk_alloc K2.out o) 1
        have f2 := fun o => blk_frozen (blk_alloc K2.out o) 2
        go_wp2_with fail
        have K3 := blk_set3 (v0 := Value.int IntKind.i64 (-1)) (v1 := Value.int IntKind.i64 (↑T.f2.length - T.f1 + 1)) (v2 := Value.slice Av k cv) (blk_alloc K2.out (Obj.cells #[Value.int IntKind.i64 n, Value.int IntKind.i64 m, Value.slice A4 xs'.length c4] 24))
        have c0 := (blk_cell K3 0).trans rfl
        have c1 := (blk_cell K3 1).trans rfl
        have c2 := (blk_cell K3 2).trans rfl
        have hb := HB2.out
        have hln : ((T.f2.take k).map dualT).length = k := by simp; omega
        have hN := HN.out
        rw [hln] at hN
        refine bodyPost_ret (v := .tuple #[.agg #[.int .i64 (-1), .int .i64 ((T.f2.length : Int) - T.f1 + 1), .slice Av k cv], .bool false]) ?_ rfl ?_
        · simp [results, Try.f24, go_sem, c0, c1, c2]
        · have hok : okD T = false := by
            rw [okD_eq, if_neg (by have := H0.out; omega), show T.f2.all okD = false from by
              cases hall : T.f2.all okD with
              | false => rfl
              | true => rw [List.all_eq_true] at hall; have := hall x hx.out; rw [HOX.out] at this; cases this]
            simp
          have hfar : ∀ k', ((okP k' ∧ k' < W.heap.size) ∨ b2 < k') → k' ≠ b2 := fun k' hk' => by rcases hk' with hk' | hk' <;> omega
          refine ⟨-1, (T.f2.length : Int) - T.f1 + 1, .slice Av k cv, (T.f2.take k).map dualT, by rw [hok], ?_, (fun h => by rw [hok] at h; cases h), ?_⟩
          · exact Kd.V_mono (Kd.N_V (Kd.N_far (Kd.N_far (Kd.N_far (Kd.N_alloc hN _) (p := ⟨b2, 0, none⟩) hfar _) (p := ⟨b2, 1, none⟩) hfar _) (p := ⟨b2, 2, none⟩) hfar _)) (fun k' hk' => by
              rcases hk' with hk' | hk'
              · exact .inl hk'.1
              · exact .inr (by omega))
          · exact below_set (below_set (below_set (below_alloc HBw2.out _) (by omega)) (by omega)) (by omega)
    · have hltz : ¬ (k : Int) < (T.f2.length : Int) := by omega
      have : k = T.f2.length := by omega
      subst this
      obtain ⟨Av, cv, rfl⟩ := Kd.N_slice HN.out
      have q0 := (blk_cell K2.out 0).trans rfl
      have q1 := (blk_cell K2.out 1).trans rfl
      have q2 := (blk_cell K2.out 2).trans rfl
      have f0 := blk_frozen K2.out 0
      have f1 := blk_frozen K2.out 1
      have f2 := blk_frozen K2.out 2
      go_wp2_with fail
      have K3 := blk_set3 (v0 := Value.int IntKind.i64 (-1)) (v1 := Value.int IntKind.i64 (↑T.f2.length - T.f1 + 1)) (v2 := Value.slice Av T.f2.length cv) (by have := K2.out; simpa using this)
      have c0 := (blk_cell K3 0).trans rfl
      have c1 := (blk_cell K3 1).trans rfl
      have c2 := (blk_cell K3 2).trans rfl
      have hb := HB2.out
      have hN := HN.out
      have hln : ((T.f2.take T.f2.length).map dualT).length = T.f2.length := by simp
      rw [hln, List.take_length] at hN
      refine bodyPost_ret (v := .tuple #[.agg #[.int .i64 (-1), .int .i64 ((T.f2.length : Int) - T.f1 + 1), .slice Av T.f2.length cv], .bool true]) ?_ rfl ?_
      · simp [results, Try.f24, go_sem, c0, c1, c2]
      · have hall := HOK.out
        rw [List.take_length] at hall
        have hok : okD T = true := by
          rw [okD_eq, if_neg (by have := H0.out; omega), hall]; simpa using h2
        have hfar : ∀ k', ((okP k' ∧ k' < W.heap.size) ∨ b2 < k') → k' ≠ b2 := fun k' hk' => by rcases hk' with hk' | hk' <;> omega
        refine ⟨-1, (T.f2.length : Int) - T.f1 + 1, .slice Av T.f2.length cv, T.f2.map dualT, by rw [hok], ?_, (fun _ => by rw [dualT_eq, if_neg (by have := H0.out; omega)]), ?_⟩
        · exact Kd.V_mono (Kd.N_V (Kd.N_far (Kd.N_far (Kd.N_far hN (p := ⟨b2, 0, none⟩) hfar _) (p := ⟨b2, 1, none⟩) hfar _) (p := ⟨b2, 2, none⟩) hfar _)) (fun k' hk' => by
            rcases hk' with hk' | hk'
            · exact .inl hk'.1
            · exact .inr (by omega))
        · exact below_set (below_set (below_set HBw.out (by omega)) (by omega)) (by omega)
/-- **signatorylaw22.dual**, at every small right gate. -/
theorem dual_says (T : S24) : rightB T = true → lv T ≤ 60 → DualSays T := by
  induction T using gate_ind with
  | _ T ih =>
  intro hr hl
  by_cases h0 : 0 ≤ T.f0
  · exact dual_leaf T h0
  · have hg := right_gate hr h0
    by_cases h1 : (T.f2.length : Int) < T.f1
    · exact dual_short T h0 h1
    · exact dual_gate T h0 hg.2.1 (by omega) (by have := lv_len T; omega) (fun x hx => ih x hx (hg.2.2.2 x hx) (by have := lv_mem hx; omega))
end Go.Proofs.Ytipdpfnjobfbpaa.H
