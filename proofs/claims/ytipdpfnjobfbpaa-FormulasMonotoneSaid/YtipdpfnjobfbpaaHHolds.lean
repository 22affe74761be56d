/- formulas.holds and formulas.Holds: what they tell of every right gate. -/
import Derived.Test.YtipdpfnjobfbpaaHLarge
namespace Go.Proofs.Ytipdpfnjobfbpaa.H
open Go.RowKit Go.Shelf Go.Maps Go.Proofs.YtipdpfnjobfbpaaW.PrintWords Go.Proofs.YtipdpfnjobfbpaaW.PrintLast Go.Proofs.YtipdpfnjobfbpaaW.PrintMore Go.Proofs.Ytipdpfnjobfbpaa.P
set_option linter.unusedVariables false
set_option linter.unusedSimpArgs false
attribute [local go_sem] Oper.semAt_some

/-- A map of whole numbers by whole numbers that reads as a function. -/
def MapOf (W : World) (b n : Nat) (f : Int → Int) : Prop :=
  ∃ D : DataW Unit, W.ownsMap Try.prog 3 (plainElem Try.prog 3) b n D ∧ Maps.IsMap D ∧ ∀ k, (Lit.int .i64 k).wf = true → D.atKey (.int .i64 k) (.lit (.int .i64 0)) = .lit (.int .i64 (f k))
theorem law3 : Keyed Try.prog 3 := int_keyed Try.underlying3
theorem zero3 (w : World) : (zeroValue 3).run Try.prog w = .ok (.int .i64 0) w := by kernel_rfl
theorem MapOf.kept {W W' : World} {b n : Nat} {f : Int → Int} {row : Option Nat} (h : MapOf W b n f) (hg : W.grownBy W' row) (hne : some b ≠ row) : MapOf W' b n f := by
  obtain ⟨D, h1, h2⟩ := h
  exact ⟨D, h1.kept hg hne, h2⟩
theorem MapOf.below {W W' : World} {b n : Nat} {f : Int → Int} (h : MapOf W b n f) (hb : Below W.heap.size W W') : MapOf W' b n f := h.kept (grown_of_below hb none) (by simp)
theorem MapOf.alloc {W : World} {b n : Nat} {f : Int → Int} (h : MapOf W b n f) (o : Obj) : MapOf (W.alloc o) b n f := h.kept (World.grownBy_alloc W o none) (by simp)
theorem MapOf.lt {W : World} {b n : Nat} {f : Int → Int} (h : MapOf W b n f) : b < W.heap.size := by obtain ⟨D, h1, _⟩ := h; exact h1.lt
theorem MapOf.look {W : World} {b n : Nat} {f : Int → Int} (h : MapOf W b n f) (k : Int) (hk : (Lit.int .i64 k).wf = true) :
    (Instr.lookup 78 (.map (some b)) (.int .i64 k) false).run Try.prog W = .ok (.int .i64 (f k)) W := by
  obtain ⟨D, h1, _, h2⟩ := h
  obtain ⟨c, hrun, hat, _⟩ := h1.lookup_int law3 Try.underlying78 Try.underlying3 (zero3 _) (keyOf_int_mk Try.underlying3 hk)
  have e0 := h2 k hk
  have e1 : f k = c := by
    clear hrun h1 h2
    generalize DataW.atKey D (Lit.int IntKind.i64 k) (DataW.lit (Lit.int IntKind.i64 0)) = Z at e0 hat
    subst e0
    injection hat with hat
    injection hat
  rw [e1]
  exact hrun

def holdsB (there : Int → Int) (T : S24) : Bool :=
  if 0 ≤ T.f0 then decide (0 < there T.f0) else decide (T.f1 ≤ (T.f2.attach.countP (fun x => holdsB there x.1) : Int))
termination_by SizeOf.sizeOf T
decreasing_by exact lt_of_mem_gate x.2
theorem holdsB_eq (there : Int → Int) (T : S24) : holdsB there T = if 0 ≤ T.f0 then decide (0 < there T.f0) else decide (T.f1 ≤ (T.f2.countP (holdsB there) : Int)) := by
  rw [holdsB]
  by_cases h : 0 ≤ T.f0
  · rw [if_pos h, if_pos h]
  · rw [if_neg h, if_neg h]
    rw [List.countP_attach]

set_option maxRecDepth 100000 in
set_option maxHeartbeats 2000000 in
theorem held_calls (T : S24) (A2 : Option Addr) (c2 b : Nat) (w : World) :
    Calls Try.prog 106 #[gv T A2 c2, .map (some b)] w fun e w' => e = .returned (.func (.func 124) #[] #[.pointer (some ⟨w.heap.size, 0, none⟩), .pointer (some ⟨w.heap.size + 1, 0, none⟩)]) ∧
      w' = (w.alloc (.cells #[.int .i64 T.f0, .int .i64 T.f1, .slice A2 T.f2.length c2] 24)).alloc (.cells #[.map (some b)] 78) := by
  have hmf := hmf_
  have hu24 := Try.underlying24
  unfold gv
  go_enter Try.func106, Try.ntmps106
  go_wp2_with fail
  go_ret
  exact ⟨rfl, rfl⟩
theorem held1_enters : ∀ args w, (callFunc 124 args).run Try.prog w = .ok (.enter 124 args) w := enters_of Try.func124 (by kernel_rfl) rfl

/-- What a call of 'holds' says of a gate. -/
def HoldsSays (there : Int → Int) (T : S24) : Prop :=
  ∀ (A2 : Option Addr) (c2 b n : Nat) (W : World), RdG W T A2 c2 → MapOf W b n there →
    Calls Try.prog 66 #[gv T A2 c2, .map (some b)] W fun e W' => e = .returned (.bool (holdsB there T)) ∧ Below W.heap.size W W'
abbrev HEnc (x : S24 × Option Addr × Nat) : Array Value := #[gv x.1 x.2.1 x.2.2]

/-- What a round keeps for the iterator. -/
def KpB (n0 bG bM : Nat) (A B : World) : Prop := Below n0 A B ∧ B.heap[bG]? = A.heap[bG]? ∧ B.heap[bM]? = A.heap[bM]?
theorem KpB.trans {n0 bG bM : Nat} {A B C : World} (h : KpB n0 bG bM A B) (k : KpB n0 bG bM B C) : KpB n0 bG bM A C := ⟨h.1.trans k.1, k.2.1.trans h.2.1, k.2.2.trans h.2.2⟩
theorem KpB.put {n0 bG bM : Nat} {w : World} (hn : n0 ≤ w.heap.size) (hG : bG < w.heap.size) (hM : bM < w.heap.size) (W : World) (l : Nat) (o o' : Obj) (hl : w.heap.size ≤ l) (h : W.heap[l]? = some o) (h1 : o.isCells = false) (h2 : o.isWalk = false) : KpB n0 bG bM W (W.putObj l o') :=
  ⟨belowK_b hn W l o o' hl h h1 h2, World.putObj_heap_other (by omega), World.putObj_heap_other (by omega)⟩
set_option maxRecDepth 100000 in
set_option maxHeartbeats 2000000 in
theorem held_stops (m : Nat) (there : Int → Int) (T : S24) (A2 : Option Addr) (c2 bG bM b n : Nat) (w0 w : World) (hR : RdG w0 T A2 c2) (hM : MapOf w0 b n there) (hw0 : Below w0.heap.size w0 w)
    (hG : w.heap[bG]? = some (.cells #[.int .i64 T.f0, .int .i64 T.f1, .slice A2 T.f2.length c2] 24 (0, 0))) (hB : w.heap[bM]? = some (.cells #[.map (some b)] 78 (0, 0)))
    (ih : ∀ x, x ∈ T.f2 → HoldsSays there x) :
    SeqStopsK Fence.wide m Try.prog 124 #[.pointer (some ⟨bG, 0, none⟩), .pointer (some ⟨bM, 0, none⟩)] HEnc (KpB w0.heap.size bG bM)
      (fun xs => xs.map (·.1) = T.f2.filter (holdsB there)) (fun xs => ∃ rest, xs.map (·.1) ++ rest = T.f2.filter (holdsB there)) T.f2.length w := by
  intro l J Jx W hW hJ hJx hY h0
  have hu22 := Try.underlying22
  have hu24 := Try.underlying24
  have hrow := fun (W' : World) (hb : Below w0.heap.size w0 W') => at_gate0 hR.C hb
  have hlen := hR.C.2.1
  have HY := Aside0.mk hY
  have HJ := Aside0.mk hJ
  have HL := Aside0.mk hrow
  have HI := Aside0.mk ih
  have HM := Aside0.mk hM
  have hg0 := (blk_cell (blk_below hG hW) 0).trans rfl
  have hg2 := (blk_cell (blk_below hG hW) 2).trans rfl
  have hm0 := (blk_cell (blk_below hB hW) 0).trans rfl
  have HG := Aside0.mk (blk_below hG hW)
  have HB := Aside0.mk (blk_below hB hW)
  have HW := Aside0.mk (below_call hw0 hW)
  have H0 := Aside0.mk h0
  clear hY hJ hJx hrow ih hM hG hB hW h0 hR hw0
  refine callsIn_of_wp Try.func124 rfl trivial ?_ rfl
  simp only [Try.ntmps124, List.size_toArray, List.length_cons, List.length_nil, Nat.reduceAdd, Nat.reduceSub, Array.replicate_succ, Array.replicate_zero, List.push_toArray, List.append_toArray, List.nil_append, List.cons_append]
  gi_wp2
  gi_loopw [9] (fun p wr => ∃ (k : Nat) (pre : List (S24 × Option Addr × Nat)), k ≤ T.f2.length ∧ p = .int .i64 k ∧ Aside0 (pre.map (·.1) = (T.f2.take k).filter (holdsB there)) ∧ Aside0 (J pre wr) ∧ Aside0 (Below w0.heap.size w0 wr) ∧ Aside0 (wr.heap[bG]? = some (.cells #[.int .i64 T.f0, .int .i64 T.f1, .slice A2 T.f2.length c2] 24 (0, 0))) ∧ Aside0 (wr.heap[bM]? = some (.cells #[.map (some b)] 78 (0, 0))))
    (fun p wr => T.f2.length - (intOf p).toNat)
  case atStart => exact ⟨0, [], Nat.zero_le _, rfl, ⟨rfl⟩, H0, HW, HG, HB⟩
  case round =>
    clear HG HB
    obtain ⟨k, pre, hk, rfl, HP, HJp, HBw, HG, HB⟩ := hrel
    have hg0 := (blk_cell HG.out 0).trans rfl
    have hg2 := (blk_cell HG.out 2).trans rfl
    have hm1 := fun o => (blk_cell (blk_alloc HB.out o) 0).trans rfl
    by_cases hlt : k < T.f2.length
    · have hltz : (k : Int) < (T.f2.length : Int) := by omega
      obtain ⟨ad, A3, c3, rfl, l0, l1, l2, hK⟩ := HL.out wr HBw.out k hlt
      have hK' := Aside0.mk hK
      have hmem := Aside0.mk (getD_mem_gate hlt)
      have hdrop := Aside0.mk (show T.f2.take (k + 1) = T.f2.take k ++ [T.f2.getD k z24] from by rw [List.take_succ_eq_append_getElem hlt, List.getD_eq_getElem?_getD, List.getElem?_eq_getElem hlt]; rfl)
      clear hK
      generalize T.f2.getD k z24 = x at l0 l1 l2 hK' hmem hdrop
      gi_wp2_with fail
      refine ⟨trivial, wd, ?_⟩
      have HB1 := Aside0.mk (below_alloc HBw.out (Obj.cells #[Value.int IntKind.i64 x.f0, Value.int IntKind.i64 x.f1, Value.slice A3 x.f2.length c3] 24))
      refine (callsIn_wide.2 (HI.out x hmem.out A3 c3 b n _ (hK'.out.below HB1.out) (HM.out.below HB1.out))).mono ?_
      rintro e w1 ⟨rfl, hb2⟩
      have HB2 := Aside0.mk (below_call HB1.out hb2)
      have HJ2 := Aside0.mk (HJ.out _ _ w1 none (HJ.out _ _ _ none HJp.out (World.grownBy_alloc _ _ none) (fun r e => by cases e)) (grown_of_below hb2 none) (fun r e => by cases e))
      have hbx := blk_below (blk_new wr (Obj.cells #[Value.int IntKind.i64 x.f0, Value.int IntKind.i64 x.f1, Value.slice A3 x.f2.length c3] 24)) hb2
      have q0 := (blk_cell hbx 0).trans rfl
      have q1 := (blk_cell hbx 1).trans rfl
      have q2 := (blk_cell hbx 2).trans rfl
      have HG2 := Aside0.mk (blk_below (blk_alloc HG.out (Obj.cells #[Value.int IntKind.i64 x.f0, Value.int IntKind.i64 x.f1, Value.slice A3 x.f2.length c3] 24)) hb2)
      have HM2 := Aside0.mk (blk_below (blk_alloc HB.out (Obj.cells #[Value.int IntKind.i64 x.f0, Value.int IntKind.i64 x.f1, Value.slice A3 x.f2.length c3] 24)) hb2)
      clear hb2 hbx
      cases hh : holdsB there x with
      | false =>
        have hh' := Aside0.mk hh
        clear hh
        gi_wp2_with fail
        refine ⟨(fun _ h => by cases h), ?_⟩
        gi_wp2_with fail
        go_roundw
        case rel => exact ⟨k + 1, pre, by omega, by go_num, ⟨by rw [hdrop.out, List.filter_append, HP.out]; simp [hh'.out]⟩, HJ2, HB2, HG2, HM2⟩
        case measure => simp [intOf]; omega
      | true =>
        have hh' := Aside0.mk hh
        clear hh
        have hpl : pre.length < T.f2.length := by
          have h1 : pre.length = ((T.f2.take k).filter (holdsB there)).length := by rw [← HP.out]; simp
          have h2 := List.length_filter_le (holdsB there) (T.f2.take k)
          rw [List.length_take] at h2
          omega
        have hyy := HY.out pre (x, A3, c3) w1 HJ2.out hpl
        obtain ⟨fn, tmps, assign, body, hy, hR⟩ := hyy
        have hRR := Aside0.mk hR
        clear hR
        simp only [HEnc, gv] at hy
        gi_wp2_with fail
        refine ⟨wd, hRR.out.mono ?_⟩
        rintro e W3 (⟨rfl, hJ3, hk3⟩ | ⟨rfl, hJx3⟩)
        · have HJ3 := Aside0.mk hJ3
          have HB3 := Aside0.mk (HB2.out.trans hk3.1)
          have HG3 := Aside0.mk (hk3.2.1.trans HG2.out)
          have HM3 := Aside0.mk (hk3.2.2.trans HM2.out)
          clear hJ3 hk3
          gi_wp2_with fail
          go_roundw
          case rel => exact ⟨k + 1, pre ++ [(x, A3, c3)], by omega, by go_num, ⟨by rw [hdrop.out, List.filter_append, List.map_append, HP.out]; simp [hh'.out]⟩, HJ3, HB3, HG3, HM3⟩
          case measure => simp [intOf]; omega
        · have HJ3 := Aside0.mk hJx3
          clear hJx3
          gi_wp2_with fail
          refine bodyPost_ret (results_none rfl _ _ _) rfl ?_
          refine ⟨⟨_, rfl⟩, .inr ⟨pre ++ [(x, A3, c3)], ⟨(T.f2.drop (k + 1)).filter (holdsB there), ?_⟩, HJ3.out⟩⟩
          rw [List.map_append, HP.out]
          have : T.f2 = T.f2.take (k + 1) ++ T.f2.drop (k + 1) := (List.take_append_drop _ _).symm
          conv => rhs; rw [this, List.filter_append, hdrop.out, List.filter_append]
          simp [hh'.out]
    · have hltz : ¬ (k : Int) < (T.f2.length : Int) := by omega
      have : k = T.f2.length := by omega
      subst this
      gi_wp2_with fail
      go_end0
      exact ⟨⟨_, rfl⟩, .inl ⟨pre, by rw [HP.out, List.take_length], HJp.out⟩⟩

set_option maxRecDepth 100000 in
set_option maxHeartbeats 4000000 in
theorem holds_leaf (there : Int → Int) (T : S24) (h0 : 0 ≤ T.f0) (hwf : (Lit.int .i64 T.f0).wf = true) : HoldsSays there T := by
  intro A2 c2 b n W hR hM
  rw [holdsB_eq, if_pos h0]
  have hl := fun o o' => ((hM.alloc o).alloc o').look T.f0 hwf
  have HL := Aside0.mk hl
  clear hM hR
  have hu24 := Try.underlying24
  unfold gv
  obtain ⟨x1, e1⟩ : ∃ x, decide (0 < there T.f0) = x := ⟨_, rfl⟩
  rw [e1]
  go_enter Try.func66, Try.ntmps66
  go_wp2_with fail
  refine bodyPost_ret (v := .bool x1) ?_ rfl ⟨rfl, ?_⟩
  · simp [results, Try.f66, go_sem]
  · exact below_alloc (below_alloc (Below.refl W.heap.size W) _) _

set_option maxRecDepth 100000 in
set_option maxHeartbeats 4000000 in
theorem holds_gate (there : Int → Int) (T : S24) (h0 : T.f0 = -1) (h1 : 1 ≤ T.f1) (h2 : T.f1 ≤ 4096) (ih : ∀ x, x ∈ T.f2 → HoldsSays there x) : HoldsSays there T := by
  intro A2 c2 b n W hR hM
  rw [holdsB_eq, if_neg (by omega)]
  have hd : decide (0 ≤ T.f0) = false := by rw [h0]; rfl
  obtain ⟨res, hres⟩ : ∃ res, decide (T.f1 ≤ (T.f2.countP (holdsB there) : Int)) = res := ⟨_, rfl⟩
  rw [hres]
  have HRES := Aside0.mk hres
  clear hres
  have hu24 := Try.underlying24
  unfold gv
  refine (callsIn_wide (n := 3)).1 ?_
  refine callsIn_of_wp_marks Try.func66 rfl trivial ?_ rfl
  simp only [Try.ntmps66, List.size_toArray, List.length_cons, List.length_nil, Nat.reduceAdd, Nat.reduceSub, Array.replicate_succ, Array.replicate_zero, List.push_toArray, List.append_toArray, List.nil_append, List.cons_append]
  clear h0
  gi_wp2_with fail
  refine ⟨trivial, (callsIn_wide.2 (held_calls T A2 c2 b _)).mono ?_⟩
  rintro e w' ⟨rfl, rfl⟩
  simp only [World.size_alloc]
  gi_wp2_with fail
  obtain ⟨w1, hw1⟩ : ∃ w1, (((((W.alloc (Obj.cells #[Value.int IntKind.i64 T.f0, Value.int IntKind.i64 T.f1, Value.slice A2 T.f2.length c2] 24)).alloc (Obj.cells #[Value.bool false] 4)).alloc (Obj.cells #[Value.int IntKind.i64 T.f1] 3)).alloc
          (Obj.cells #[Value.int IntKind.i64 T.f0, Value.int IntKind.i64 T.f1, Value.slice A2 T.f2.length c2] 24)).alloc (Obj.cells #[Value.map (some b)] 78)) = w1 := ⟨_, rfl⟩
  have kR := blk_alloc (blk_alloc (blk_alloc (blk_new (W.alloc (Obj.cells #[Value.int IntKind.i64 T.f0, Value.int IntKind.i64 T.f1, Value.slice A2 T.f2.length c2] 24)) (Obj.cells #[Value.bool false] 4)) (Obj.cells #[Value.int IntKind.i64 T.f1] 3)) (Obj.cells #[Value.int IntKind.i64 T.f0, Value.int IntKind.i64 T.f1, Value.slice A2 T.f2.length c2] 24)) (Obj.cells #[Value.map (some b)] 78)
  have kL := blk_alloc (blk_alloc (blk_new ((W.alloc (Obj.cells #[Value.int IntKind.i64 T.f0, Value.int IntKind.i64 T.f1, Value.slice A2 T.f2.length c2] 24)).alloc (Obj.cells #[Value.bool false] 4)) (Obj.cells #[Value.int IntKind.i64 T.f1] 3)) (Obj.cells #[Value.int IntKind.i64 T.f0, Value.int IntKind.i64 T.f1, Value.slice A2 T.f2.length c2] 24)) (Obj.cells #[Value.map (some b)] 78)
  have kG := blk_alloc (blk_new (((W.alloc (Obj.cells #[Value.int IntKind.i64 T.f0, Value.int IntKind.i64 T.f1, Value.slice A2 T.f2.length c2] 24)).alloc (Obj.cells #[Value.bool false] 4)).alloc (Obj.cells #[Value.int IntKind.i64 T.f1] 3)) (Obj.cells #[Value.int IntKind.i64 T.f0, Value.int IntKind.i64 T.f1, Value.slice A2 T.f2.length c2] 24)) (Obj.cells #[Value.map (some b)] 78)
  have kM := blk_new ((((W.alloc (Obj.cells #[Value.int IntKind.i64 T.f0, Value.int IntKind.i64 T.f1, Value.slice A2 T.f2.length c2] 24)).alloc (Obj.cells #[Value.bool false] 4)).alloc (Obj.cells #[Value.int IntKind.i64 T.f1] 3)).alloc (Obj.cells #[Value.int IntKind.i64 T.f0, Value.int IntKind.i64 T.f1, Value.slice A2 T.f2.length c2] 24)) (Obj.cells #[Value.map (some b)] 78)
  have kB := below_alloc (below_alloc (below_alloc (below_alloc (below_alloc (Below.refl W.heap.size W) (Obj.cells #[Value.int IntKind.i64 T.f0, Value.int IntKind.i64 T.f1, Value.slice A2 T.f2.length c2] 24)) (Obj.cells #[Value.bool false] 4)) (Obj.cells #[Value.int IntKind.i64 T.f1] 3)) (Obj.cells #[Value.int IntKind.i64 T.f0, Value.int IntKind.i64 T.f1, Value.slice A2 T.f2.length c2] 24)) (Obj.cells #[Value.map (some b)] 78)
  have kS : w1.heap.size = W.heap.size + 1 + 1 + 1 + 1 + 1 := by rw [← hw1]; simp
  simp only [World.size_alloc] at kR kL kG kM
  rw [hw1] at kR kL kG kM kB ⊢
  clear hw1
  refine wpIn_rangeFunc_ownF rfl (by omega) (gf := 124) (lb := #[.pointer (some ⟨W.heap.size + 1 + 1 + 1, 0, none⟩), .pointer (some ⟨W.heap.size + 1 + 1 + 1 + 1, 0, none⟩)]) rfl trivial (enters_of Try.func124 (by kernel_rfl) rfl)
    (held_stops _ there T A2 c2 _ _ b n W w1 hR hM kB kG kM ih) KpB.trans (KpB.put (by omega) (by omega) (by omega)) (Below.refl _ _) (fun _ => rfl)
    (fun pre W' => ((pre.length : Int) < T.f1 ∧ W'.heap[W.heap.size + 1 + 1]? = some (.cells #[.int .i64 (T.f1 - pre.length)] 3 (0, 0)) ∧ W'.heap[W.heap.size + 1]? = some (.cells #[.bool false] 4 (0, 0))) ∧ Below W.heap.size W W')
    (fun c pre W' => (c = .ret ∧ T.f1 ≤ (pre.length : Int) ∧ W'.heap[W.heap.size + 1]? = some (.cells #[.bool true] 4 (0, 0))) ∧ Below W.heap.size W W')
    (OwnFrom.and (fun s A B row hs hg hr => ⟨hs.1, blk_kept hs.2.1 hg hr, blk_kept hs.2.2 hg hr⟩) (ownFrom_below (Nat.le_refl _) (by omega)))
    (fun c => OwnFrom.and (fun s A B row hs hg hr => ⟨hs.1, hs.2.1, blk_kept hs.2.2 hg hr⟩) (ownFrom_below (Nat.le_refl _) (by omega)))
    ⟨⟨by simp; omega, by simpa using kL, kR⟩, kB⟩
    (fun x => { tmps := #[Value.agg #[Value.int IntKind.i64 T.f0, Value.int IntKind.i64 T.f1, Value.slice A2 T.f2.length c2],
          Value.map (some b), Value.pointer (some { block := W.heap.size, off := 0 }), undef,
          Value.pointer (some { block := W.heap.size + 1, off := 0 }),
          Value.pointer (some { block := W.heap.size + 1 + 1, off := 0 }),
          Value.pointer (some { block := W.heap.size, off := 0 }), Value.int IntKind.i64 T.f0, Value.bool false, undef,
          undef, undef, undef, undef, Value.pointer (some { block := W.heap.size, off := 1 }),
          Value.int IntKind.i64 T.f1,
          Value.agg #[Value.int IntKind.i64 T.f0, Value.int IntKind.i64 T.f1, Value.slice A2 T.f2.length c2],
          Value.map (some b),
          Value.func (Fn.func 124) #[]
            #[Value.pointer (some { block := W.heap.size + 1 + 1 + 1, off := 0 }),
              Value.pointer (some { block := W.heap.size + 1 + 1 + 1 + 1, off := 0 })],
          gv x.1 x.2.1 x.2.2, undef, undef, undef, undef], defers := [] }) ?assign ?body ?done ?stop
  case assign =>
    intro l x W' K hK
    gi_wp2
    simpa [HEnc] using hK
  case body =>
    rintro l pre x W' ⟨⟨hlt, hL, hRs⟩, hB⟩ _
    have hc1 := (blk_cell hL 0).trans rfl
    have hf1 := blk_frozen hL 0
    have hL2 := blk_set hL 0 (.int .i64 (T.f1 - pre.length - 1))
    have hc2 := (blk_cell hL2 0).trans rfl
    have hne : W.heap.size + 1 ≠ W.heap.size + 1 + 1 := by omega
    have hR2 := blk_far hRs (p := ⟨W.heap.size + 1 + 1, 0, none⟩) hne (.int .i64 (T.f1 - pre.length - 1))
    have hfR := blk_frozen hR2 0
    have hcR := (blk_cell hR2 0).trans rfl
    have hR3 := blk_set hR2 0 (.bool true)
    have HL2 := Aside0.mk hL2
    have HR2 := Aside0.mk hR2
    have HR3 := Aside0.mk hR3
    have HB := Aside0.mk hB
    have hpl : (0 : Int) ≤ pre.length := by omega
    clear hL hRs hL2 hR2 hR3 hB kB kG kM kL kR hR hM ih hne
    have HKp := Aside0.mk (show KpB W.heap.size (W.heap.size + 1 + 1 + 1) (W.heap.size + 1 + 1 + 1 + 1) W' (W'.setCell ⟨W.heap.size + 1 + 1, 0, none⟩ (.int .i64 (T.f1 - pre.length - 1))) from
      ⟨(Below.refl W.heap.size W').setCell (p := ⟨W.heap.size + 1 + 1, 0, none⟩) (by simp; omega) _, Below.heap_setCell _ _ _ _ (by show _ ≠ W.heap.size + 1 + 1; omega), Below.heap_setCell _ _ _ _ (by show _ ≠ W.heap.size + 1 + 1; omega)⟩)
    by_cases hz : T.f1 - pre.length - 1 = 0
    · have hz1 : (T.f1 - pre.length - 1 == 0) = true := by simpa using hz
      have HZ := Aside0.mk hz
      clear hz
      gi_wp2_with fail
      refine ⟨(KeepsOthers.setCell _ _ _).trans (KeepsOthers.setCell _ _ _), ⟨rfl, by have := HZ.out; simp; omega, by simpa using HR3.out⟩, ?_⟩
      exact below_set (below_set HB.out (by omega)) (by omega)
    · have hz1 : (T.f1 - pre.length - 1 == 0) = false := by simpa using hz
      have HZ := Aside0.mk hz
      clear hz
      gi_wp2_with fail
      refine ⟨KeepsOthers.setCell _ _ _, HKp.out, ⟨by have := HZ.out; simp; omega, ?_, HR2.out⟩, below_set HB.out (by omega)⟩
      have := HL2.out
      simp only [List.length_append, List.length_singleton]
      rw [show T.f1 - ((pre.length + 1 : Nat) : Int) = T.f1 - pre.length - 1 from by omega]
      simpa using this
  case done =>
    rintro D xs W' hD hS ⟨⟨hlt, hL, hRs⟩, hB⟩ hK
    have hcnt : decide (T.f1 ≤ (T.f2.countP (holdsB there) : Int)) = false := by
      rw [decide_eq_false_iff_not, List.countP_eq_length_filter, ← hS, List.length_map]; omega
    have hres : res = false := by rw [← HRES.out, hcnt]
    have hcR := (blk_cell hRs 0).trans rfl
    have hfR := blk_frozen hRs 0
    have hR3 := blk_set hRs 0 (.bool false)
    have HR3 := Aside0.mk hR3
    have HB := Aside0.mk hB
    have HK := Aside0.mk hK
    clear hL hRs hR3 hB kB kG kM kL kR hR hM ih hK hS hcnt
    have HRS := Aside0.mk hres
    clear hres
    gi_wp2_with fail
    have hK' := (KeepsOthers.setCell W' ⟨W.heap.size + 1, 0, none⟩ (.bool false)).same D _ HK.out rfl
    refine ⟨by simp, .inl ⟨_, _, rfl, run_takeDeferred hK', ?_⟩⟩
    have hk5 := blk_put (o' := .deferred none) HR3.out hK' (fun e => by rw [← e, HR3.out] at hK'; cases hK')
    have hc5 := (blk_cell hk5 0).trans rfl
    refine ⟨.bool false, ?_, by rw [HRS.out], ?_⟩
    · simp [results, Try.f66, go_sem, hc5]
    · exact (below_set HB.out (by omega)).trans (belowK_b (w := W) (Nat.le_refl _) _ D _ _ (by omega) hK' rfl rfl)
  case stop =>
    rintro D c pre W' hD ⟨rest, hS⟩ ⟨⟨rfl, hle, hRs⟩, hB⟩ hK
    have hcnt : decide (T.f1 ≤ (T.f2.countP (holdsB there) : Int)) = true := by
      rw [decide_eq_true_eq, List.countP_eq_length_filter, ← hS, List.length_append, List.length_map]; omega
    have hres : res = true := by rw [← HRES.out, hcnt]
    have HB := Aside0.mk hB
    have HK := Aside0.mk hK
    have HR3 := Aside0.mk hRs
    clear hRs hB kB kG kM kL kR hR hM ih hK hS hcnt
    have HRS := Aside0.mk hres
    clear hres
    gi_wp2_with fail
    have hK' := HK.out
    refine ⟨by simp, .inl ⟨_, _, rfl, run_takeDeferred hK', ?_⟩⟩
    have hk5 := blk_put (o' := .deferred none) HR3.out hK' (fun e => by rw [← e, HR3.out] at hK'; cases hK')
    have hc5 := (blk_cell hk5 0).trans rfl
    refine ⟨.bool true, ?_, by rw [HRS.out], ?_⟩
    · simp [results, Try.f66, go_sem, hc5]
    · exact HB.out.trans (belowK_b (w := W) (Nat.le_refl _) _ D _ _ (by omega) hK' rfl rfl)

theorem wf64 {n : Int} (h0 : -9223372036854775808 ≤ n) (h1 : n ≤ 9223372036854775807) : (Lit.int .i64 n).wf = true := by
  have hmin : IntKind.i64.min = -9223372036854775808 := rfl
  have hmax : IntKind.i64.max = 9223372036854775807 := rfl
  simp only [Lit.wf, Bool.and_eq_true, decide_eq_true_eq]; omega
/-- **formulas.holds**, at every right gate. -/
theorem holds_says (there : Int → Int) (T : S24) : rightB T = true → HoldsSays there T := by
  induction h : SizeOf.sizeOf T using Nat.strongRecOn generalizing T with
  | _ n ih =>
  intro hr
  subst h
  rw [rightB_eq] at hr
  by_cases h0 : 0 ≤ T.f0
  · rw [if_pos h0] at hr
    simp only [Bool.and_eq_true, decide_eq_true_eq] at hr
    exact holds_leaf there T h0 (wf64 (by omega) (by omega))
  · rw [if_neg h0] at hr
    simp only [Bool.and_eq_true, decide_eq_true_eq, beq_iff_eq, List.all_eq_true] at hr
    exact holds_gate there T hr.1.1.1 hr.1.1.2 hr.1.2 (fun x hx => ih _ (lt_of_mem_gate hx) x rfl (hr.2 x hx))

def okFrom : Int → List Int → Bool
  | _, [] => true
  | last, n :: r => decide (last < n) && decide (n < 64) && okFrom n r
def thereOf (who : List Int) (k : Int) : Int := if k ∈ who then 1 else 0
/-- formulas.Holds' answer. -/
def holdsAns (T : S24) (who : List Int) : Bool × Int :=
  if checkG T = 0 then (if okFrom (-1) who then (holdsB (thereOf who) T, 0) else (false, 1)) else (false, checkG T)

def lastOf (a : Int) (l : List Int) : Int := l.getLast?.getD a
theorem okFrom_snoc (a : Int) (l : List Int) (n : Int) : okFrom a (l ++ [n]) = (okFrom a l && decide (lastOf a l < n) && decide (n < 64)) := by
  induction l generalizing a with
  | nil => simp [okFrom, lastOf] <;> rfl
  | cons x l ih =>
    simp only [List.cons_append, okFrom, ih]
    have : lastOf a (x :: l) = lastOf x l := by unfold lastOf; cases l <;> simp [List.getLast?_cons]
    rw [this]
    simp only [Bool.and_assoc]
theorem okFrom_take {a : Int} {l : List Int} (h : okFrom a l = true) (k : Nat) : okFrom a (l.take k) = true := by
  induction l generalizing a k with
  | nil => simpa using h
  | cons x l ih =>
    simp only [okFrom, Bool.and_eq_true] at h
    cases k with
    | zero => rfl
    | succ k => simp only [List.take_succ_cons, okFrom, Bool.and_eq_true]; exact ⟨h.1, ih h.2 k⟩
theorem okFrom_last {a : Int} {l : List Int} (h : okFrom a l = true) : a ≤ lastOf a l ∧ (lastOf a l < 64 ∨ l = []) := by
  induction l generalizing a with
  | nil => exact ⟨Int.le_refl _, .inr rfl⟩
  | cons x l ih =>
    simp only [okFrom, Bool.and_eq_true, decide_eq_true_eq] at h
    have e : lastOf a (x :: l) = lastOf x l := by unfold lastOf; cases l <;> simp [List.getLast?_cons]
    have := ih h.2
    rw [e]
    refine ⟨by omega, .inl ?_⟩
    rcases this.2 with h2 | h2
    · exact h2
    · subst h2; simp [lastOf]; omega
theorem take_snoc_int (who : List Int) (k : Nat) (h : k < who.length) : who.take (k + 1) = who.take k ++ [who.getD k 0] := by
  rw [List.take_succ_eq_append_getElem h, List.getD_eq_getElem?_getD, List.getElem?_eq_getElem h]; rfl
theorem MapOf.made (W : World) : MapOf (W.alloc (.map #[] 0)) W.heap.size 0 (thereOf []) :=
  ⟨.map [], World.ownsMap_made W _ _ _, Maps.isMap_empty, fun k hk => by simp only [thereOf, List.not_mem_nil, if_false]; exact WideAt.atKey_none _ (fun _ h => by cases h)⟩
theorem MapOf.put {W : World} {b n : Nat} {f : Int → Int} (h : MapOf W b n f) (hn : n < maxLen) (k v : Int) (hk : (Lit.int .i64 k).wf = true) (hv : (Lit.int .i64 v).wf = true) :
    ∃ W', (Instr.mapUpdate 78 (.map (some b)) (.int .i64 k) (.int .i64 v)).run Try.prog W = .ok () W' ∧ MapOf W' b (n + 1) (fun x => if x = k then v else f x) ∧ W.grownBy W' (some b) := by
  obtain ⟨D, h1, h2, h3⟩ := h
  obtain ⟨W', hrun, hown, hg⟩ := h1.update law3 Try.underlying78 hn (keyOf_int_mk Try.underlying3 hk) (plainElem_int Try.underlying3 hv)
  refine ⟨W', hrun, ⟨_, hown, ?_, fun x hx => ?_⟩, hg⟩
  · exact h2.put _ _
  · by_cases e : x = k
    · subst e
      rw [Maps.atKey_put_same h2 (by trivial)]; simp
    · rw [Maps.atKey_put_other (by simpa using e), h3 x hx]; simp [e]

set_option maxRecDepth 100000 in
set_option maxHeartbeats 4000000 in
/-- **formulas.Holds**, at every gate and all people. -/
theorem Holds_calls (T : S24) (who : List Int) (A2 : Option Addr) (c2 : Nat) (A : Option Addr) (c : Nat) (w : World) (hR : RdG w T A2 c2) (hC : Kd.C (Kd.int .i64) w A who.length who) :
    Calls Try.prog 21 #[gv T A2 c2, .slice A who.length c] w fun e W' => e = .returned (.tuple #[.bool (holdsAns T who).1, .int .i64 (holdsAns T who).2]) ∧ Below w.heap.size w W' := by
  have hu24 := Try.underlying24
  have hu31 := Try.underlying31
  have hmm := @run_makeMap Try.prog
  have HK := fun W (hW : Below w.heap.size w W) => check_calls T A2 c2 W (hR.below hW)
  have HK := Aside0.mk HK
  have hb1 := below_alloc (Below.refl w.heap.size w) (Obj.cells #[Value.int IntKind.i64 T.f0, Value.int IntKind.i64 T.f1, Value.slice A2 T.f2.length c2] 24)
  have HB1 := Aside0.mk hb1
  clear hb1
  have HR := Aside0.mk hR
  have HC := Aside0.mk hC
  clear hR hC
  obtain ⟨cg, hcg⟩ : ∃ cg, checkG T = cg := ⟨_, rfl⟩
  rw [hcg] at HK
  by_cases hc0 : cg = 0
  · have hans : holdsAns T who = if okFrom (-1) who then (holdsB (thereOf who) T, 0) else (false, 1) := by unfold holdsAns; rw [hcg, if_pos hc0]
    subst hc0
    have hr : rightB T = true := by
      unfold checkG at hcg
      split at hcg
      · cases hcg
      · split at hcg
        · assumption
        · cases hcg
    have HS := Aside0.mk (holds_says (thereOf who) T hr)
    have HA := Aside0.mk hans
    obtain ⟨ans, hans2⟩ : ∃ ans, holdsAns T who = ans := ⟨_, rfl⟩
    rw [hans2] at HA ⊢
    clear hcg hans hr hans2
    unfold gv at *
    go_enter Try.func21, Try.ntmps21
    go_wp2_with fail
    refine (HK.out _ HB1.out).mono ?_
    rintro e w1 ⟨rfl, hb2⟩
    have hk := blk_below (blk_new w (Obj.cells #[Value.int IntKind.i64 T.f0, Value.int IntKind.i64 T.f1, Value.slice A2 T.f2.length c2] 24)) hb2
    have HB2 := Aside0.mk (below_call HB1.out hb2)
    have Hk := Aside0.mk hk
    clear hb2 hk
    go_wp2_with fail
    have hm0 := MapOf.made w1
    have HM0 := Aside0.mk hm0
    have hlen := HC.out.2.1
    clear hm0
    go_loopw [8, 19] (fun v8 v19 wr => ∃ k : Nat, k ≤ who.length ∧ v19 = .int .i64 k ∧ v8 = .int .i64 (lastOf (-1) (who.take k)) ∧ Aside0 (okFrom (-1) (who.take k) = true) ∧ Aside0 (MapOf wr w1.heap.size k (thereOf (who.take k))) ∧ Aside0 (Below w.heap.size w wr) ∧
        Aside0 (wr.heap[w.heap.size]? = some (.cells #[.int .i64 T.f0, .int .i64 T.f1, .slice A2 T.f2.length c2] 24 (0, 0)))) (fun _ v19 _ => who.length - (intOf v19).toNat)
    case atStart => exact ⟨0, Nat.zero_le _, rfl, rfl, ⟨rfl⟩, HM0, ⟨below_alloc HB2.out _⟩, ⟨blk_alloc Hk.out _⟩⟩
    case round =>
      obtain ⟨k, hk, rfl, rfl, HO, HM, HBw, HK'⟩ := hrel
      by_cases hlt : k < who.length
      · have hltz : (k : Int) < (who.length : Int) := by omega
        obtain ⟨ad, rfl, hcell⟩ := at_int HC.out HBw.out k hlt
        have ht := Aside0.mk (take_snoc_int who k hlt)
        have hl1 := okFrom_last HO.out
        have hsn := okFrom_snoc (-1) (who.take k) (who.getD k 0)
        rw [← ht.out, HO.out] at hsn
        have hno : okFrom (-1) (who.take (k + 1)) = false → okFrom (-1) who = false := fun h => by
          cases h2 : okFrom (-1) who with
          | false => rfl
          | true => rw [okFrom_take h2] at h; cases h
        obtain ⟨lst, hlst⟩ : ∃ lst, lastOf (-1) (who.take k) = lst := ⟨_, rfl⟩
        obtain ⟨n, hn⟩ : ∃ n, who.getD k 0 = n := ⟨_, rfl⟩
        rw [hlst] at hl1 hsn
        rw [hlst]
        rw [hn] at hcell hsn ht
        obtain ⟨x1, e1⟩ : ∃ x, decide (n ≤ lst) = x := ⟨_, rfl⟩
        obtain ⟨x2, e2⟩ : ∃ x, decide (64 ≤ n) = x := ⟨_, rfl⟩
        have hl2 := Aside0.mk hl1
        have hsn' := Aside0.mk hsn
        have hno' := Aside0.mk hno
        have hn' := Aside0.mk hlst
        clear hl1 hsn hno hn hlst
        cases x1
        case' false =>
          cases x2
          case' false =>
            have hb1 : ¬ n ≤ lst := of_decide_eq_false e1
            have hb2 : ¬ 64 ≤ n := of_decide_eq_false e2
            have hl1 := hl2.out.1
            obtain ⟨W', hrun, hm', hg'⟩ := HM.out.put (n := k) (by unfold maxLen; omega) n 1 (wf64 (by omega) (by omega)) (by decide)
            have HM' := Aside0.mk hm'
            have HG' := Aside0.mk hg'
            clear hm' hg'
            go_wp2_with fail
            go_roundw
            case rel =>
              have hlt1 := HM.out.lt
              refine ⟨k + 1, by omega, by go_num, ?_, ⟨?_⟩, ⟨?_⟩, ⟨HBw.out.grown HG'.out HBw.out.size (fun r e => by cases e; have := HB2.out.size; omega)⟩, ⟨blk_grown HK'.out HG'.out ?_⟩⟩
              · rw [ht.out]; simp [lastOf]
              · rw [hsn'.out]; simp; omega
              · have := HM'.out
                rw [ht.out]
                have e : (fun x => if x = n then (1 : Int) else thereOf (List.take k who) x) = thereOf (List.take k who ++ [n]) := by
                  funext x; unfold thereOf; by_cases hx : x = n <;> simp [hx]
                rwa [e] at this
              · have := blk_lt Hk.out; simp; omega
            case measure => simp [intOf]; omega
        all_goals
          have hA1 : okFrom (-1) who = false := hno'.out (by
            rw [hsn'.out]
            first
              | (have := of_decide_eq_true e1; simp; omega)
              | (have := of_decide_eq_true e2; simp; omega))
          have hA2 := HA.out
          rw [hA1] at hA2
          simp only [Bool.false_eq_true, if_false] at hA2
          subst hA2
          clear hA1
          go_wp2_with fail
          go_ret2
          exact ⟨rfl, HBw.out⟩
      · have hltz : ¬ (k : Int) < (who.length : Int) := by omega
        have : k = who.length := by omega
        subst this
        have hok := HO.out
        rw [List.take_length] at hok
        have hA := HA.out
        rw [hok] at hA
        simp only [if_true] at hA
        have hm := HM.out
        rw [List.take_length] at hm
        have HCC := HS.out A2 c2 _ _ wr (HR.out.below HBw.out) hm
        have HC2 := Aside0.mk HCC
        have q0 := (blk_cell HK'.out 0).trans rfl
        have q1 := (blk_cell HK'.out 1).trans rfl
        have q2 := (blk_cell HK'.out 2).trans rfl
        obtain ⟨hb, hhb⟩ : ∃ hb, holdsB (thereOf who) T = hb := ⟨_, rfl⟩
        rw [hhb] at hA HC2
        subst hA
        clear hm HCC hok hhb
        unfold gv at *
        go_wp2_with fail
        refine HC2.out.mono ?_
        rintro e w3 ⟨rfl, hb3⟩
        have HB3 := Aside0.mk (below_call HBw.out hb3)
        clear hb3
        go_wp2_with fail
        go_ret2
        exact ⟨rfl, HB3.out⟩
  · have hans : holdsAns T who = (false, cg) := by unfold holdsAns; rw [hcg, if_neg hc0]
    rw [hans]
    have hcb : (cg != 0) = true := by simpa using hc0
    clear hans hcg hc0
    unfold gv at *
    go_enter Try.func21, Try.ntmps21
    go_wp2_with fail
    refine (HK.out _ HB1.out).mono ?_
    rintro e w1 ⟨rfl, hb2⟩
    have HB2 := Aside0.mk (below_call HB1.out hb2)
    clear hb2
    go_wp2_with fail
    go_ret2
    exact ⟨rfl, HB2.out⟩
end Go.Proofs.Ytipdpfnjobfbpaa.H
