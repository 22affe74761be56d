/- The laws of formulas in plain words, third part: what the references' tests find. -/
import Derived.Test.YtipdpfnjobfbpaaHPure22b
namespace Go.Proofs.Ytipdpfnjobfbpaa.H
open Go.RowKit Go.Shelf Go.Proofs.YtipdpfnjobfbpaaW.PrintWords Go.Proofs.YtipdpfnjobfbpaaW.PrintLast Go.Proofs.YtipdpfnjobfbpaaW.PrintMore Go.Proofs.Ytipdpfnjobfbpaa.P
set_option linter.unusedVariables false
set_option linter.unusedSimpArgs false

/-- Lists as long as memory holds them. -/
def bddB (T : S24) : Bool := decide (T.f2.length ≤ 9223372036854775807) && T.f2.attach.all fun x => bddB x.1
termination_by SizeOf.sizeOf T
decreasing_by exact lt_of_mem_gate x.2
theorem bdd_iff (T : S24) : bddB T = true ↔ T.f2.length ≤ 9223372036854775807 ∧ ∀ x ∈ T.f2, bddB x = true := by
  rw [bddB]; simp
theorem rd_bdd (T : S24) : ∀ {w : World} {A : Option Addr} {c : Nat}, RdG w T A c → bddB T = true := by
  induction T using gate_ind with
  | _ T ih =>
  intro w A c hR
  rw [bdd_iff]
  refine ⟨hR.C.2.1, fun x hx => ?_⟩
  obtain ⟨j, hj, rfl⟩ := List.getElem_of_mem hx
  obtain ⟨ad, A2, c2, _, _, _, _, h⟩ := at_gate hR.C (Below.refl _ _) j hj
  rw [List.getD_eq_getElem?_getD, List.getElem?_eq_getElem hj] at h
  exact ih _ hx h
theorem getD_drop {α : Type} (l : List α) (d : α) (i : Nat) (h : i < l.length) : l.drop i = l.getD i d :: l.drop (i + 1) := by
  rw [List.drop_eq_getElem_cons h, List.getD_eq_getElem?_getD, List.getElem?_eq_getElem h]; rfl
theorem deeper_ev (T : S24) : ∀ d : Nat, d ≤ 16 → bddB T = true → Ev (fun k => signatoryref22_deeper.f k T.f0 T.f1 T.f2 d) (deeperB d T) := by
  induction T using gate_ind with
  | _ T ih =>
  intro d hd hb
  rw [bdd_iff] at hb
  cases d with
  | zero => exact Ev.step (f := fun _ => some true) (fun k => by simp [signatoryref22_deeper.f]) (Ev.now _)
  | succ d =>
    have key : ∀ (n i : Nat), i + n = T.f2.length → Ev (fun k => signatoryref22_deeper.l0 k ((d + 1 : Nat) : Int) (i : Int) T.f0 T.f1 T.f2) ((T.f2.drop i).any (deeperB d)) := by
      intro n
      induction n with
      | zero =>
        intro i hi
        refine Ev.step (f := fun _ => some false) (fun k => ?_) ?_
        · simp only [signatoryref22_deeper.l0]; rw [if_neg (by omega)]
        · rw [List.drop_eq_nil_of_le (by omega)]; exact Ev.now _
      | succ n ihn =>
        intro i hi
        have hx : T.f2.getD i z24 ∈ T.f2 := getD_mem_gate (by omega)
        have h1 := ih _ hx d (by omega) (hb.2 _ hx)
        have hw : wrap64 (((d + 1 : Nat) : Int) - 1) = (d : Int) := by rw [wrap64_id (by omega) (by omega)]; omega
        have hw2 : wrap64 ((i : Int) + 1) = ((i + 1 : Nat) : Int) := by rw [wrap64_id (by omega) (by omega)]; rfl
        refine Ev.step (f := fun k => (signatoryref22_deeper.f k (T.f2.getD i z24).f0 (T.f2.getD i z24).f1 (T.f2.getD i z24).f2 d).bind fun t => if t = true then some true else signatoryref22_deeper.l0 k ((d + 1 : Nat) : Int) ((i + 1 : Nat) : Int) T.f0 T.f1 T.f2) (fun k => ?_) ?_
        · simp only [signatoryref22_deeper.l0]; rw [if_pos (by omega), if_pos (by omega), hw, hw2]; rfl
        · refine Ev.bind h1 ?_
          rw [getD_drop _ z24 i (by omega), List.any_cons]
          cases deeperB d (T.f2.getD i z24) with
          | true => exact Ev.now _
          | false => simpa using ihn (i + 1) (by omega)
    refine Ev.step (f := fun k => signatoryref22_deeper.l0 k ((d + 1 : Nat) : Int) 0 T.f0 T.f1 T.f2) (fun k => ?_) ?_
    · simp only [signatoryref22_deeper.f]; rw [if_neg (by omega)]
    · have := key T.f2.length 0 (by omega)
      rw [List.drop_zero] at this
      exact this
theorem right_ev (T : S24) : bddB T = true → Ev (fun k => signatoryref22_right.f k T.f0 T.f1 T.f2) (rightB T) := by
  induction T using gate_ind with
  | _ T ih =>
  intro hb
  rw [bdd_iff] at hb
  rw [rightB_eq]
  by_cases h0 : 0 ≤ T.f0
  · rw [if_pos h0]
    refine Ev.step (f := fun _ => some (decide (T.f0 < 64) && (T.f1 == 0) && (T.f2.length == 0))) (fun k => ?_) (Ev.now _)
    simp only [signatoryref22_right.f]
    rw [if_pos h0]
    by_cases h1 : T.f0 < 64
    · rw [if_pos h1]
      by_cases h2 : T.f1 = 0
      · rw [if_pos h2]
        have : ((T.f2.length : Int) == 0) = (T.f2.length == 0) := by rw [Bool.eq_iff_iff]; simp only [beq_iff_eq]; omega
        rw [this]; simp [h1, h2]
      · rw [if_neg h2]; simp [h2]
    · rw [if_neg h1]; simp [h1]
  · rw [if_neg h0]
    have key : ∀ (n i : Nat), i + n = T.f2.length → Ev (fun k => signatoryref22_right.l0 k (i : Int) T.f0 T.f1 T.f2) ((T.f2.drop i).all rightB) := by
      intro n
      induction n with
      | zero =>
        intro i hi
        refine Ev.step (f := fun _ => some true) (fun k => ?_) ?_
        · simp only [signatoryref22_right.l0]; rw [if_neg (by omega)]
        · rw [List.drop_eq_nil_of_le (by omega)]; exact Ev.now _
      | succ n ihn =>
        intro i hi
        have hx : T.f2.getD i z24 ∈ T.f2 := getD_mem_gate (by omega)
        have h1 := ih _ hx (hb.2 _ hx)
        have hw2 : wrap64 ((i : Int) + 1) = ((i + 1 : Nat) : Int) := by rw [wrap64_id (by omega) (by omega)]; rfl
        refine Ev.step (f := fun k => (signatoryref22_right.f k (T.f2.getD i z24).f0 (T.f2.getD i z24).f1 (T.f2.getD i z24).f2).bind fun t => if t = true then signatoryref22_right.l0 k ((i + 1 : Nat) : Int) T.f0 T.f1 T.f2 else some false) (fun k => ?_) ?_
        · simp only [signatoryref22_right.l0]; rw [if_pos (by omega), if_pos (by omega), hw2]; rfl
        · refine Ev.bind h1 ?_
          rw [getD_drop _ z24 i (by omega), List.all_cons]
          cases rightB (T.f2.getD i z24) with
          | true => simpa using ihn (i + 1) (by omega)
          | false => exact Ev.now _
    have hj : ∀ b : Bool, Ev (fun k => signatoryref22_right.j0 k b T.f0 T.f1 T.f2) (!b && T.f2.all rightB) := by
      intro b
      cases b with
      | true => exact Ev.step (f := fun _ => some false) (fun k => by simp [signatoryref22_right.j0]) (Ev.now _)
      | false =>
        refine Ev.step (f := fun k => signatoryref22_right.l0 k 0 T.f0 T.f1 T.f2) (fun k => by simp [signatoryref22_right.j0]) ?_
        have := key T.f2.length 0 (by omega)
        rw [List.drop_zero] at this
        simpa using this
    by_cases h1 : T.f0 = -1
    · by_cases h2 : T.f1 < 1
      · refine Ev.step (f := fun k => signatoryref22_right.j0 k true T.f0 T.f1 T.f2) (fun k => ?_) ?_
        · simp only [signatoryref22_right.f]; rw [if_neg h0, if_pos h1, if_pos h2]
        · have := hj true
          have e : decide (1 ≤ T.f1) = false := by simp; omega
          rw [e]; simpa using this
      · refine Ev.step (f := fun k => signatoryref22_right.j0 k (decide (T.f1 > 4096)) T.f0 T.f1 T.f2) (fun k => ?_) ?_
        · simp only [signatoryref22_right.f]; rw [if_neg h0, if_pos h1, if_neg h2]
        · have := hj (decide (T.f1 > 4096))
          have e : decide (1 ≤ T.f1) = true := by simp; omega
          have e2 : (!decide (T.f1 > 4096)) = decide (T.f1 ≤ 4096) := by rw [Bool.eq_iff_iff]; simp
          rw [e2] at this
          rw [e]; simpa [h1] using this
    · refine Ev.step (f := fun k => signatoryref22_right.j0 k true T.f0 T.f1 T.f2) (fun k => ?_) ?_
      · simp only [signatoryref22_right.f]; rw [if_neg h0, if_neg h1]
      · have := hj true
        have e : (T.f0 == -1) = false := by simpa using h1
        rw [e]; simpa using this
theorem leaves_ev (T : S24) : ∀ lim : Int, 0 ≤ lim → lim ≤ 1000 → bddB T = true → ∃ r : Int, Ev (fun k => signatoryref22_Leaves.f k T.f0 T.f1 T.f2 lim) r ∧ 1 ≤ r ∧ r ≤ lim + 1 ∧ (r ≤ lim → r = lv T) := by
  induction T using gate_ind with
  | _ T ih =>
  intro lim h0 h1 hb
  rw [bdd_iff] at hb
  by_cases hl : T.f2.length = 0
  · refine ⟨1, Ev.step (f := fun _ => some 1) (fun k => ?_) (Ev.now _), by omega, by omega, fun _ => ?_⟩
    · simp only [signatoryref22_Leaves.f]; rw [if_pos (by omega)]
    · rw [lv_eq, if_pos hl]; rfl
  · have key : ∀ (n i : Nat) (acc : Int), i + n = T.f2.length → 0 ≤ acc → acc ≤ lim + 1 → (0 < i → 1 ≤ acc) → (acc ≤ lim → acc = ((T.f2.take i).map lv).sum) →
        ∃ r : Int, Ev (fun k => signatoryref22_Leaves.l0 k lim acc (i : Int) T.f0 T.f1 T.f2) r ∧ 1 ≤ r ∧ r ≤ lim + 1 ∧ (r ≤ lim → r = (T.f2.map lv).sum) := by
      intro n
      induction n with
      | zero =>
        intro i acc hi ha0 ha1 hp hacc
        refine ⟨acc, Ev.step (f := fun _ => some acc) (fun k => ?_) (Ev.now _), hp (by omega), ha1, fun h => ?_⟩
        · simp only [signatoryref22_Leaves.l0]; rw [if_neg (by omega)]
        · rw [hacc h, List.take_of_length_le (by omega)]
      | succ n ihn =>
        intro i acc hi ha0 ha1 hp hacc
        by_cases hc : acc ≤ lim
        · have hx : T.f2.getD i z24 ∈ T.f2 := getD_mem_gate (by omega)
          obtain ⟨t, ht, ht1, ht2, ht3⟩ := ih _ hx (lim - acc) (by omega) (by omega) (hb.2 _ hx)
          have hw : wrap64 (lim - acc) = lim - acc := wrap64_id (by omega) (by omega)
          have hw1 : wrap64 (acc + t) = acc + t := wrap64_id (by omega) (by omega)
          have hw2 : wrap64 ((i : Int) + 1) = ((i + 1 : Nat) : Int) := by rw [wrap64_id (by omega) (by omega)]; rfl
          have htk : ((T.f2.take (i + 1)).map lv).sum = ((T.f2.take i).map lv).sum + lv (T.f2.getD i z24) := by
            rw [List.take_succ_eq_append_getElem (by omega : i < T.f2.length), List.map_append, List.getD_eq_getElem?_getD, List.getElem?_eq_getElem (by omega : i < T.f2.length), List.sum_append]; simp
          obtain ⟨r, hr, hr1, hr2, hr3⟩ := ihn (i + 1) (acc + t) (by omega) (by omega) (by omega) (fun _ => by omega) (fun h => by
            have e1 := hacc hc
            have e2 := ht3 (by omega)
            rw [htk]; omega)
          refine ⟨r, Ev.step (f := fun k => (signatoryref22_Leaves.f k (T.f2.getD i z24).f0 (T.f2.getD i z24).f1 (T.f2.getD i z24).f2 (lim - acc)).bind fun t => signatoryref22_Leaves.l0 k lim (wrap64 (acc + t)) ((i + 1 : Nat) : Int) T.f0 T.f1 T.f2) (fun k => ?_) ?_, hr1, hr2, hr3⟩
          · simp only [signatoryref22_Leaves.l0]; rw [if_pos (by omega), if_pos hc, if_pos (by omega), hw, hw2]; rfl
          · refine Ev.bind ht ?_
            rw [hw1]; exact hr
        · refine ⟨acc, Ev.step (f := fun _ => some acc) (fun k => ?_) (Ev.now _), by omega, ha1, fun h => absurd h hc⟩
          simp only [signatoryref22_Leaves.l0]; rw [if_pos (by omega), if_neg hc]
    obtain ⟨r, hr, hr1, hr2, hr3⟩ := key T.f2.length 0 0 (by omega) (by omega) (by omega) (by omega) (fun _ => by simp)
    refine ⟨r, Ev.step (f := fun k => signatoryref22_Leaves.l0 k lim 0 0 T.f0 T.f1 T.f2) (fun k => ?_) hr, hr1, hr2, fun h => ?_⟩
    · simp only [signatoryref22_Leaves.f]; rw [if_neg (by omega)]
    · rw [hr3 h, lv_eq, if_neg hl]
/-- What 'Small' finds. -/
theorem small_ev (T : S24) (hb : bddB T = true) : ∃ r, Ev (fun k => signatoryref22_Small.f k T.f0 T.f1 T.f2) r ∧ (r = true → rightB T = true ∧ deeperB 16 T = false ∧ lv T ≤ 60) := by
  obtain ⟨t, ht, ht1, ht2, ht3⟩ := leaves_ev T 60 (by omega) (by omega) hb
  unfold signatoryref22_Small.f
  by_cases hc : t ≤ 60
  · have hchk : ∃ r : Int, Ev (fun k => signatoryref22_Check.f k T.f0 T.f1 T.f2) r ∧ (r = 0 → rightB T = true ∧ deeperB 16 T = false) := by
      unfold signatoryref22_Check.f
      have hd := deeper_ev T 16 (by omega) hb
      cases hdb : deeperB 16 T with
      | true =>
        rw [hdb] at hd
        exact ⟨2, Ev.bind hd (Ev.step (f := fun _ => some 2) (fun k => by simp [signatoryref22_Check.j0]) (Ev.now _)), by omega⟩
      | false =>
        rw [hdb] at hd
        obtain ⟨t2, h2, _, _, _⟩ := leaves_ev T 256 (by omega) (by omega) hb
        by_cases hl : t2 > 256
        · refine ⟨2, Ev.bind hd (Ev.bind h2 ?_), by omega⟩
          simp only [decide_eq_true hl]
          exact Ev.step (f := fun _ => some 2) (fun k => by simp [signatoryref22_Check.j0]) (Ev.now _)
        · have hr := right_ev T hb
          refine ⟨if rightB T = true then 0 else 220, Ev.bind hd (Ev.bind h2 ?_), fun h => ?_⟩
          · simp only [decide_eq_false hl]
            refine Ev.step (f := fun k => (signatoryref22_right.f k T.f0 T.f1 T.f2).bind fun t => if t = true then some 0 else some 220) (fun k => by simp [signatoryref22_Check.j0]) (Ev.bind hr ?_)
            split
            · exact Ev.now _
            · exact Ev.now _
          · split at h
            · exact ⟨‹_›, rfl⟩
            · omega
    obtain ⟨r, hr, hr0⟩ := hchk
    refine ⟨r == 0, Ev.bind ht ?_, fun h => ?_⟩
    · simp only [if_pos hc]
      exact Ev.bind hr (Ev.now _)
    · have := hr0 (by simpa using h)
      exact ⟨this.1, this.2, by have := ht3 hc; omega⟩
  · refine ⟨false, Ev.bind ht ?_, fun h => by cases h⟩
    simp only [if_neg hc]
    exact Ev.now _
end Go.Proofs.Ytipdpfnjobfbpaa.H
