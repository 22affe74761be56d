/- The laws of formulas in plain words, second part: more people, who stands in a formula, leaves and depth, the dual. -/
import Derived.Test.YtipdpfnjobfbpaaHPure22
namespace Go.Proofs.Ytipdpfnjobfbpaa.H
open Go.RowKit Go.Shelf Go.Proofs.YtipdpfnjobfbpaaW.PrintWords Go.Proofs.YtipdpfnjobfbpaaW.PrintLast Go.Proofs.YtipdpfnjobfbpaaW.PrintMore Go.Proofs.Ytipdpfnjobfbpaa.P
set_option linter.unusedVariables false
set_option linter.unusedSimpArgs false

theorem gate_ind {P : S24 → Prop} (h : ∀ T, (∀ x, x ∈ T.f2 → P x) → P T) (T : S24) : P T := by
  induction hn : SizeOf.sizeOf T using Nat.strongRecOn generalizing T with
  | _ n ih => subst hn; exact h T (fun x hx => ih _ (lt_of_mem_gate hx) x rfl)

theorem right_leaf {T : S24} (h : rightB T = true) (h0 : 0 ≤ T.f0) : T.f0 < 64 ∧ T.f1 = 0 ∧ T.f2 = [] := by
  rw [rightB_eq, if_pos h0] at h
  simp only [Bool.and_eq_true, decide_eq_true_eq, beq_iff_eq] at h
  exact ⟨h.1.1, h.1.2, List.eq_nil_of_length_eq_zero h.2⟩
theorem right_gate {T : S24} (h : rightB T = true) (h0 : ¬ 0 ≤ T.f0) : T.f0 = -1 ∧ 1 ≤ T.f1 ∧ T.f1 ≤ 4096 ∧ ∀ x ∈ T.f2, rightB x = true := by
  rw [rightB_eq, if_neg h0] at h
  simp only [Bool.and_eq_true, decide_eq_true_eq, beq_iff_eq, List.all_eq_true] at h
  exact ⟨h.1.1.1, h.1.1.2, h.1.2, h.2⟩
theorem holds_mono (f g : Int → Int) (hfg : ∀ p, 0 < f p → 0 < g p) (T : S24) : holdsB f T = true → holdsB g T = true := by
  induction T using gate_ind with
  | _ T ih =>
  rw [holdsB_eq f, holdsB_eq g]
  by_cases h0 : 0 ≤ T.f0
  · rw [if_pos h0, if_pos h0]; simpa using hfg _
  · rw [if_neg h0, if_neg h0]
    simp only [decide_eq_true_eq]
    have : T.f2.countP (holdsB f) ≤ T.f2.countP (holdsB g) := List.countP_mono_left (fun x hx h => ih x hx h)
    omega
theorem holds_none (T : S24) : rightB T = true → holdsB (thereOf []) T = false := by
  induction T using gate_ind with
  | _ T ih =>
  intro hr
  rw [holdsB_eq]
  by_cases h0 : 0 ≤ T.f0
  · rw [if_pos h0, there_none]; rfl
  · have hg := right_gate hr h0
    rw [if_neg h0, List.countP_eq_zero.2 (fun x hx => by rw [ih x hx (hg.2.2.2 x hx)]; decide)]
    simp; omega
/-- Does a person stand in a formula? -/
def memP (p : Int) (T : S24) : Bool := if 0 ≤ T.f0 then T.f0 == p else T.f2.attach.any fun x => memP p x.1
termination_by SizeOf.sizeOf T
decreasing_by exact lt_of_mem_gate x.2
theorem memP_eq (p : Int) (T : S24) : memP p T = if 0 ≤ T.f0 then T.f0 == p else T.f2.any (memP p) := by
  rw [memP]
  by_cases h : 0 ≤ T.f0
  · rw [if_pos h, if_pos h]
  · rw [if_neg h, if_neg h]; simp
theorem holds_congr' (f g : Int → Int) (T : S24) : rightB T = true → (∀ p, memP p T = true → decide (0 < f p) = decide (0 < g p)) → holdsB f T = holdsB g T := by
  induction T using gate_ind with
  | _ T ih =>
  intro hr hfg
  rw [holdsB_eq f, holdsB_eq g]
  by_cases h0 : 0 ≤ T.f0
  · rw [if_pos h0, if_pos h0, hfg _ (by rw [memP_eq, if_pos h0]; simp)]
  · have hg := right_gate hr h0
    rw [if_neg h0, if_neg h0, List.countP_congr (fun x hx => by
      rw [ih x hx (hg.2.2.2 x hx) (fun p hp => hfg p (by rw [memP_eq, if_neg h0]; exact List.any_eq_true.2 ⟨x, hx, hp⟩))])]
theorem memP_right (p : Int) (T : S24) : rightB T = true → memP p T = true → 0 ≤ p ∧ p < 64 := by
  induction T using gate_ind with
  | _ T ih =>
  intro hr hm
  rw [memP_eq] at hm
  by_cases h0 : 0 ≤ T.f0
  · rw [if_pos h0] at hm
    have := right_leaf hr h0
    have : T.f0 = p := by simpa using hm
    omega
  · rw [if_neg h0] at hm
    obtain ⟨x, hx, hp⟩ := List.any_eq_true.1 hm
    exact ih x hx ((right_gate hr h0).2.2.2 x hx) hp
/-- The bits of the people of a formula, behind others. -/
def walkBits (T : S24) (acc : Nat) : Nat :=
  T.f2.attach.foldl (fun a x => walkBits x.1 a) (if 0 ≤ T.f0 then acc ||| 2 ^ T.f0.toNat else acc)
termination_by SizeOf.sizeOf T
decreasing_by exact lt_of_mem_gate x.2
theorem walkBits_eq (T : S24) (acc : Nat) : walkBits T acc = T.f2.foldl (fun a x => walkBits x a) (if 0 ≤ T.f0 then acc ||| 2 ^ T.f0.toNat else acc) := by
  rw [walkBits]; simp
theorem walkBits_test (T : S24) : rightB T = true → ∀ acc i, (walkBits T acc).testBit i = (acc.testBit i || memP (i : Int) T) := by
  induction T using gate_ind with
  | _ T ih =>
  intro hr acc i
  rw [walkBits_eq, memP_eq]
  by_cases h0 : 0 ≤ T.f0
  · have hl := right_leaf hr h0
    rw [if_pos h0, if_pos h0, hl.2.2]
    simp only [List.foldl_nil, Nat.testBit_or, Nat.testBit_two_pow]
    congr 1
    rw [Bool.eq_iff_iff, decide_eq_true_eq, beq_iff_eq]; omega
  · have hg := right_gate hr h0
    rw [if_neg h0, if_neg h0]
    have key : ∀ (l : List S24) (acc : Nat), (∀ x ∈ l, x ∈ T.f2) → (l.foldl (fun a x => walkBits x a) acc).testBit i = (acc.testBit i || l.any (memP (i : Int))) := by
      intro l
      induction l with
      | nil => intro acc _; simp
      | cons x l ihl =>
        intro acc hx
        rw [List.foldl_cons, ihl _ (fun y hy => hx y (by simp [hy])), ih x (hx x (by simp)) (hg.2.2.2 x (hx x (by simp))), List.any_cons, Bool.or_assoc]
    exact key T.f2 acc (fun x hx => hx)
theorem walkBits_lt (T : S24) : rightB T = true → ∀ acc, acc < 2 ^ 64 → walkBits T acc < 2 ^ 64 := by
  induction T using gate_ind with
  | _ T ih =>
  intro hr acc ha
  rw [walkBits_eq]
  by_cases h0 : 0 ≤ T.f0
  · have hl := right_leaf hr h0
    rw [if_pos h0, hl.2.2]
    exact Nat.or_lt_two_pow ha (Nat.pow_lt_pow_right (by omega) (by omega))
  · have hg := right_gate hr h0
    rw [if_neg h0]
    have key : ∀ (l : List S24) (acc : Nat), acc < 2 ^ 64 → (∀ x ∈ l, x ∈ T.f2) → (l.foldl (fun a x => walkBits x a) acc) < 2 ^ 64 := by
      intro l
      induction l with
      | nil => intro acc h _; exact h
      | cons x l ihl =>
        intro acc h hx
        rw [List.foldl_cons]
        exact ihl _ (ih x (hx x (by simp)) (hg.2.2.2 x (hx x (by simp))) acc h) (fun y hy => hx y (by simp [hy]))
    exact key T.f2 acc ha (fun x hx => hx)

/-! ### Leaves and depth -/
def lv (T : S24) : Nat := if T.f2.length = 0 then 1 else (T.f2.attach.map fun x => lv x.1).sum
termination_by SizeOf.sizeOf T
decreasing_by exact lt_of_mem_gate x.2
theorem lv_eq (T : S24) : lv T = if T.f2.length = 0 then 1 else (T.f2.map lv).sum := by
  rw [lv]; simp
theorem lv_pos (T : S24) : 1 ≤ lv T := by
  induction T using gate_ind with
  | _ T ih =>
  rw [lv_eq]
  split
  · omega
  · rename_i h
    cases hl : T.f2 with
    | nil => rw [hl] at h; exact absurd rfl h
    | cons x l =>
      have := ih x (by rw [hl]; simp)
      simp; omega
def deeperB : Nat → S24 → Bool
  | 0, _ => true
  | n + 1, T => T.f2.any (deeperB n)
theorem deeper_mono : ∀ (n : Nat) (T : S24), deeperB n T = false → deeperB (n + 1) T = false := by
  intro n
  induction n with
  | zero => intro T h; simp [deeperB] at h
  | succ n ih =>
    intro T h
    rw [deeperB, List.any_eq_false] at h ⊢
    intro x hx
    have := ih x (by simpa using h x hx)
    simp [this]
theorem walkN_ok : ∀ (n : Nat) (T : S24) (c : Int), deeperB n T = false → (lv T : Int) ≤ c → walkN n T c = (false, c - lv T) := by
  intro n
  induction n with
  | zero => intro T c h; simp [deeperB] at h
  | succ n ih =>
    intro T c h hc
    have hlv := lv_eq T
    simp only [walkN]
    by_cases hl : T.f2.length = 0
    · rw [if_pos hl] at hlv ⊢
      rw [hlv] at hc ⊢
      simp; omega
    · rw [if_neg hl] at hlv ⊢
      rw [deeperB, List.any_eq_false] at h
      rw [hlv] at hc ⊢
      have key : ∀ j, j ≤ T.f2.length → lvAt (walkN n) T.f2 c j = c - ((T.f2.take j).map lv).sum ∧ ∀ i, i < j → hitAt (walkN n) T.f2 c i = false := by
        intro j
        induction j with
        | zero => intro _; exact ⟨by simp [lvAt], fun i hi => by omega⟩
        | succ j ihj =>
          intro hj
          obtain ⟨h1, h2⟩ := ihj (by omega)
          have hx : T.f2.getD j z24 ∈ T.f2 := getD_mem_gate (by omega)
          have hle : ((T.f2.take (j + 1)).map lv).sum ≤ (T.f2.map lv).sum := by
            conv => rhs; rw [← List.take_append_drop (j + 1) T.f2, List.map_append, List.sum_append]
            omega
          have ht : (T.f2.take (j + 1)).map lv = (T.f2.take j).map lv ++ [lv (T.f2.getD j z24)] := by
            rw [List.take_succ_eq_append_getElem (by omega : j < T.f2.length), List.map_append, List.getD_eq_getElem?_getD, List.getElem?_eq_getElem (by omega : j < T.f2.length)]; rfl
          have hs : ((T.f2.take (j + 1)).map lv).sum = ((T.f2.take j).map lv).sum + lv (T.f2.getD j z24) := by rw [ht, List.sum_append]; simp
          have hw := ih (T.f2.getD j z24) (lvAt (walkN n) T.f2 c j) (by simpa using h _ hx) (by rw [h1]; omega)
          refine ⟨?_, fun i hi => ?_⟩
          · show (walkN n _ _).2 = _
            rw [hw, h1, hs]; simp; omega
          · by_cases e : i = j
            · subst e; show (walkN n _ _).1 = _; rw [hw]
            · exact h2 i (by omega)
      obtain ⟨h1, h2⟩ := key T.f2.length (Nat.le_refl _)
      have hf := firstOf_miss h2
      unfold walkL
      rw [hf, Nat.min_eq_right (by omega), h1, List.take_length]
      simp
theorem check_ok {T : S24} (h1 : rightB T = true) (h2 : deeperB 16 T = false) (h3 : lv T ≤ 256) : checkG T = 0 := by
  unfold checkG largeB
  rw [walkN_ok 16 T 256 h2 (by omega), h1]; rfl
end Go.Proofs.Ytipdpfnjobfbpaa.H
