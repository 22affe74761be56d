/- Plain laws for signatorylaw22.FormulasCounted: elements of a small right gate, and a gate whose list is turned. -/
import Derived.Test.YtipdpfnjobfbpaaHLaw4
namespace Go.Proofs.Ytipdpfnjobfbpaa.H
open Go.RowKit Go.Shelf Go.Proofs.YtipdpfnjobfbpaaW.PrintWords Go.Proofs.YtipdpfnjobfbpaaW.PrintLast Go.Proofs.YtipdpfnjobfbpaaW.PrintMore Go.Proofs.Ytipdpfnjobfbpaa.P
set_option linter.unusedVariables false

theorem ans_ok {T : S24} (hr : rightB T = true) (hd : deeperB 16 T = false) (hl : lv T ≤ 60) (a : Int) : holdsAns T (peopleP a) = (holdsB (thereOf (peopleP a)) T, 0) := by
  unfold holdsAns; rw [check_ok hr hd (by omega), people_ok]; rfl
theorem sub_ok {T x : S24} (hr : rightB T = true) (hd : deeperB 16 T = false) (hl : lv T ≤ 60) (hx : x ∈ T.f2) : rightB x = true ∧ deeperB 16 x = false ∧ lv x ≤ 60 := by
  have h0 : ¬ 0 ≤ T.f0 := fun h0 => by
    have := (right_leaf hr h0).2.2
    rw [this] at hx; cases hx
  refine ⟨(right_gate hr h0).2.2.2 x hx, ?_, Nat.le_trans (lv_mem hx) hl⟩
  apply deeper_mono
  have : deeperB (15 + 1) T = false := hd
  rw [deeperB] at this
  rw [List.any_eq_false] at this
  exact Bool.eq_false_iff.2 (this x hx)
theorem ans_sub {T x : S24} (hr : rightB T = true) (hd : deeperB 16 T = false) (hl : lv T ≤ 60) (hx : x ∈ T.f2) (a : Int) : holdsAns x (peopleP a) = (holdsB (thereOf (peopleP a)) x, 0) := by
  obtain ⟨h1, h2, h3⟩ := sub_ok hr hd hl hx
  exact ans_ok h1 h2 h3 a
def turnT (T : S24) (k : Nat) : S24 := ⟨T.f0, T.f1, T.f2.drop k ++ T.f2.take k⟩
theorem turn_perm (T : S24) (k : Nat) : (turnT T k).f2.Perm T.f2 := by
  have h : (T.f2.drop k ++ T.f2.take k).Perm (T.f2.take k ++ T.f2.drop k) := List.perm_append_comm
  rw [List.take_append_drop] at h
  exact h
theorem turn_right (T : S24) (k : Nat) (h : rightB T = true) : rightB (turnT T k) = true := by
  have hp := turn_perm T k
  rw [rightB_eq] at h ⊢
  have hl : (turnT T k).f2.length = T.f2.length := hp.length_eq
  have e : (turnT T k).f2.all rightB = T.f2.all rightB := by
    rw [Bool.eq_iff_iff, List.all_eq_true, List.all_eq_true]
    exact ⟨fun h x hx => h x (hp.mem_iff.2 hx), fun h x hx => h x (hp.mem_iff.1 hx)⟩
  rw [hl, e]
  exact h
theorem turn_deeper (T : S24) (k n : Nat) : deeperB n (turnT T k) = deeperB n T := by
  cases n with
  | zero => rfl
  | succ n =>
    rw [deeperB, deeperB, Bool.eq_iff_iff, List.any_eq_true, List.any_eq_true]
    have hp := turn_perm T k
    exact ⟨fun ⟨x, hx, h⟩ => ⟨x, hp.mem_iff.1 hx, h⟩, fun ⟨x, hx, h⟩ => ⟨x, hp.mem_iff.2 hx, h⟩⟩
theorem turn_lv (T : S24) (k : Nat) : lv (turnT T k) = lv T := by
  have hp := turn_perm T k
  rw [lv_eq, lv_eq T, hp.length_eq]
  have : ((turnT T k).f2.map lv).sum = (T.f2.map lv).sum := (hp.map lv).sum_nat
  rw [this]
theorem turn_holds (f : Int → Int) (T : S24) (k : Nat) : holdsB f (turnT T k) = holdsB f T := by
  have hp := turn_perm T k
  rw [holdsB_eq, holdsB_eq f T, hp.countP_eq]
  rfl
theorem ans_turn {T : S24} (hr : rightB T = true) (hd : deeperB 16 T = false) (hl : lv T ≤ 60) (a : Int) (k : Nat) : holdsAns (turnT T k) (peopleP a) = (holdsB (thereOf (peopleP a)) T, 0) := by
  rw [ans_ok (turn_right T k hr) (by rw [turn_deeper]; exact hd) (by rw [turn_lv]; exact hl), turn_holds]
theorem leaf_holds {T : S24} (hr : rightB T = true) (h0 : 0 ≤ T.f0) (a : Int) : holdsB (thereOf (peopleP a)) T = bitAt a T.f0.toNat := by
  rw [holdsB_eq, if_pos h0, there_people a _ h0 (right_leaf hr h0).1]
end Go.Proofs.Ytipdpfnjobfbpaa.H
