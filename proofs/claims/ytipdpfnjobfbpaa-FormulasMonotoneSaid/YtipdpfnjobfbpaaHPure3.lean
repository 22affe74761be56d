/- Plain laws for signatorylaw22.FormulasMonotone. -/
import Derived.Test.YtipdpfnjobfbpaaHMono
namespace Go.Proofs.Ytipdpfnjobfbpaa.H
open Go.RowKit Go.Shelf Go.Proofs.YtipdpfnjobfbpaaW.PrintWords Go.Proofs.YtipdpfnjobfbpaaW.PrintLast Go.Proofs.YtipdpfnjobfbpaaW.PrintMore Go.Proofs.Ytipdpfnjobfbpaa.P
set_option linter.unusedVariables false
theorem ans_nil {T : S24} (hr : rightB T = true) (hd : deeperB 16 T = false) (hl : lv T ≤ 60) : holdsAns T [] = (false, 0) := by
  unfold holdsAns; rw [check_ok hr hd (by omega), show okFrom (-1) [] = true from rfl, holds_none T hr]; rfl
theorem mem_people (a : Nat) (p : Int) : p ∈ peopleP (a : Int) ↔ ∃ i : Nat, i < 64 ∧ a.testBit i = true ∧ (i : Int) = p := by
  simp only [peopleP, List.mem_map, List.mem_filter, List.mem_range, bitAt, Int.toNat_natCast]
  constructor
  · rintro ⟨i, ⟨h1, h2⟩, h3⟩; exact ⟨i, h1, h2, h3⟩
  · rintro ⟨i, h1, h2, h3⟩; exact ⟨i, ⟨h1, h2⟩, h3⟩
theorem holds_or (m n : Nat) (T : S24) : holdsB (thereOf (peopleP (m : Int))) T = true → holdsB (thereOf (peopleP ((m ||| n : Nat) : Int))) T = true := by
  refine holds_mono _ _ (fun p hp => ?_) T
  unfold thereOf at hp ⊢
  by_cases h : p ∈ peopleP (m : Int)
  · have : p ∈ peopleP ((m ||| n : Nat) : Int) := by
      rw [mem_people] at h ⊢
      obtain ⟨i, h1, h2, h3⟩ := h
      exact ⟨i, h1, by rw [Nat.testBit_or, h2]; rfl, h3⟩
    rw [if_pos this]; omega
  · rw [if_neg h] at hp; omega
theorem holds_and (m : Nat) (T : S24) (hr : rightB T = true) : holdsB (thereOf (peopleP ((m &&& walkBits T 0 : Nat) : Int))) T = holdsB (thereOf (peopleP (m : Int))) T := by
  refine holds_congr' _ _ T hr (fun p hp => ?_)
  obtain ⟨h0, h1⟩ := memP_right p T hr hp
  rw [there_people _ p h0 h1, there_people _ p h0 h1]
  unfold bitAt
  rw [Int.toNat_natCast, Int.toNat_natCast, Nat.testBit_and, walkBits_test T hr, Int.toNat_of_nonneg h0, hp]
  simp
end Go.Proofs.Ytipdpfnjobfbpaa.H
