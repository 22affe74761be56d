/- The laws of formulas in plain words: leaves, depth, people, what matters to a formula. -/
import Derived.Test.YtipdpfnjobfbpaaHLarge
import Derived.Test.YtipdpfnjobfbpaaHHolds
import Derived.Test.YtipdpfnjobfbpaaPF20
import Derived.Test.YtipdpfnjobfbpaaPF22
import Derived.Laws.BitsLemmas
namespace Go.Proofs.Ytipdpfnjobfbpaa.H
open Go.RowKit Go.Shelf Go.Proofs.YtipdpfnjobfbpaaW.PrintWords Go.Proofs.YtipdpfnjobfbpaaW.PrintLast Go.Proofs.YtipdpfnjobfbpaaW.PrintMore Go.Proofs.Ytipdpfnjobfbpaa.P
set_option linter.unusedVariables false
set_option linter.unusedSimpArgs false

theorem wrap64_id {x : Int} (h0 : -9223372036854775808 ≤ x) (h1 : x ≤ 9223372036854775807) : wrap64 x = x := by unfold wrap64; omega

/-! ### People -/
def bitAt (a : Int) (i : Nat) : Bool := a.toNat.testBit i
theorem u64_wraps (n : Int) (h0 : 0 ≤ n) (h1 : n < 2 ^ 64) : IntKind.u64.wrap n = n := by simp [IntKind.wrap, IntKind.bits, IntKind.signed]; omega
theorem people_bit {a : Int} (h0 : 0 ≤ a) (h1 : a < 2 ^ 64) (i : Nat) (hi : i < 64) : (Go.bits .and .u64 (shr .u64 a i) 1 = 1) ↔ bitAt a i = true := by
  obtain ⟨n, rfl⟩ := Int.eq_ofNat_of_zero_le h0
  have hn : n < 2 ^ 64 := by omega
  have e : shr .u64 (n : Int) i = ((n / 2 ^ i : Nat) : Int) := by
    unfold shr
    rw [show min ((i : Int).toNat) IntKind.u64.bits = i from by simp [IntKind.bits]; omega, Int.natCast_ediv, Int.natCast_pow]
    rfl
  have hlt : n / 2 ^ i < 2 ^ 64 := Nat.lt_of_le_of_lt (Nat.div_le_self _ _) hn
  rw [e]
  have h := (bits_nat .u64 64 (by decide) u64_wraps (n / 2 ^ i) 1 hlt (by decide)).1
  rw [show (1 : Int) = ((1 : Nat) : Int) from rfl, h, bitAt, Nat.testBit_eq_decide_div_mod_eq, Nat.and_one_is_mod]
  simp only [Int.toNat_natCast, decide_eq_true_eq]
  omega
/-- The people whose bits are set. -/
def peopleP (a : Int) : List Int := ((List.range 64).filter (bitAt a)).map fun (i : Nat) => (i : Int)
theorem people_l0 {a : Int} (h0 : 0 ≤ a) (h1 : a < 2 ^ 64) : ∀ (d i : Nat) (acc : List Int), i + d = 64 → acc.length ≤ i →
    Ev (fun k => signatorylaw22_people.l0 k a acc i) (acc ++ ((List.range' i d).filter (bitAt a)).map fun (i : Nat) => (i : Int)) := by
  intro d
  induction d with
  | zero =>
    intro i acc hi _
    refine Ev.step (f := fun _ => some acc) (fun k => ?_) ?_
    · simp only [signatorylaw22_people.l0]; rw [if_neg (by omega)]
    · simpa using Ev.now acc
  | succ d ih =>
    intro i acc hi hl
    have hb := people_bit h0 h1 i (by omega)
    have hw : wrap64 ((i : Int) + 1) = ((i + 1 : Nat) : Int) := by rw [wrap64_id (by omega) (by omega)]; rfl
    by_cases hc : bitAt a i = true
    · refine Ev.step (f := fun k => signatorylaw22_people.l0 k a (acc ++ [(i : Int)]) ((i + 1 : Nat) : Int)) (fun k => ?_) ?_
      · simp only [signatorylaw22_people.l0]; rw [if_pos (by omega), if_pos (by omega), if_pos (hb.2 hc), if_pos (by omega), hw]
      · have := ih (i + 1) (acc ++ [(i : Int)]) (by omega) (by simp; omega)
        rw [List.range'_succ, List.filter_cons, if_pos hc]
        simpa using this
    · refine Ev.step (f := fun k => signatorylaw22_people.l0 k a acc ((i + 1 : Nat) : Int)) (fun k => ?_) ?_
      · simp only [signatorylaw22_people.l0]; rw [if_pos (by omega), if_pos (by omega), if_neg (fun h => hc (hb.1 h)), hw]
      · have := ih (i + 1) acc (by omega) (by omega)
        rw [List.range'_succ, List.filter_cons, if_neg hc]
        exact this
theorem people_ev {a : Int} (h0 : 0 ≤ a) (h1 : a < 2 ^ 64) : Ev (fun k => signatorylaw22_people.f k a) (peopleP a) := by
  have := people_l0 h0 h1 64 0 [] (by omega) (by simp)
  unfold peopleP
  rw [List.range_eq_range']
  simpa [signatorylaw22_people.f] using this
theorem okFrom_sorted : ∀ (l : List Nat) (a : Int), l.Pairwise (· < ·) → (∀ x ∈ l, a < (x : Int) ∧ x < 64) → okFrom a (l.map fun (i : Nat) => (i : Int)) = true := by
  intro l
  induction l with
  | nil => intro _ _ _; rfl
  | cons x l ih =>
    intro a hp hx
    simp only [List.map_cons, okFrom, Bool.and_eq_true, decide_eq_true_eq]
    have h1 := hx x (by simp)
    rw [List.pairwise_cons] at hp
    exact ⟨⟨h1.1, by omega⟩, ih _ hp.2 (fun y hy => ⟨by have := hp.1 y hy; omega, (hx y (by simp [hy])).2⟩)⟩
theorem people_ok (a : Int) : okFrom (-1) (peopleP a) = true := by
  unfold peopleP
  refine okFrom_sorted _ _ (List.Pairwise.filter _ List.pairwise_lt_range) (fun x hx => ?_)
  have := (List.mem_filter.1 hx).1
  rw [List.mem_range] at this
  omega
theorem there_people (a : Int) (p : Int) (h0 : 0 ≤ p) (h1 : p < 64) : decide (0 < thereOf (peopleP a) p) = bitAt a p.toNat := by
  unfold thereOf peopleP
  have : (p ∈ ((List.range 64).filter (bitAt a)).map fun (i : Nat) => (i : Int)) ↔ bitAt a p.toNat = true := by
    simp only [List.mem_map, List.mem_filter, List.mem_range]
    constructor
    · rintro ⟨x, ⟨_, hx⟩, rfl⟩; simpa using hx
    · intro h; exact ⟨p.toNat, ⟨by omega, h⟩, by omega⟩
  rw [Bool.eq_iff_iff, decide_eq_true_eq, ← this]
  by_cases h : p ∈ ((List.range 64).filter (bitAt a)).map fun (i : Nat) => (i : Int)
  · rw [if_pos h]; exact ⟨fun _ => h, fun _ => by decide⟩
  · rw [if_neg h]; exact ⟨fun h' => by simp at h', fun h' => absurd h' h⟩
theorem there_none (p : Int) : thereOf [] p = 0 := by simp [thereOf]

/-! ### What matters to a right formula -/
theorem holds_congr (f g : Int → Int) (T : S24) : rightB T = true → (∀ p, 0 ≤ p → p < 64 → decide (0 < f p) = decide (0 < g p)) → holdsB f T = holdsB g T := by
  induction h : SizeOf.sizeOf T using Nat.strongRecOn generalizing T with
  | _ n ih =>
  intro hr hfg
  subst h
  rw [rightB_eq] at hr
  rw [holdsB_eq f, holdsB_eq g]
  by_cases h0 : 0 ≤ T.f0
  · rw [if_pos h0] at hr
    simp only [Bool.and_eq_true, decide_eq_true_eq] at hr
    rw [if_pos h0, if_pos h0, hfg _ h0 hr.1.1]
  · rw [if_neg h0] at hr
    simp only [Bool.and_eq_true, List.all_eq_true] at hr
    rw [if_neg h0, if_neg h0, List.countP_congr (fun x hx => by rw [ih _ (lt_of_mem_gate hx) x rfl (hr.2 x hx) hfg])]
end Go.Proofs.Ytipdpfnjobfbpaa.H
