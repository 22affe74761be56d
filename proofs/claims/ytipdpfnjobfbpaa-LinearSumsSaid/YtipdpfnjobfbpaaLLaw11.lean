/- signatorylaw13.LinearSums returns true, whatever it is given: the summary. -/
import Derived.Test.YtipdpfnjobfbpaaPF11
import Derived.Test.YtipdpfnjobfbpaaMRun
namespace Go.Proofs.Ytipdpfnjobfbpaa.H
open Go.RowKit Go.Proofs.YtipdpfnjobfbpaaW.PrintWords Go.Proofs.YtipdpfnjobfbpaaW.PrintLast Go.Proofs.YtipdpfnjobfbpaaW.PrintMore Go.Proofs.Ytipdpfnjobfbpaa.P SG SG.Lin
set_option linter.unusedVariables false
set_option linter.unusedSimpArgs false
theorem signatorylaw13_LinearSums_j0_eq (k : Nat) (x0 : List (List Int)) (x1 : List Int) (x2 : List Int) (x3 : Int) (x39 : Bool) : signatorylaw13_LinearSums.j0 (k + 1) x0 x1 x2 x3 x39 = (if x39 = true then (some true) else ((linear_Combine.f x0 x1).bind fun bt456 => ((linear_Combine.f x0 x2).bind fun bt461 => (if bt456.2.2 = 0 then (signatorylaw13_LinearSums.j1 k x0 x1 x2 x3 bt456.1 bt456.2.1 bt461.1 bt461.2.1 (bt461.2.2 != 0)) else (signatorylaw13_LinearSums.j1 k x0 x1 x2 x3 bt456.1 bt456.2.1 bt461.1 bt461.2.1 true))))) := by rfl
theorem signatorylaw13_LinearSums_j1_eq (k : Nat) (x0 : List (List Int)) (x1 : List Int) (x2 : List Int) (x3 : Int) (x9 : List Int) (x10 : Bool) (x12 : List Int) (x13 : Bool) (x59 : Bool) : signatorylaw13_LinearSums.j1 (k + 1) x0 x1 x2 x3 x9 x10 x12 x13 x59 = (if x59 = true then (some false) else (if x10 = true then (signatorylaw13_LinearSums.j2 k x0 x1 x2 x3 x9 x12 (!x13)) else (signatorylaw13_LinearSums.j2 k x0 x1 x2 x3 x9 x12 true))) := by rfl
theorem signatorylaw13_LinearSums_j2_eq (k : Nat) (x0 : List (List Int)) (x1 : List Int) (x2 : List Int) (x3 : Int) (x9 : List Int) (x12 : List Int) (x65 : Bool) : signatorylaw13_LinearSums.j2 (k + 1) x0 x1 x2 x3 x9 x12 x65 = (if x65 = true then (some true) else (if 0 ≤ (x1.length : Int) then (if ((x1.length : Int) : Int).toNat ≤ 35184372088832 then (signatorylaw13_LinearSums.l0 k x0 x1 x2 x3 x9 x12 (List.replicate ((x1.length : Int) : Int).toNat 0) (x1.length : Int) 0) else (none)) else (none))) := by rfl
theorem signatorylaw13_LinearSums_l0_eq (k : Nat) (x0 : List (List Int)) (x1 : List Int) (x2 : List Int) (x3 : Int) (x9 : List Int) (x12 : List Int) (x15 : List Int) (x70 : Int) (x71 : Int) : signatorylaw13_LinearSums.l0 (k + 1) x0 x1 x2 x3 x9 x12 x15 x70 x71 = (if x71 < x70 then (if 0 ≤ x71 then (if x71 < (x1.length : Int) then (if x71 < (x2.length : Int) then ((field_Mul.f x3 (rd x2 x71)).bind fun t471 => ((field_Add.f k (rd x1 x71) t471).bind fun t472 => (if x71 < (x15.length : Int) then (signatorylaw13_LinearSums.l0 k x0 x1 x2 x3 x9 x12 (x15.set (x71 : Int).toNat t472) x70 (wrap64 (x71 + 1))) else (none)))) else (none)) else (none)) else (none)) else ((linear_Combine.f x0 x15).bind fun bt474 => (if bt474.2.2 = 0 then (if bt474.2.1 = true then (if (x9.length : Int) = (x0.length : Int) then (if (x12.length : Int) = (x0.length : Int) then (signatorylaw13_LinearSums.j4 k x3 x9 x12 bt474.1 ((bt474.1.length : Int) != (x0.length : Int))) else (signatorylaw13_LinearSums.j4 k x3 x9 x12 bt474.1 true)) else (signatorylaw13_LinearSums.j4 k x3 x9 x12 bt474.1 true)) else (signatorylaw13_LinearSums.j4 k x3 x9 x12 bt474.1 true)) else (signatorylaw13_LinearSums.j4 k x3 x9 x12 bt474.1 true)))) := by rfl
theorem signatorylaw13_LinearSums_j4_eq (k : Nat) (x3 : Int) (x9 : List Int) (x12 : List Int) (x17 : List Int) (x122 : Bool) : signatorylaw13_LinearSums.j4 (k + 1) x3 x9 x12 x17 x122 = (if x122 = true then (some false) else (signatorylaw13_LinearSums.l1 k x3 x9 x12 x17 (x17.length : Int) 0)) := by rfl
theorem signatorylaw13_LinearSums_l1_eq (k : Nat) (x3 : Int) (x9 : List Int) (x12 : List Int) (x17 : List Int) (x124 : Int) (x125 : Int) : signatorylaw13_LinearSums.l1 (k + 1) x3 x9 x12 x17 x124 x125 = (if x125 < x124 then (if 0 ≤ x125 then (if x125 < (x17.length : Int) then (if x125 < (x9.length : Int) then (if x125 < (x12.length : Int) then ((field_Mul.f x3 (rd x12 x125)).bind fun t482 => ((field_Add.f k (rd x9 x125) t482).bind fun t483 => (if (rd x17 x125) = t483 then (signatorylaw13_LinearSums.l1 k x3 x9 x12 x17 x124 (wrap64 (x125 + 1))) else (some false)))) else (none)) else (none)) else (none)) else (none)) else (some true)) := by rfl
/-- The sum of two targets, as far as it is made. -/
def sumL (a b : List Int) (c : Int) (m k : Nat) : List Int := (List.range m).map fun j => if j < k then fadd (a.getD j 0) (fmul c (b.getD j 0)) else 0
theorem sumL_len (a b : List Int) (c : Int) (m k : Nat) : (sumL a b c m k).length = m := by simp [sumL]
theorem sumL_zero (a b : List Int) (c : Int) (m : Nat) : sumL a b c m 0 = List.replicate m 0 := by
  refine List.ext_getElem (by simp [sumL]) (fun q h1 h2 => ?_)
  simp [sumL]
theorem sumL_succ (a b : List Int) (c : Int) (m k : Nat) (h : k < m) : (sumL a b c m k).set k (fadd (a.getD k 0) (fmul c (b.getD k 0))) = sumL a b c m (k + 1) := by
  refine List.ext_getElem (by simp [sumL]) (fun q h1 h2 => ?_)
  have e : ∀ j' (hh : q < (sumL a b c m j').length), (sumL a b c m j')[q] = if q < j' then fadd (a.getD q 0) (fmul c (b.getD q 0)) else 0 := fun j' hh => by simp [sumL]
  rw [List.getElem_set, e, e]
  by_cases hq : k = q
  · subst hq; rw [if_pos rfl, if_pos (by omega)]
  · rw [if_neg hq]
    by_cases h3 : q < k
    · rw [if_pos h3, if_pos (by omega)]
    · rw [if_neg h3, if_neg (by omega)]
theorem sumL_in (a b : List Int) (c : Int) (m k : Nat) : ∀ q, q ∈ sumL a b c m k → InF q := fun q hq => by
  obtain ⟨j, _, rfl⟩ := List.mem_map.1 hq
  split
  · exact fadd_in _ _
  · exact InF0
theorem sums_loop (c : Int) (x y z : List Int) (n : Nat) (hn : n ≤ 16) (hx : x.length = n) (hy : y.length = n) (hz : z.length = n) (h : ∀ i, i < n → z.getD i 0 = fadd (x.getD i 0) (fmul c (y.getD i 0))) :
    ∀ (d i k : Nat), i + d = n → d + 6 ≤ k → signatorylaw13_LinearSums.l1 k c x y z (z.length : Int) (i : Int) = some true := by
  intro d
  induction d with
  | zero =>
    intro i k hi hk
    obtain ⟨k, rfl⟩ : ∃ q, k = q + 1 := ⟨k - 1, by omega⟩
    rw [signatorylaw13_LinearSums_l1_eq, if_neg (by omega)]
  | succ d ih =>
    intro i k hi hk
    obtain ⟨k, rfl⟩ : ∃ q, k = q + 1 := ⟨k - 1, by omega⟩
    rw [signatorylaw13_LinearSums_l1_eq]
    unfold rd
    rw [Int.toNat_natCast, if_pos (by omega), if_pos (by omega), if_pos (by omega), if_pos (by omega), if_pos (by omega), Mul_f, some_bind, add_run _ _ k (by omega), some_bind, if_pos (h i (by omega)), wrap_nat (by omega)]
    exact ih (i + 1) k (by omega) (by omega)
theorem sums_build {zs : List (List Int)} {a b x y : List Int} {c : Int} (hG : SG.Lin.Good zs zs.length a.length) (hn : zs.length ≤ 16) (hm : a.length ≤ 16) (hab : a.length = b.length) (hfa : ∀ q, q ∈ a → InF q) (hfb : ∀ q, q ∈ b → InF q)
    (hx : combineP zs a = some x) (hy : combineP zs b = some y) : ∀ (d i k : Nat), i + d = a.length → d + 60 ≤ k → signatorylaw13_LinearSums.l0 k zs a b c x y (sumL a b c a.length i) (a.length : Int) (i : Int) = some true := by
  intro d
  induction d with
  | zero =>
    intro i k hi hk
    obtain ⟨k, rfl⟩ : ∃ q, k = q + 2 := ⟨k - 2, by omega⟩
    obtain rfl : i = a.length := by omega
    have hsl := sumL_len a b c a.length a.length
    have hsf := sumL_in a b c a.length a.length
    have hsum : ∀ k, k < a.length → (sumL a b c a.length a.length).getD k 0 = fadd (a.getD k 0) (fmul c (b.getD k 0)) := fun k hk => by
      unfold sumL; rw [getD_range_map hk, if_pos hk]
    generalize sumL a b c a.length a.length = s at *
    obtain ⟨z, h1, h2, h3, h4, h5⟩ := sums hG rfl hab.symm hsl hfa hfb hsf c hsum hx hy
    rw [signatorylaw13_LinearSums_l0_eq, if_neg (by omega), comb_f (exam_good hG (by omega) (by omega) hsl hsf), some_bind, h1]
    show (if (0 : Int) = 0 then (if true = true then (if (x.length : Int) = (zs.length : Int) then (if (y.length : Int) = (zs.length : Int) then signatorylaw13_LinearSums.j4 (k + 1) c x y z ((z.length : Int) != (zs.length : Int)) else _) else _) else _) else _) = _
    rw [if_pos rfl, if_pos rfl, if_pos (by omega), if_pos (by omega), show ((z.length : Int) != (zs.length : Int)) = false by rw [bne_eq_false_iff_eq]; omega, signatorylaw13_LinearSums_j4_eq, if_neg (by decide)]
    exact sums_loop c x y z zs.length hn h2 h3 h4 h5 zs.length 0 k (by omega) (by omega)
  | succ d ih =>
    intro i k hi hk
    obtain ⟨k, rfl⟩ : ∃ q, k = q + 1 := ⟨k - 1, by omega⟩
    rw [signatorylaw13_LinearSums_l0_eq]
    unfold rd
    rw [Int.toNat_natCast, if_pos (by omega), if_pos (by omega), if_pos (by omega), if_pos (by omega), Mul_f, some_bind, add_run _ _ k (by omega), some_bind, if_pos (by rw [sumL_len]; omega), wrap_nat (by omega), sumL_succ _ _ _ _ _ (by omega)]
    exact ih (i + 1) k (by omega) (by omega)
theorem sums_law (q : Nat) (hq : 600 ≤ q) (zs : List (List Int)) (a b : List Int) (c : Int) : signatorylaw13_LinearSums.f (q + 3) zs a b c = some true := by
  unfold signatorylaw13_LinearSums.f
  rw [show signatorylaw13_sane.f = some true from rfl, some_bind, if_pos rfl]
  have hT : signatorylaw13_LinearSums.j0 (q + 3) zs a b c true = some true := by
    rw [signatorylaw13_LinearSums_j0_eq, if_pos rfl]
  obtain ⟨b1, h1, h2⟩ := right_run zs a
  rw [h1 (q + 3) (by omega), some_bind]
  cases b1 with
  | false => exact hT
  | true =>
    rw [if_pos rfl]
    obtain ⟨b2, h3, h4⟩ := right_run zs b
    rw [h3 (q + 3) (by omega), some_bind]
    cases b2 with
    | false => exact hT
    | true =>
      rw [if_pos rfl]
      by_cases hab : a.length = b.length
      · rw [show ((a.length : Int) != (b.length : Int)) = false by rw [bne_eq_false_iff_eq]; omega]
        obtain ⟨hn, hm, he⟩ := h2 rfl
        obtain ⟨_, _, hG, hfa⟩ := exam_zero he
        obtain ⟨_, _, he2⟩ := h4 rfl
        obtain ⟨_, _, _, hfb⟩ := exam_zero he2
        rw [signatorylaw13_LinearSums_j0_eq, if_neg (by decide), comb_f he, comb_f he2, some_bind, some_bind]
        cases hx : combineP zs a with
        | none =>
          cases hy : combineP zs b with
          | none =>
            show (if (0 : Int) = 0 then signatorylaw13_LinearSums.j1 (q + 2) zs a b c [] false [] false ((0 : Int) != 0) else _) = _
            rw [if_pos rfl, signatorylaw13_LinearSums_j1_eq, if_neg (by decide), if_neg (by decide), signatorylaw13_LinearSums_j2_eq, if_pos rfl]
          | some y =>
            show (if (0 : Int) = 0 then signatorylaw13_LinearSums.j1 (q + 2) zs a b c [] false y true ((0 : Int) != 0) else _) = _
            rw [if_pos rfl, signatorylaw13_LinearSums_j1_eq, if_neg (by decide), if_neg (by decide), signatorylaw13_LinearSums_j2_eq, if_pos rfl]
        | some x =>
          cases hy : combineP zs b with
          | none =>
            show (if (0 : Int) = 0 then signatorylaw13_LinearSums.j1 (q + 2) zs a b c x true [] false ((0 : Int) != 0) else _) = _
            rw [if_pos rfl, signatorylaw13_LinearSums_j1_eq, if_neg (by decide), if_pos rfl, signatorylaw13_LinearSums_j2_eq, if_pos (by decide)]
          | some y =>
            show (if (0 : Int) = 0 then signatorylaw13_LinearSums.j1 (q + 2) zs a b c x true y true ((0 : Int) != 0) else _) = _
            rw [if_pos rfl, signatorylaw13_LinearSums_j1_eq, if_neg (by decide), if_pos rfl, signatorylaw13_LinearSums_j2_eq, if_neg (by decide), if_pos (by omega), if_pos (by omega), Int.toNat_natCast, ← sumL_zero a b c]
            exact sums_build hG hn hm hab hfa hfb hx hy a.length 0 q (by omega) (by omega)
      · rw [show ((a.length : Int) != (b.length : Int)) = true by rw [bne_iff_ne]; omega]
        exact hT
end Go.Proofs.Ytipdpfnjobfbpaa.H
