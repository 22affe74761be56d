/- signatorylaw13.LinearEither returns true, whatever it is given: the summary. -/
import Derived.Test.YtipdpfnjobfbpaaPF8
import Derived.Test.YtipdpfnjobfbpaaMRun
namespace Go.Proofs.Ytipdpfnjobfbpaa.H
open Go.RowKit Go.Proofs.YtipdpfnjobfbpaaW.PrintWords Go.Proofs.YtipdpfnjobfbpaaW.PrintLast Go.Proofs.YtipdpfnjobfbpaaW.PrintMore Go.Proofs.Ytipdpfnjobfbpaa.P SG SG.Lin
set_option linter.unusedVariables false
set_option linter.unusedSimpArgs false
theorem obind {α β : Type} (a : α) (f : α → Option β) : (some a).bind f = f a := rfl
theorem signatorylaw13_LinearEither_j0_eq (k : Nat) (x0 : List (List Int)) (x1 : List Int) (x2 : List Int) (x3 : List Int) (x34 : Bool) : signatorylaw13_LinearEither.j0 (k + 1) x0 x1 x2 x3 x34 = (if x34 = true then (some true) else ((linear_Combine.f x0 x1).bind fun bt391 => ((linear_Separate.f x0 x1).bind fun bt396 => (if bt391.2.2 = 0 then (if bt396.2.2 = 0 then (signatorylaw13_LinearEither.j1 k x0 x1 x2 x3 bt391.1 bt391.2.1 bt396.1 bt396.2.1 (bt391.2.1 == bt396.2.1)) else (signatorylaw13_LinearEither.j1 k x0 x1 x2 x3 bt391.1 bt391.2.1 bt396.1 bt396.2.1 true)) else (signatorylaw13_LinearEither.j1 k x0 x1 x2 x3 bt391.1 bt391.2.1 bt396.1 bt396.2.1 true))))) := by rfl
theorem signatorylaw13_LinearEither_j1_eq (k : Nat) (x0 : List (List Int)) (x1 : List Int) (x2 : List Int) (x3 : List Int) (x9 : List Int) (x10 : Bool) (x12 : List Int) (x13 : Bool) (x59 : Bool) : signatorylaw13_LinearEither.j1 (k + 1) x0 x1 x2 x3 x9 x10 x12 x13 x59 = (if x59 = true then (some false) else (if x10 = true then ((signatorylaw13_made.f k x0 x9 (x1.length : Int)).bind fun bt401 => (if bt401.2 = true then ((signatoryref13_SameInts.f k bt401.1 x1).bind fun t405 => (if t405 = true then (signatorylaw13_LinearEither.j2 k x0 x1 x2 x3 x10 x13 (decide ((x12.length : Int) > 0))) else (signatorylaw13_LinearEither.j2 k x0 x1 x2 x3 x10 x13 true))) else (signatorylaw13_LinearEither.j2 k x0 x1 x2 x3 x10 x13 true))) else ((signatorylaw13_proves.f k x0 x1 x12).bind fun t414 => (if t414 = true then (signatorylaw13_LinearEither.j3 k x0 x1 x2 x3 x10 x13 (decide ((x9.length : Int) > 0))) else (signatorylaw13_LinearEither.j3 k x0 x1 x2 x3 x10 x13 true))))) := by rfl
theorem signatorylaw13_LinearEither_j2_eq (k : Nat) (x0 : List (List Int)) (x1 : List Int) (x2 : List Int) (x3 : List Int) (x10 : Bool) (x13 : Bool) (x81 : Bool) : signatorylaw13_LinearEither.j2 (k + 1) x0 x1 x2 x3 x10 x13 x81 = (if x81 = true then (some false) else ((signatorylaw13_made.f k x0 x2 (x1.length : Int)).bind fun bt406 => (if bt406.2 = true then ((signatoryref13_SameInts.f k bt406.1 x1).bind fun t410 => (if t410 = true then (if x10 = true then ((signatorylaw13_proves.f k x0 x1 x3).bind fun t411 => (if t411 = true then (some x13) else (some true))) else (some false)) else ((signatorylaw13_proves.f k x0 x1 x3).bind fun t412 => (if t412 = true then (some x13) else (some true))))) else ((signatorylaw13_proves.f k x0 x1 x3).bind fun t413 => (if t413 = true then (some x13) else (some true)))))) := by rfl
theorem signatorylaw13_LinearEither_j3_eq (k : Nat) (x0 : List (List Int)) (x1 : List Int) (x2 : List Int) (x3 : List Int) (x10 : Bool) (x13 : Bool) (x91 : Bool) : signatorylaw13_LinearEither.j3 (k + 1) x0 x1 x2 x3 x10 x13 x91 = (if x91 = true then (some false) else ((signatorylaw13_made.f k x0 x2 (x1.length : Int)).bind fun bt415 => (if bt415.2 = true then ((signatoryref13_SameInts.f k bt415.1 x1).bind fun t419 => (if t419 = true then (if x10 = true then ((signatorylaw13_proves.f k x0 x1 x3).bind fun t420 => (if t420 = true then (some x13) else (some true))) else (some false)) else ((signatorylaw13_proves.f k x0 x1 x3).bind fun t421 => (if t421 = true then (some x13) else (some true))))) else ((signatorylaw13_proves.f k x0 x1 x3).bind fun t422 => (if t422 = true then (some x13) else (some true)))))) := by rfl
theorem len_pos_false {x : List Int} (h : x.length = 0) : decide ((x.length : Int) > 0) = false := by rw [decide_eq_false_iff_not]; omega
theorem either_j2 {zs : List (List Int)} {t : List Int} (hz : zs.length ≤ 16) (ht16 : t.length ≤ 16) (hG : SG.Lin.Good zs zs.length t.length) (hf : ∀ a, a ∈ t → InF a) (y w : List Int) (k : Nat) (hk : 600 ≤ k) :
    signatorylaw13_LinearEither.j2 (k + 1) zs t y w (combineP zs t).isSome (separateP zs t).isSome false = some true ∧
    signatorylaw13_LinearEither.j3 (k + 1) zs t y w (combineP zs t).isSome (separateP zs t).isSome false = some true := by
  have hm := made_run (rows := zs) (m := t.length) (by omega) hG.wide (by omega) y k (by
    have : zs.length * (t.length + 2) ≤ 16 * 18 := Nat.mul_le_mul (by omega) (by omega)
    omega)
  have hp := proves_run (rows := zs) (t := t) (w := w) (m := t.length) (by omega) (by omega) hG.wide rfl k (by omega)
  have hy : y.length = zs.length → madeP zs y t.length = t → (combineP zs t).isSome = true := fun _ h => either_y hG rfl hf h
  have hw : (decide (w.length = t.length) && provesP zs t w) = true → (separateP zs t).isSome = true := fun h => by
    rw [Bool.and_eq_true] at h; exact either_w hG rfl hf h.2
  generalize (combineP zs t).isSome = ok at *
  generalize (separateP zs t).isSome = is at *
  have key : ((signatorylaw13_proves.f k zs t w).bind fun t592 => (if t592 = true then (some is) else (some true))) = some true := by
    rw [hp]
    show (if (decide (w.length = t.length) && provesP zs t w) = true then _ else _) = _
    by_cases h : (decide (w.length = t.length) && provesP zs t w) = true
    · rw [if_pos h, hw h]
    · rw [if_neg h]
  constructor
  · rw [signatorylaw13_LinearEither_j2_eq]
    rw [if_neg (by decide), hm]
    show (if (if y.length = zs.length then (madeP zs y t.length, true) else ([], false)).2 = true then _ else _) = _
    by_cases h1 : y.length = zs.length
    · rw [if_pos h1, if_pos rfl]
      have hs := same_run (madeP zs y t.length) t (by unfold madeP; rw [List.length_map, List.length_range]; omega) k (by unfold madeP; rw [List.length_map, List.length_range]; omega)
      rw [show ((madeP zs y t.length, true) : List Int × Bool).1 = madeP zs y t.length from rfl, hs]
      show (if decide (madeP zs y t.length = t) = true then _ else _) = _
      by_cases h2 : madeP zs y t.length = t
      · rw [if_pos (by rw [decide_eq_true h2]), hy h1 h2, if_pos rfl]
        exact key
      · rw [if_neg (by rw [decide_eq_false h2]; decide)]
        exact key
    · rw [if_neg h1, if_neg (by decide)]
      exact key
  · rw [signatorylaw13_LinearEither_j3_eq]
    rw [if_neg (by decide), hm]
    show (if (if y.length = zs.length then (madeP zs y t.length, true) else ([], false)).2 = true then _ else _) = _
    by_cases h1 : y.length = zs.length
    · rw [if_pos h1, if_pos rfl]
      have hs := same_run (madeP zs y t.length) t (by unfold madeP; rw [List.length_map, List.length_range]; omega) k (by unfold madeP; rw [List.length_map, List.length_range]; omega)
      rw [show ((madeP zs y t.length, true) : List Int × Bool).1 = madeP zs y t.length from rfl, hs]
      show (if decide (madeP zs y t.length = t) = true then _ else _) = _
      by_cases h2 : madeP zs y t.length = t
      · rw [if_pos (by rw [decide_eq_true h2]), hy h1 h2, if_pos rfl]
        exact key
      · rw [if_neg (by rw [decide_eq_false h2]; decide)]
        exact key
    · rw [if_neg h1, if_neg (by decide)]
      exact key
theorem either_law (q : Nat) (hq : 600 ≤ q) (zs : List (List Int)) (t y w : List Int) : signatorylaw13_LinearEither.f (q + 3) zs t y w = some true := by
  unfold signatorylaw13_LinearEither.f
  rw [show signatorylaw13_sane.f = some true from rfl, obind, if_pos rfl]
  obtain ⟨b, h1, h2⟩ := right_run zs t
  rw [h1 (q + 3) (by omega), obind]
  have hT : signatorylaw13_LinearEither.j0 (q + 3) zs t y w true = some true := by
    rw [signatorylaw13_LinearEither_j0_eq, if_pos rfl]
  cases b with
  | false => rw [if_neg (by decide)]; exact hT
  | true =>
    rw [if_pos rfl]
    obtain ⟨hz, ht, he⟩ := h2 rfl
    obtain ⟨_, _, hG, hf⟩ := exam_zero he
    by_cases hy : (y.length : Int) > 20
    · rw [if_pos hy]; exact hT
    rw [if_neg hy]
    by_cases hw : (w.length : Int) > 20
    · rw [decide_eq_true hw]; exact hT
    rw [decide_eq_false hw]
    clear hT h1 h2
    have hsc := sep_comb hG rfl hf
    have j2 := either_j2 hz ht hG hf y w q (by omega)
    have ec : linear_Combine.f zs t = some (match combineP zs t with | some y => (y, true, 0) | none => ([], false, 0)) := by
      unfold linear_Combine.f combAns; rw [if_neg (fun h => h he)]; rfl
    have es : linear_Separate.f zs t = some (match separateP zs t with | some y => (y, true, 0) | none => ([], false, 0)) := by
      unfold linear_Separate.f sepAns; rw [if_neg (fun h => h he)]; rfl
    rw [signatorylaw13_LinearEither_j0_eq, if_neg (by decide), ec, es, obind, obind]
    cases hc : combineP zs t with
    | some x =>
      cases hs : separateP zs t with
      | some v => rw [hc, hs] at hsc; cases hsc
      | none =>
        obtain ⟨e1, e2⟩ := either_made hG rfl hf hc
        rw [hc, hs] at j2
        rw [if_pos rfl, if_pos rfl]
        show signatorylaw13_LinearEither.j1 (q + 2) zs t y w x true [] false false = some true
        rw [signatorylaw13_LinearEither_j1_eq, if_neg (by decide), if_pos rfl, made_run (rows := zs) (m := t.length) (by omega) hG.wide (by omega) x (q + 1) (by
          have : zs.length * (t.length + 2) ≤ 16 * 18 := Nat.mul_le_mul (by omega) (by omega)
          omega), if_pos e1, e2, obind, if_pos rfl, same_run t t (by omega) (q + 1) (by omega), decide_eq_true rfl, obind]
        exact j2.1
    | none =>
      cases hs : separateP zs t with
      | none => rw [hc, hs] at hsc; cases hsc
      | some v =>
        obtain ⟨e1, e2⟩ := either_proves hG rfl hs
        rw [hc, hs] at j2
        rw [if_pos rfl, if_pos rfl]
        show signatorylaw13_LinearEither.j1 (q + 2) zs t y w [] false v true false = some true
        rw [signatorylaw13_LinearEither_j1_eq, if_neg (by decide), if_neg (by decide), proves_run (rows := zs) (t := t) (w := v) (m := t.length) (by omega) (by omega) hG.wide rfl (q + 1) (by omega), decide_eq_true e1, e2, obind]
        exact j2.2
end Go.Proofs.Ytipdpfnjobfbpaa.H
