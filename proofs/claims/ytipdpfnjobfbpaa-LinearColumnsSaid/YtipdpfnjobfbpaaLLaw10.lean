/- signatorylaw13.LinearColumns returns true, whatever it is given: the summary. -/
import Derived.Test.YtipdpfnjobfbpaaPF10
import Derived.Test.YtipdpfnjobfbpaaMRun
namespace Go.Proofs.Ytipdpfnjobfbpaa.H
open Go.RowKit Go.Proofs.YtipdpfnjobfbpaaW.PrintWords Go.Proofs.YtipdpfnjobfbpaaW.PrintLast Go.Proofs.YtipdpfnjobfbpaaW.PrintMore Go.Proofs.Ytipdpfnjobfbpaa.P SG SG.Lin
set_option linter.unusedVariables false
set_option linter.unusedSimpArgs false
theorem signatorylaw13_LinearColumns_j0_eq (k : Nat) (x0 : List (List Int)) (x29 : Bool) : signatorylaw13_LinearColumns.j0 (k + 1) x0 x29 = (if x29 = true then (some true) else ((linear_Rank.f x0).bind fun bt440 => (if (x0.length : Int) = 0 then (if bt440.2 = 0 then (some (bt440.1 == 0)) else (some false)) else (if 0 < (x0.length : Int) then (signatorylaw13_LinearColumns.l0 k x0 bt440.1 bt440.2 ([] : List (List Int)) ((rd_L2 x0 0).length : Int) 0) else (none))))) := by rfl
theorem signatorylaw13_LinearColumns_l0_eq (k : Nat) (x0 : List (List Int)) (x3 : Int) (x4 : Int) (x5 : List (List Int)) (x47 : Int) (x48 : Int) : signatorylaw13_LinearColumns.l0 (k + 1) x0 x3 x4 x5 x47 x48 = (if x48 < x47 then (signatorylaw13_LinearColumns.l1 k x0 x3 x4 x5 x48 ([] : List Int) x47 x48 x0 (x0.length : Int) 0) else ((linear_Rank.f x5).bind fun bt443 => (if x4 = 0 then (if bt443.2 = 0 then (if x3 = bt443.1 then (if x3 ≤ (x0.length : Int) then (some (decide (x3 ≤ (x5.length : Int)))) else (some false)) else (some false)) else (some false)) else (some false)))) := by rfl
theorem signatorylaw13_LinearColumns_l1_eq (k : Nat) (x0 : List (List Int)) (x3 : Int) (x4 : Int) (x5 : List (List Int)) (x6 : Int) (x7 : List Int) (x47 : Int) (x48 : Int) (x51 : List (List Int)) (x52 : Int) (x53 : Int) : signatorylaw13_LinearColumns.l1 (k + 1) x0 x3 x4 x5 x6 x7 x47 x48 x51 x52 x53 = (if x53 < x52 then (if 0 ≤ x53 then (if x53 < (x51.length : Int) then (if 0 ≤ x6 then (if x6 < ((rd_L2 x51 x53).length : Int) then (if x7.length < 17592186044416 then (signatorylaw13_LinearColumns.l1 k x0 x3 x4 x5 x6 (x7 ++ [rd (rd_L2 x51 x53) x6]) x47 x48 x51 x52 (wrap64 (x53 + 1))) else (none)) else (none)) else (none)) else (none)) else (none)) else (if x5.length < 5864062014805 then (signatorylaw13_LinearColumns.l0 k x0 x3 x4 (x5 ++ [x7]) x47 (wrap64 (x48 + 1))) else (none))) := by rfl
section
variable {zs : List (List Int)} {m : Nat}
theorem cols_inner (hn : zs.length ≤ 16) (hm : m ≤ 16) (hw : ∀ x, x ∈ zs → x.length = m) (x3 x4 : Int) (x5 : List (List Int)) (h5 : x5.length ≤ 100) {c : Nat} (hc : c < m) : ∀ (d i k : Nat), i + d = zs.length → d < k →
    ∃ k', k = k' + d + 1 ∧ signatorylaw13_LinearColumns.l1 k zs x3 x4 x5 (c : Int) ((zs.take i).map fun x => x.getD c 0) (m : Int) (c : Int) zs (zs.length : Int) (i : Int) =
      signatorylaw13_LinearColumns.l0 k' zs x3 x4 (x5 ++ [zs.map fun x => x.getD c 0]) (m : Int) ((c + 1 : Nat) : Int) := by
  intro d
  induction d with
  | zero =>
    intro i k hi hk
    obtain ⟨k, rfl⟩ : ∃ q, k = q + 1 := ⟨k - 1, by omega⟩
    refine ⟨k, rfl, ?_⟩
    obtain rfl : i = zs.length := by omega
    rw [signatorylaw13_LinearColumns_l1_eq, if_neg (by omega), if_pos (by omega), List.take_length, wrap_nat (by omega)]
  | succ d ih =>
    intro i k hi hk
    obtain ⟨k, rfl⟩ : ∃ q, k = q + 1 := ⟨k - 1, by omega⟩
    have hil : i < zs.length := by omega
    have hx := hw _ (getD_mem (d := []) hil)
    obtain ⟨k', e, h⟩ := ih (i + 1) k (by omega) (by omega)
    refine ⟨k', by omega, ?_⟩
    rw [signatorylaw13_LinearColumns_l1_eq]
    unfold rd_L2 rd
    rw [Int.toNat_natCast, Int.toNat_natCast, if_pos (by omega), if_pos (by omega), if_pos (by omega), if_pos (by omega), if_pos (by omega), if_pos (by rw [List.length_map, List.length_take]; omega), wrap_nat (by omega), ← h, List.take_add_one, List.getElem?_eq_getElem hil, List.map_append, List.getD_eq_getElem?_getD (l := zs), List.getElem?_eq_getElem hil]
    rfl
theorem cols_outer (hG : SG.Lin.Good zs zs.length m) (hn0 : 0 < zs.length) (hn : zs.length ≤ 16) (hm : m ≤ 16) : ∀ (d c k : Nat), c + d = m → d * (zs.length + 2) + 1 ≤ k →
    signatorylaw13_LinearColumns.l0 k zs (rankP zs : Int) 0 ((colsP zs m).take c) (m : Int) (c : Int) = some true := by
  intro d
  induction d with
  | zero =>
    intro c k hc hk
    obtain ⟨k, rfl⟩ : ∃ q, k = q + 1 := ⟨k - 1, by omega⟩
    obtain rfl : c = m := by omega
    have hlen : (colsP zs c).length = c := (cols_good hG).len
    have e : (colsP zs c).take c = colsP zs c := List.take_of_length_le (by omega)
    rw [signatorylaw13_LinearColumns_l0_eq, if_neg (by omega), e, rank_f (checkP_good (cols_good hG) (by omega) (by omega)), some_bind, if_pos rfl, if_pos rfl]
    have h1 := rank_cols hG hn0
    have h2 := rank_le hG
    have h3 := rank_le (cols_good hG)
    rw [if_pos (by rw [h1]), if_pos (by omega), decide_eq_true (by omega)]
  | succ d ih =>
    intro c k hc hk
    obtain ⟨k, rfl⟩ : ∃ q, k = q + 1 := ⟨k - 1, by omega⟩
    rw [Nat.succ_mul] at hk
    have hlen : (colsP zs m).length = m := (cols_good hG).len
    obtain ⟨k', e, h⟩ := cols_inner hn hm hG.wide (rankP zs : Int) 0 ((colsP zs m).take c) (by rw [List.length_take]; omega) (show c < m by omega) zs.length 0 k (by omega) (by omega)
    rw [List.take_zero, List.map_nil, show ((0 : Nat) : Int) = 0 from rfl] at h
    rw [signatorylaw13_LinearColumns_l0_eq, if_pos (by omega), h]
    have e2 : (colsP zs m).take c ++ [zs.map fun x => x.getD c 0] = (colsP zs m).take (c + 1) := by
      rw [List.take_add_one, List.getElem?_eq_getElem (by omega)]
      unfold colsP
      simp
    rw [e2]
    exact ih (c + 1) k' (by omega) (by omega)
end
theorem columns_go (q : Nat) (hq : 600 ≤ q) {zs : List (List Int)} {m : Nat} (hG : SG.Lin.Good zs zs.length m) (hn : zs.length ≤ 16) (hm : m ≤ 16) : signatorylaw13_LinearColumns.j0 (q + 3) zs false = some true := by
  rw [signatorylaw13_LinearColumns_j0_eq, if_neg (by decide), rank_f (checkP_good hG (by omega) (by omega)), some_bind]
  by_cases h0 : zs.length = 0
  · rw [if_pos (by omega), if_pos rfl]
    have : rankP zs = 0 := by unfold rankP; rw [if_pos h0]
    rw [this]; rfl
  · rw [if_neg (by omega), if_pos (by omega)]
    have hx : (rd_L2 zs 0).length = m := by
      unfold rd_L2
      exact hG.wide _ (getD_mem (by show 0 < _; omega))
    rw [hx]
    exact cols_outer hG (by omega) hn hm m 0 (q + 2) (by omega) (by
      have : m * (zs.length + 2) ≤ 16 * 18 := Nat.mul_le_mul (by omega) (by omega)
      omega)
theorem columns_law (q : Nat) (hq : 600 ≤ q) (zs : List (List Int)) : signatorylaw13_LinearColumns.f (q + 3) zs = some true := by
  unfold signatorylaw13_LinearColumns.f
  rw [show signatorylaw13_sane.f = some true from rfl, some_bind, if_pos rfl]
  obtain ⟨b, h1, h2⟩ := right_run zs []
  rw [h1 (q + 3) (by omega), some_bind]
  have hT : signatorylaw13_LinearColumns.j0 (q + 3) zs true = some true := by
    rw [signatorylaw13_LinearColumns_j0_eq, if_pos rfl]
  cases b with
  | true =>
    obtain ⟨hn, _, he⟩ := h2 rfl
    obtain ⟨_, _, hG, _⟩ := exam_zero he
    rw [if_pos rfl]
    exact columns_go q hq hG hn (by decide)
  | false =>
    rw [if_neg (by decide)]
    by_cases h0 : zs.length = 0
    · rw [if_pos (by omega)]; exact hT
    · rw [if_neg (by omega), if_pos (by omega)]
      obtain ⟨b, h1, h2⟩ := right_run zs (rd_L2 zs 0)
      rw [h1 (q + 3) (by omega), some_bind]
      cases b with
      | false => exact hT
      | true =>
        obtain ⟨hn, hm, he⟩ := h2 rfl
        obtain ⟨_, _, hG, _⟩ := exam_zero he
        exact columns_go q hq hG hn hm
end Go.Proofs.Ytipdpfnjobfbpaa.H
