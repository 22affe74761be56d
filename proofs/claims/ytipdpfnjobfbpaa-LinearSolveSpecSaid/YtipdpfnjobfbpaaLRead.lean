/- Numbers, and rows of numbers, that came in with the call are read. -/
import Derived.Test.YtipdpfnjobfbpaaMBase
import Derived.Deep.Matrix
namespace Go.Proofs.Ytipdpfnjobfbpaa.H
open Go.RowKit Go.Shelf Go.Proofs.YtipdpfnjobfbpaaW.PrintWords Go.Proofs.YtipdpfnjobfbpaaW.PrintLast Go.Proofs.YtipdpfnjobfbpaaW.PrintMore Go.Proofs.Ytipdpfnjobfbpaa.P
open Go.ChangeShapes Go.WideShapes Go.Deep
set_option linter.unusedVariables false
theorem cells_3 : Try.prog.cellsOf 3 = 1 := by kernel_rfl
theorem cells_31 : Try.prog.cellsOf 31 = 1 := by kernel_rfl
theorem maxLen_le {n : Nat} (h : n ≤ maxLen) : n ≤ 9223372036854775807 := by unfold maxLen at h; omega
/-- The cells of a row of numbers. -/
theorem C_ints {W : World} {a : Addr} {xs : List Int} {n : Nat} (hn : n ≤ 9223372036854775807) (hx : xs.length = n) (h : ∀ i, i < n → W.cell? (a.add i) = some (.int .i64 (xs.getD i 0))) : Kd.C (Kd.int .i64) W (some a) n xs := by
  refine ⟨hx, hn, fun _ => ⟨a, rfl, fun j p hj => ?_⟩⟩
  have hjl : j < xs.length := by
    rcases Nat.lt_or_ge j xs.length with h | h
    · exact h
    · rw [List.getElem?_eq_none h] at hj; cases hj
  refine ⟨[.int .i64 p], rfl, rfl, fun i u hu => ?_⟩
  rcases i with _ | i
  · have h1 := h j (by omega)
    rw [List.getD_eq_getElem?_getD, hj] at h1
    rw [show (Kd.int .i64).sz = 1 from rfl, Nat.mul_one, Nat.add_zero, h1]
    simpa using hu
  · simp at hu
theorem C_none {α : Type} (d : Kd α) (W : World) (A : Option Addr) : Kd.C d W A 0 ([] : List α) := ⟨rfl, by decide, fun h => absurd h (by decide)⟩
theorem getD_take {xs : List Int} {i n : Nat} (h : i < n) : (xs.take n).getD i 0 = xs.getD i 0 := by
  rw [List.getD_eq_getElem?_getD, List.getElem?_take, if_pos h, List.getD_eq_getElem?_getD]
set_option maxRecDepth 100000 in
theorem open_ints31 {H : Type} {enc : TypeId × Value → H} {r : Reach} {b0 : Nat} {W : World} {base : Nat} {held : Bool} {v : Value} {d : DataW H} {p : List MemPlace}
    (hv : Value.okWide Try.prog W r b0 31 v) (h : DataW.Trod enc Try.prog W base (fun _ => true) held 31 v d p) : ∃ (zs : List Int) (A : Option Addr) (c : Nat), v = .slice A zs.length c ∧ zs.length ≤ c ∧ Kd.C (Kd.int .i64) W A zs.length zs := by
  obtain ⟨A, n, c, rfl⟩ := okWide_slice Try.underlying31 hv
  obtain ⟨fuel, hf⟩ := h
  rcases open_ints Try.underlying31 Try.underlying3 cells_3 hf with ⟨hcs, _⟩ | ⟨a, l, c, zs, hcs, _, hl, hm, hz, _, hcell, _⟩
  · simp [Value.cells] at hcs
    obtain ⟨rfl, rfl, rfl⟩ := hcs
    exact ⟨[], none, 0, rfl, Nat.le_refl _, C_none _ _ _⟩
  · simp [Value.cells] at hcs
    obtain ⟨rfl, rfl, rfl⟩ := hcs
    rw [if_pos rfl] at hz
    have e : (zs.take n).length = n := by rw [List.length_take]; omega
    refine ⟨zs.take n, some a, c, by rw [e], by omega, ?_⟩
    rw [e]
    refine C_ints (maxLen_le (by omega)) e (fun i hi => ?_)
    rw [getD_take hi]
    exact hcell i (by omega)
set_option maxRecDepth 100000 in
theorem open_rows40 {H : Type} {enc : TypeId × Value → H} {r : Reach} {b0 : Nat} {W : World} {base : Nat} {held : Bool} {v : Value} {d : DataW H} {p : List MemPlace}
    (hv : Value.okWide Try.prog W r b0 40 v) (h : DataW.Trod enc Try.prog W base (fun _ => true) held 40 v d p) : ∃ (zs : List (List Int)) (A : Option Addr) (c : Nat), v = .slice A zs.length c ∧ zs.length ≤ c ∧ Kd.C (Kd.slice 3 (Kd.int .i64)) W A zs.length zs := by
  obtain ⟨A, n, c, rfl⟩ := okWide_slice Try.underlying40 hv
  obtain ⟨fuel, hf⟩ := h
  rcases open_int_rows Try.underlying40 Try.underlying31 Try.underlying3 cells_31 cells_3 hf with ⟨hcs, _⟩ | ⟨a, l, c, A2, L, C, Z, hcs, _, hl, hm, _, hx⟩
  · simp [Value.cells] at hcs
    obtain ⟨rfl, rfl, rfl⟩ := hcs
    exact ⟨[], none, 0, rfl, Nat.le_refl _, C_none _ _ _⟩
  · simp [Value.cells] at hcs
    obtain ⟨rfl, rfl, rfl⟩ := hcs
    have e : ((List.range n).map fun r => (Z r).take (L r)).length = n := by simp
    refine ⟨(List.range n).map fun r => (Z r).take (L r), some a, c, by rw [e], by omega, ?_⟩
    rw [e]
    refine ⟨e, maxLen_le (by omega), fun _ => ⟨a, rfl, fun j q hj => ?_⟩⟩
    have hjn : j < n := by
      rcases Nat.lt_or_ge j n with h | h
      · exact h
      · rw [List.getElem?_eq_none (by rw [e]; exact h)] at hj; cases hj
    rw [List.getElem?_map, List.getElem?_range hjn] at hj
    injection hj with hj
    subst hj
    obtain ⟨h1, h2, h3, h4, _, h6, h7⟩ := hx j (by omega)
    have e2 : ((Z j).take (L j)).length = L j := by rw [List.length_take]; omega
    refine ⟨[.slice (A2 j) (L j) (C j)], rfl, ⟨A2 j, C j, by rw [e2], by rw [e2]; exact h2, ?_⟩, fun i u hu => ?_⟩
    · rw [e2]
      show Kd.C (Kd.int .i64) W (A2 j) (L j) ((Z j).take (L j))
      cases hA : A2 j with
      | none =>
        have h0 : L j = 0 := by have := h6 hA; omega
        have e3 : (Z j).take (L j) = [] := by rw [h0, List.take_zero]
        rw [e3, h0]
        exact C_none _ _ _
      | some a' =>
        refine C_ints (maxLen_le (by omega)) e2 (fun i hi => ?_)
        rw [getD_take hi]
        exact (h7 a' hA).2 i (by omega)
    · rcases i with _ | i
      · rw [show (Kd.slice 3 (Kd.int .i64)).sz = 1 from rfl, Nat.mul_one, Nat.add_zero, h1]
        simpa using hu
      · simp at hu
end Go.Proofs.Ytipdpfnjobfbpaa.H
