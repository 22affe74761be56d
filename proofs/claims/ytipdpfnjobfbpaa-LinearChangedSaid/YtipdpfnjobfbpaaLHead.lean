/- The heads of rows: a slice of slices seen as a row of its heads, so that it may be appended to. -/
import Derived.Test.YtipdpfnjobfbpaaMCheck
import Derived.Lib.SmallJoins
namespace Go.Proofs.Ytipdpfnjobfbpaa.H
open Go.RowKit Go.Shelf Go.Proofs.YtipdpfnjobfbpaaW.PrintWords Go.Proofs.YtipdpfnjobfbpaaW.PrintLast Go.Proofs.YtipdpfnjobfbpaaW.PrintMore Go.Proofs.Ytipdpfnjobfbpaa.P
set_option linter.unusedVariables false
/-- A slice's head: where, how many, how many more. -/
def encH (h : Option Addr × Nat × Nat) : Value := .slice h.1 h.2.1 h.2.2
def kH : Kd (Option Addr × Nat × Nat) := Kd.scalar encH (fun _ => rfl)
def HOk (W : World) (h : Option Addr × Nat × Nat) (x : List Int) : Prop := h.2.1 = x.length ∧ x.length ≤ h.2.2 ∧ Kd.C (Kd.int .i64) W h.1 x.length x
theorem HOk.below {W W' : World} {h : Option Addr × Nat × Nat} {x : List Int} (k : HOk W h x) (hb : Below W.heap.size W W') : HOk W' h x := ⟨k.1, k.2.1, Kd.C_below k.2.2 hb⟩
theorem heads {w : World} {A : Option Addr} {zs : List (List Int)} (hC : Kd.C kRows w A zs.length zs) :
    ∃ hs : List (Option Addr × Nat × Nat), hs.length = zs.length ∧ Kd.C kH w A zs.length hs ∧ ∀ (i : Nat) h x, hs[i]? = some h → zs[i]? = some x → HOk w h x := by
  obtain ⟨_, hn, hA⟩ := hC
  rcases Nat.eq_zero_or_pos zs.length with h0 | h0
  · refine ⟨[], h0.symm, ⟨h0.symm, hn, fun h => absurd h (by omega)⟩, fun i h x hi => by simp at hi⟩
  obtain ⟨ad, rfl, hx⟩ := hA h0
  have each : ∀ j, j < zs.length → ∃ h : Option Addr × Nat × Nat, HOk w h (zs.getD j []) ∧ w.cell? (ad.add j) = some (encH h) := fun j hj => by
    obtain ⟨c, _, ⟨A2, c2, hc, hle, hC2⟩, hcell⟩ := hx j (zs.getD j []) (by rw [List.getD_eq_getElem?_getD, List.getElem?_eq_getElem hj]; rfl)
    subst hc
    refine ⟨(A2, (zs.getD j []).length, c2), ⟨rfl, hle, hC2⟩, ?_⟩
    have := hcell 0 _ rfl
    rw [show kRows.sz = 1 from rfl, Nat.mul_one, Nat.add_zero] at this
    exact this
  have ⟨F, hF⟩ : ∃ F : Nat → Option Addr × Nat × Nat, ∀ j, j < zs.length → HOk w (F j) (zs.getD j []) ∧ w.cell? (ad.add j) = some (encH (F j)) :=
    ⟨fun j => if h : j < zs.length then Classical.choose (each j h) else (none, 0, 0), fun j hj => by
      dsimp only
      rw [dif_pos hj]
      exact Classical.choose_spec (each j hj)⟩
  have hl : ((List.range zs.length).map F).length = zs.length := by simp
  have at_ : ∀ (j : Nat) h, ((List.range zs.length).map F)[j]? = some h → j < zs.length ∧ h = F j := fun j h hj => by
    have hjl : j < zs.length := by
      rcases Nat.lt_or_ge j zs.length with q | q
      · exact q
      · rw [List.getElem?_eq_none (by rw [hl]; exact q)] at hj; cases hj
    rw [List.getElem?_map, List.getElem?_range hjl] at hj
    cases hj
    exact ⟨hjl, rfl⟩
  refine ⟨(List.range zs.length).map F, hl, ⟨hl, hn, fun _ => ⟨ad, rfl, fun j p hj => ?_⟩⟩, fun i h x hi hx' => ?_⟩
  · obtain ⟨hjl, rfl⟩ := at_ j p hj
    refine ⟨[encH (F j)], rfl, rfl, fun i u hu => ?_⟩
    rcases i with _ | i
    · rw [show kH.sz = 1 from rfl, Nat.mul_one, Nat.add_zero, (hF j hjl).2]
      simpa using hu
    · simp at hu
  · obtain ⟨hil, rfl⟩ := at_ i h hi
    have e : x = zs.getD i [] := by rw [List.getD_eq_getElem?_getD, hx']; rfl
    rw [e]
    exact (hF i hil).1
theorem rows_of {W : World} {A : Option Addr} {n : Nat} {hs : List (Option Addr × Nat × Nat)} {zs : List (List Int)} (hC : Kd.C kH W A n hs) (hl : hs.length = zs.length) (h : ∀ (i : Nat) p x, hs[i]? = some p → zs[i]? = some x → HOk W p x) : Kd.C kRows W A n zs := by
  obtain ⟨h1, hn, hA⟩ := hC
  refine ⟨hl.symm.trans h1, hn, fun h0 => ?_⟩
  obtain ⟨ad, rfl, hx⟩ := hA h0
  refine ⟨ad, rfl, fun j p hj => ?_⟩
  have hjl : j < hs.length := by
    rw [hl]
    rcases Nat.lt_or_ge j zs.length with q | q
    · exact q
    · rw [List.getElem?_eq_none q] at hj; cases hj
  obtain ⟨c, _, hc, hcell⟩ := hx j _ (List.getElem?_eq_getElem hjl)
  have hc' : c = [encH hs[j]] := hc
  subst hc'
  obtain ⟨k1, k2, k3⟩ := h j _ p (List.getElem?_eq_getElem hjl) hj
  refine ⟨[encH hs[j]], rfl, ⟨hs[j].1, hs[j].2.2, ?_, k2, k3⟩, fun i u hu => ?_⟩
  · unfold encH; rw [k1]
  · have := hcell i u hu
    exact this
end Go.Proofs.Ytipdpfnjobfbpaa.H
