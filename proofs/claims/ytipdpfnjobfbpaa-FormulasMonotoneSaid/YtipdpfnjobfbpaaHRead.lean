/- A gate that came in with the call is read. -/
import Derived.Test.YtipdpfnjobfbpaaHKit
import Derived.Lib.SmallJoins
namespace Go.Proofs.Ytipdpfnjobfbpaa.H
open Go.RowKit Go.Shelf Go.Proofs.YtipdpfnjobfbpaaW.PrintWords Go.Proofs.YtipdpfnjobfbpaaW.PrintLast Go.Proofs.YtipdpfnjobfbpaaW.PrintMore Go.Proofs.Ytipdpfnjobfbpaa.P
open Go.ChangeShapes Go.WideShapes Go.Deep
set_option linter.unusedVariables false

theorem cells24 : Try.prog.cellsOf 24 = 3 := by kernel_rfl
theorem cells3 : Try.prog.cellsOf 3 = 1 := by kernel_rfl
theorem cells22 : Try.prog.cellsOf 22 = 1 := by kernel_rfl
theorem list3 {α : Type} {l : List α} (h : l.length = 3) : ∃ a b c, l = [a, b, c] := by
  match l, h with
  | [a, b, c], _ => exact ⟨a, b, c, rfl⟩
instance : Inhabited S24 := ⟨z24⟩
theorem open_gate_n {H : Type} {enc : TypeId × Value → H} {W : World} {base : Nat} {spare : Nat → Bool} {held : Bool} : ∀ (fuel : Nat) (cs : List Value) (x : DataW H × List MemPlace),
    DataW.trod enc Try.prog W base spare held fuel 24 cs = some x → ∃ T A c, cs = [.int .i64 T.f0, .int .i64 T.f1, .slice A T.f2.length c] ∧ RdG W T A c := by
  intro fuel
  induction fuel using Nat.strongRecOn with
  | _ fuel ih =>
  intro cs x h
  obtain ⟨xs, n, rfl, rfl, hl, hlen, hf⟩ := DataW.trod_struct Try.underlying24 h
  rw [cells24] at hl
  obtain ⟨c0, c1, c2, rfl⟩ := list3 hl
  obtain ⟨y0, y1, y2, rfl⟩ := list3 (show xs.length = 3 from hlen)
  have f0 : DataW.trod enc Try.prog W base spare held n 3 (([c0, c1, c2].drop 0).take (Try.prog.cellsOf 3)) = some y0 := hf 0 _ rfl
  have f1 : DataW.trod enc Try.prog W base spare held n 3 (([c0, c1, c2].drop 1).take (Try.prog.cellsOf 3)) = some y1 := hf 1 _ rfl
  have f2 : DataW.trod enc Try.prog W base spare held n 22 (([c0, c1, c2].drop 2).take (Try.prog.cellsOf 22)) = some y2 := hf 2 _ rfl
  rw [cells3] at f0 f1
  rw [cells22] at f2
  have f0' : DataW.trod enc Try.prog W base spare held n 3 [c0] = some y0 := f0
  have f1' : DataW.trod enc Try.prog W base spare held n 3 [c1] = some y1 := f1
  have f2' : DataW.trod enc Try.prog W base spare held n 22 [c2] = some y2 := f2
  obtain ⟨a0, e0, _, _⟩ := DataW.trod_int Try.underlying3 f0'
  obtain ⟨a1, e1, _, _⟩ := DataW.trod_int Try.underlying3 f1'
  injection e0 with e0 _
  injection e1 with e1 _
  subst e0; subst e1
  rcases DataW.trod_slice Try.underlying22 f2' with ⟨hc, _⟩ | ⟨a, len, cap, elems, rest, m, rfl, hc, _, hb, hle, hm, hel, hx, _, _⟩
  · injection hc with hc _
    subst hc
    exact ⟨⟨a0, a1, []⟩, none, 0, rfl, Nat.le_refl _, rfl, by simp, fun h => by simp at h⟩
  · injection hc with hc _
    subst hc
    obtain ⟨F, hF⟩ := choose_lt (α := S24) (n := len) (p := fun i T => ∃ A c, ∀ k u, [Value.int .i64 T.f0, .int .i64 T.f1, .slice A T.f2.length c][k]? = some u → W.cell? (a.add (i * 3 + k)) = some u ∧ RdG W T A c) (fun i hi => by
      have h1 := hx i hi
      rw [List.getElem?_eq_getElem (by omega), cells24] at h1
      obtain ⟨cs', h2, h3⟩ := Option.bind_eq_some_iff.1 h1
      obtain ⟨T, A, c, rfl, hT⟩ := ih m (by omega) cs' _ h3
      refine ⟨T, A, c, fun k u hu => ⟨?_, hT⟩⟩
      obtain ⟨_, _, hcell⟩ := World.cells?_some h2
      have hk : k < 3 := by
        have := (List.getElem?_eq_some_iff.1 hu).1
        simpa using this
      have := hcell k hk
      rw [hu] at this
      rw [← this]
      rw [Addr.add_add])
    have hml : len ≤ 9223372036854775807 := by
      have : maxLen = 9223372036854775807 := by decide
      omega
    refine ⟨⟨a0, a1, (List.range len).map F⟩, some a, cap, by simp, by simpa using hle, by simp, by simpa using hml, fun _ => ⟨a, rfl, fun j p hp => ?_⟩⟩
    have hj : j < len := by
      have := (List.getElem?_eq_some_iff.1 hp).1
      simpa using this
    obtain rfl : F j = p := by
      simpa [List.getElem?_map, List.getElem?_range hj] using hp
    obtain ⟨A, c, hc⟩ := hF j hj
    have hT := (hc 0 _ rfl).2
    exact ⟨_, rfl, k24_mk W (F j) hT.le hT.C, fun i u hu => (hc i u hu).1⟩
set_option maxRecDepth 100000 in
theorem open_gate {H : Type} {enc : TypeId × Value → H} {r : Reach} {b0 : Nat} {W : World} {base : Nat} {spare : Nat → Bool} {held : Bool} {v : Value} {d : DataW H} {p : List MemPlace}
    (hv : Value.okWide Try.prog W r b0 24 v) (h : DataW.Trod enc Try.prog W base spare held 24 v d p) : ∃ T A c, v = gv T A c ∧ RdG W T A c := by
  obtain ⟨cs, rfl, hsz⟩ := okWide_struct Try.underlying24 hv
  obtain ⟨fuel, hf⟩ := h
  have hc : (Value.agg cs).cells = cs := by simp [Value.cells]
  rw [hc] at hf
  obtain ⟨T, A, c, he, hR⟩ := open_gate_n fuel _ _ hf
  refine ⟨T, A, c, ?_, hR⟩
  unfold gv
  cases cs
  simp at he
  rw [he]
theorem wf_u64 {a : Int} (h : (Lit.int .u64 a).wf = true) : 0 ≤ a ∧ a < 2 ^ 64 := by
  simp only [Lit.wf, Bool.and_eq_true, decide_eq_true_eq] at h
  have h1 : IntKind.u64.min = 0 := rfl
  have h2 : IntKind.u64.max = 18446744073709551615 := rfl
  omega
end Go.Proofs.Ytipdpfnjobfbpaa.H
