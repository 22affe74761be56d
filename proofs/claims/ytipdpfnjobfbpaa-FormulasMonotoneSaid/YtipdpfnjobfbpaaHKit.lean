/- What the texts of this claim that are written by hand share: imports, gates that are read, small facts. -/
import Derived.Test.YtipdpfnjobfbpaaP0
import Derived.RangeFuncNested
import Derived.RangeFuncBound
import Derived.RangeFuncCalls
import Derived.RangeFuncLeaves
import Derived.RangeFuncFrom
import Derived.Shelf.Abstract
import Derived.OwnWalkIn
import Derived.TacticsInMore
import Derived.LoopNIn
import Derived.LoopIn
import Derived.Recover
import Derived.BigQuiet
import Derived.Laws.EntriesVeiled
import Derived.WalkLawsBesides
import Derived.WalkSpells
import Derived.Deep.QuietTactic
namespace Go.Proofs.Ytipdpfnjobfbpaa.H
open Go.RowKit Go.Shelf Go.Proofs.YtipdpfnjobfbpaaW.PrintWords Go.Proofs.YtipdpfnjobfbpaaW.PrintLast Go.Proofs.YtipdpfnjobfbpaaW.PrintMore Go.Proofs.Ytipdpfnjobfbpaa.P
set_option linter.unusedVariables false
set_option linter.unusedSimpArgs false

/-- What is handed to a function of a gate. -/
def gv (T : S24) (A2 : Option Addr) (c2 : Nat) : Value := .agg #[.int .i64 T.f0, .int .i64 T.f1, .slice A2 T.f2.length c2]
/-- A gate that is read. -/
structure RdG (W : World) (T : S24) (A2 : Option Addr) (c2 : Nat) : Prop where
  le : T.f2.length ≤ c2
  C : k24.C W A2 T.f2.length T.f2
theorem RdG.below {w W : World} {T : S24} {A2 : Option Addr} {c2 : Nat} (h : RdG w T A2 c2) (hb : Below w.heap.size w W) : RdG W T A2 c2 := ⟨h.le, Kd.C_below h.C hb⟩
theorem at_gate {w W : World} {A : Option Addr} {zs : List S24} (h : Kd.C k24 w A zs.length zs) (hb : Below w.heap.size w W) (i : Nat) (h1 : i < zs.length) : ∃ ad A2 c2, A = some ad ∧
    W.cell? (ad.add (i * 3)) = some (.int .i64 (zs.getD i z24).f0) ∧ W.cell? ⟨(ad.add (i * 3)).block, (ad.add (i * 3)).off + 1, none⟩ = some (.int .i64 (zs.getD i z24).f1) ∧
    W.cell? ⟨(ad.add (i * 3)).block, (ad.add (i * 3)).off + 2, none⟩ = some (.slice A2 (zs.getD i z24).f2.length c2) ∧ RdG W (zs.getD i z24) A2 c2 := by
  obtain ⟨ad, A2, c2, e, h0, h1, h2, h3, h4⟩ := at_T24 h (i : Int) (by omega) (by omega)
  exact ⟨ad, A2, c2, e, pw_cell_below hb h0, pw_cell_below hb h1, pw_cell_below hb h2, h3, Kd.C_below h4 hb⟩
theorem at_gate0 {w W : World} {A : Option Addr} {zs : List S24} (h : Kd.C k24 w A zs.length zs) (hb : Below w.heap.size w W) (i : Nat) (h1 : i < zs.length) : ∃ ad A2 c2, A = some ad ∧
    W.cell? (ad.add (i * 3)) = some (.int .i64 (zs.getD i z24).f0) ∧ W.cell? ⟨(ad.add (i * 3)).block, (ad.add (i * 3)).off + 1, none⟩ = some (.int .i64 (zs.getD i z24).f1) ∧
    W.cell? ⟨(ad.add (i * 3)).block, (ad.add (i * 3)).off + 2, none⟩ = some (.slice A2 (zs.getD i z24).f2.length c2) ∧ RdG w (zs.getD i z24) A2 c2 := by
  obtain ⟨ad, A2, c2, e, h0, h1, h2, h3, h4⟩ := at_T24 h (i : Int) (by omega) (by omega)
  exact ⟨ad, A2, c2, e, pw_cell_below hb h0, pw_cell_below hb h1, pw_cell_below hb h2, h3, h4⟩
theorem at_int {w W : World} {A : Option Addr} {zs : List Int} (h : Kd.C (Kd.int .i64) w A zs.length zs) (hb : Below w.heap.size w W) (i : Nat) (h1 : i < zs.length) : ∃ ad, A = some ad ∧
    W.cell? (ad.add i) = some (.int .i64 (zs.getD i 0)) := by
  obtain ⟨ad, c, e, _, hK, hc⟩ := Kd.C_get h (0 : Int) (i : Int) (by omega) (by omega)
  refine ⟨ad, e, pw_cell_below hb ?_⟩
  have hK0 : c = [.int .i64 (zs.getD (i : Int).toNat 0)] := hK
  have hK' : c = [.int .i64 (zs.getD i 0)] := by simpa using hK0
  have := hc 0 (.int .i64 (zs.getD i 0)) (by rw [hK']; rfl)
  rw [show (Kd.int .i64).sz = 1 from rfl] at this
  simpa using this
theorem lt_of_mem_gate {T x : S24} (h : x ∈ T.f2) : SizeOf.sizeOf x < SizeOf.sizeOf T := by
  have := List.sizeOf_lt_of_mem h
  cases T; simp at *; omega
theorem getD_mem_gate {zs : List S24} {i : Nat} (h : i < zs.length) : zs.getD i z24 ∈ zs := by
  rw [List.getD_eq_getElem?_getD, List.getElem?_eq_getElem h]; exact List.getElem_mem h
/-- Whatever lay in w lies on behind a call that began in W. -/
theorem below_call {w W W' : World} (h : Below w.heap.size w W) (k : Below W.heap.size W W') : Below w.heap.size w W' := below_then h h.size k
theorem hmf_ : ∀ (fn : Fn) (first cap : Array Value) (w : World), (Instr.makeFunc fn first cap).run Try.prog w = .ok (.func fn first cap) w := fun _ _ _ _ => rfl
theorem hnot_ : ∀ (x : Bool) (w : World), (Op.unary .not (.bool x)).run Try.prog w = .ok (.bool (!x)) w := fun _ _ => rfl
/-- A block of cells abides the turn of whatever is no cells. -/
theorem blk_kept {W W' : World} {g : Nat} {t : TypeId} {cs : Array Value} {row : Option Nat} {B : Nat} (h : W.heap[g]? = some (.cells cs t (0, 0))) (hg : W.grownBy W' row)
    (hr : ∀ r, row = some r → B ≤ r ∧ ∃ o : Obj, W.heap[r]? = some o ∧ o.isCells = false) : W'.heap[g]? = some (.cells cs t (0, 0)) := by
  refine blk_grown h hg (fun e => ?_)
  obtain ⟨_, o, ho, hc⟩ := hr g e.symm
  rw [h] at ho; cases ho; cases hc
theorem blk_put {W : World} {g D : Nat} {o o' ob : Obj} (h : W.heap[g]? = some ob) (hD : W.heap[D]? = some o) (hne : g ≠ D) : (W.putObj D o').heap[g]? = some ob := (World.putObj_heap_other hne).trans h
theorem wd {p : Prop} (h : Fence.wide.depth.isSome = true) : p := by cases h
end Go.Proofs.Ytipdpfnjobfbpaa.H
