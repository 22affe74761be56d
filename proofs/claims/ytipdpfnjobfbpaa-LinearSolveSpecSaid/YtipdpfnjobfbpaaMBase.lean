/- HKit, LCount, LRound, LField, LAfter, LClear, LInv, LTab, merged. -/
import Derived.Test.YtipdpfnjobfbpaaP0
import Derived.RangeFuncNested
import Derived.RangeFuncBound
import Derived.RangeFuncCalls
import Derived.RangeFuncLeaves
import Derived.RangeFuncFrom
import Derived.Shelf.Abstract
import Derived.OwnWalkIn
import Derived.TacticsInMore
import Derived.LoopNIn
import Derived.LoopIn
import Derived.Recover
import Derived.BigQuiet
import Derived.Laws.EntriesVeiled
import Derived.WalkLawsBesides
import Derived.WalkSpells
import Derived.Deep.QuietTactic
import Derived.RangeFuncKeeps
import Derived.Test.YtipdpfnjobfbpaaWLast
import Derived.OrdersIn
import Derived.OrdersHeld
import Derived.Test.YtipdpfnjobfbpaaMFld
import Derived.Test.YtipdpfnjobfbpaaMLin
/- What the texts of this claim that are written by hand share: imports, gates that are read, small facts. -/
namespace Go.Proofs.Ytipdpfnjobfbpaa.H
open Go.RowKit Go.Shelf Go.Proofs.YtipdpfnjobfbpaaW.PrintWords Go.Proofs.YtipdpfnjobfbpaaW.PrintLast Go.Proofs.YtipdpfnjobfbpaaW.PrintMore Go.Proofs.Ytipdpfnjobfbpaa.P
set_option linter.unusedVariables false
set_option linter.unusedSimpArgs false

/-- What is handed to a function of a gate. -/
def gv (T : S24) (A2 : Option Addr) (c2 : Nat) : Value := .agg #[.int .i64 T.f0, .int .i64 T.f1, .slice A2 T.f2.length c2]
/-- A gate that is read. -/
structure RdG (W : World) (T : S24) (A2 : Option Addr) (c2 : Nat) : Prop where
  le : T.f2.length ≤ c2
  C : k24.C W A2 T.f2.length T.f2
theorem RdG.below {w W : World} {T : S24} {A2 : Option Addr} {c2 : Nat} (h : RdG w T A2 c2) (hb : Below w.heap.size w W) : RdG W T A2 c2 := ⟨h.le, Kd.C_below h.C hb⟩
theorem at_gate {w W : World} {A : Option Addr} {zs : List S24} (h : Kd.C k24 w A zs.length zs) (hb : Below w.heap.size w W) (i : Nat) (h1 : i < zs.length) : ∃ ad A2 c2, A = some ad ∧
    W.cell? (ad.add (i * 3)) = some (.int .i64 (zs.getD i z24).f0) ∧ W.cell? ⟨(ad.add (i * 3)).block, (ad.add (i * 3)).off + 1, none⟩ = some (.int .i64 (zs.getD i z24).f1) ∧
    W.cell? ⟨(ad.add (i * 3)).block, (ad.add (i * 3)).off + 2, none⟩ = some (.slice A2 (zs.getD i z24).f2.length c2) ∧ RdG W (zs.getD i z24) A2 c2 := by
  obtain ⟨ad, A2, c2, e, h0, h1, h2, h3, h4⟩ := at_T24 h (i : Int) (by omega) (by omega)
  exact ⟨ad, A2, c2, e, pw_cell_below hb h0, pw_cell_below hb h1, pw_cell_below hb h2, h3, Kd.C_below h4 hb⟩
theorem at_gate0 {w W : World} {A : Option Addr} {zs : List S24} (h : Kd.C k24 w A zs.length zs) (hb : Below w.heap.size w W) (i : Nat) (h1 : i < zs.length) : ∃ ad A2 c2, A = some ad ∧
    W.cell? (ad.add (i * 3)) = some (.int .i64 (zs.getD i z24).f0) ∧ W.cell? ⟨(ad.add (i * 3)).block, (ad.add (i * 3)).off + 1, none⟩ = some (.int .i64 (zs.getD i z24).f1) ∧
    W.cell? ⟨(ad.add (i * 3)).block, (ad.add (i * 3)).off + 2, none⟩ = some (.slice A2 (zs.getD i z24).f2.length c2) ∧ RdG w (zs.getD i z24) A2 c2 := by
  obtain ⟨ad, A2, c2, e, h0, h1, h2, h3, h4⟩ := at_T24 h (i : Int) (by omega) (by omega)
  exact ⟨ad, A2, c2, e, pw_cell_below hb h0, pw_cell_below hb h1, pw_cell_below hb h2, h3, h4⟩
theorem at_int {w W : World} {A : Option Addr} {zs : List Int} (h : Kd.C (Kd.int .i64) w A zs.length zs) (hb : Below w.heap.size w W) (i : Nat) (h1 : i < zs.length) : ∃ ad, A = some ad ∧
    W.cell? (ad.add i) = some (.int .i64 (zs.getD i 0)) := by
  obtain ⟨ad, c, e, _, hK, hc⟩ := Kd.C_get h (0 : Int) (i : Int) (by omega) (by omega)
  refine ⟨ad, e, pw_cell_below hb ?_⟩
  have hK0 : c = [.int .i64 (zs.getD (i : Int).toNat 0)] := hK
  have hK' : c = [.int .i64 (zs.getD i 0)] := by simpa using hK0
  have := hc 0 (.int .i64 (zs.getD i 0)) (by rw [hK']; rfl)
  rw [show (Kd.int .i64).sz = 1 from rfl] at this
  simpa using this
theorem lt_of_mem_gate {T x : S24} (h : x ∈ T.f2) : SizeOf.sizeOf x < SizeOf.sizeOf T := by
  have := List.sizeOf_lt_of_mem h
  cases T; simp at *; omega
theorem getD_mem_gate {zs : List S24} {i : Nat} (h : i < zs.length) : zs.getD i z24 ∈ zs := by
  rw [List.getD_eq_getElem?_getD, List.getElem?_eq_getElem h]; exact List.getElem_mem h
/-- Whatever lay in w lies on behind a call that began in W. -/
theorem below_call {w W W' : World} (h : Below w.heap.size w W) (k : Below W.heap.size W W') : Below w.heap.size w W' := below_then h h.size k
theorem hmf_ : ∀ (fn : Fn) (first cap : Array Value) (w : World), (Instr.makeFunc fn first cap).run Try.prog w = .ok (.func fn first cap) w := fun _ _ _ _ => rfl
theorem hnot_ : ∀ (x : Bool) (w : World), (Op.unary .not (.bool x)).run Try.prog w = .ok (.bool (!x)) w := fun _ _ => rfl
/-- A block of cells abides the turn of whatever is no cells. -/
theorem blk_kept {W W' : World} {g : Nat} {t : TypeId} {cs : Array Value} {row : Option Nat} {B : Nat} (h : W.heap[g]? = some (.cells cs t (0, 0))) (hg : W.grownBy W' row)
    (hr : ∀ r, row = some r → B ≤ r ∧ ∃ o : Obj, W.heap[r]? = some o ∧ o.isCells = false) : W'.heap[g]? = some (.cells cs t (0, 0)) := by
  refine blk_grown h hg (fun e => ?_)
  obtain ⟨_, o, ho, hc⟩ := hr g e.symm
  rw [h] at ho; cases ho; cases hc
theorem blk_put {W : World} {g D : Nat} {o o' ob : Obj} (h : W.heap[g]? = some ob) (hD : W.heap[D]? = some o) (hne : g ≠ D) : (W.putObj D o').heap[g]? = some ob := (World.putObj_heap_other hne).trans h
theorem wd {p : Prop} (h : Fence.wide.depth.isSome = true) : p := by cases h
end Go.Proofs.Ytipdpfnjobfbpaa.H


/- A range over a function whose iterator reads what the loop's body writes: the rounds are counted, and each round is told what it gets. -/
namespace Go.Proofs.Ytipdpfnjobfbpaa.H
open Go.RowKit
set_option linter.unusedVariables false

/-- Nothing has changed but blocks that hold no cells and lie at or beyond B. -/
structure Quiet (B : Nat) (W W' : World) : Prop where
  os : W'.os = W.os
  tape : W'.tape = W.tape
  output : W'.output = W.output
  size : W.heap.size ≤ W'.heap.size
  block : ∀ b, b < W.heap.size → W'.heap[b]? = W.heap[b]? ∨ (B ≤ b ∧ ∃ o : Obj, W.heap[b]? = some o ∧ o.isCells = false)
theorem Quiet.alloc (B : Nat) (W : World) (o : Obj) : Quiet B W (W.alloc o) := ⟨rfl, rfl, rfl, by simp, fun b hb => .inl (Below.heap_alloc W o b hb)⟩
theorem Quiet.put {B : Nat} {W : World} {l : Nat} {o : Obj} (hB : B ≤ l) (hl : W.heap[l]? = some o) (ho : o.isCells = false) (o' : Obj) : Quiet B W (W.putObj l o') :=
  ⟨rfl, rfl, rfl, by simp, fun b _ => by
    by_cases e : b = l
    · subst e; exact .inr ⟨hB, o, hl, ho⟩
    · exact .inl (World.putObj_heap_other e)⟩
theorem Quiet.below {B n : Nat} {W W' : World} (h : Quiet B W W') (hn : n ≤ B) (hs : n ≤ W.heap.size) : Below n W W' :=
  ⟨h.os, h.tape, h.output, h.size, fun k hk => (h.block k (by omega)).resolve_right (fun ⟨h1, _⟩ => by omega)⟩
theorem Quiet.cells {B b : Nat} {W W' : World} (h : Quiet B W W') {cs : Array Value} {t : TypeId} {r : Nat × Nat} (hb : W.heap[b]? = some (.cells cs t r)) : W'.heap[b]? = some (.cells cs t r) := by
  have hlt := (Array.getElem?_eq_some_iff.1 hb).1
  rcases h.block b hlt with h1 | ⟨_, o, ho, hc⟩
  · exact h1.trans hb
  · rw [hb] at ho; cases ho; cases hc
theorem Quiet.low {B b : Nat} {W W' : World} (h : Quiet B W W') {o : Obj} (hb : W.heap[b]? = some o) (hB : b < B) : W'.heap[b]? = some o := by
  have hlt := (Array.getElem?_eq_some_iff.1 hb).1
  rcases h.block b hlt with h1 | ⟨h2, _⟩
  · exact h1.trans hb
  · omega
theorem Quiet.of_below {B : Nat} {W W' : World} (h : Below W.heap.size W W') : Quiet B W W' := ⟨h.os, h.tape, h.output, h.size, fun b hb => .inl (h.block b hb)⟩

variable {F : Fence} {n : Nat} {P : Program}
/-- How a round's body is left. -/
def cntPost (R : World → Prop) (W : World) : Exit → Act → World → Prop
  | .normal, _, W' => KeepsOthers W W' ∧ R W'
  | _, _, _ => False

theorem wpIn_rangeFunc_cnt {α : Type} {g : Operand} {ps : Array Tmp} {assign body : Code} {Q : Exit → Act → World → Prop} {a : Act} {w : World}
    (hro : F.round = none) (h1 : 1 ≤ n) {gf : Nat} {lb : Array Value} (hg : a.eval g = .func (.func gf) #[] lb) (hFg : F.fn gf) (eg : ∀ args w, (callFunc gf args).run P w = .ok (.enter gf args) w)
    {encs : α → Array Value} (hps : ∀ x, (encs x).size = ps.size) {N : Nat} (Gd : Nat → α → World → Prop) (Pre : Nat → World → Prop)
    (hseq : ∀ (l : Nat) (J : Nat → World → Prop) (W : World), (∀ k W W', J k W → Below W.heap.size W W' → J k W') → (∀ k W, J k W → Pre k W) →
      (∀ k x W1, J k W1 → k < N → Gd k x W1 → YieldAt F (n - 1 - 1) P l (encs x) W1 fun e W' => e = .returned (.bool true) ∧ J (k + 1) W') → J 0 W →
      CallsIn F (n - 1) P gf (#[.func (.yield l) #[] #[]] ++ lb) W fun e W' => (∃ v, e = .returned v) ∧ J N W')
    (I : Nat → World → Prop) (hI : ∀ k W W', I k W → Quiet w.heap.size W W' → I k W') (hIP : ∀ k W, I k W → Pre k W) (hGq : ∀ k x W W', Gd k x W → Quiet w.heap.size W W' → Gd k x W')
    (h0 : I 0 w) (a₁ : α → Act)
    (hassign : ∀ (l : Nat) (x : α) (W : World) (K : Act → World → Prop), K (a₁ x) W →
      assign.wpIn (F.inRound l) (n - 1 - 1) P (Exit.then K (fun _ _ _ => False)) { tmps := (ps.zip (encs x)).foldl (fun t (p, v) => t.setIfInBounds p v) a.tmps, defers := [] } W)
    (hbody : ∀ (l k : Nat) (x : α) (W : World), I k W → k < N → Gd k x W → body.wpIn (F.inRound l) (n - 1 - 1) P (cntPost (I (k + 1)) W) (a₁ x) W)
    (hdone : ∀ (W : World), I N W → W.heap[w.heap.size]? = some (.deferred (some [])) → Q .normal { a with defers := { target := .collected w.heap.size, args := #[] } :: a.defers } W) :
    (Code.rangeFunc g ps assign body).wpIn F n P Q a w := by
  refine wpIn_rangeFunc fun fn hfn => ?_
  rw [hro]
  obtain ⟨rec, hrec⟩ : ∃ rec : LoopState → Loop, rec = fun st => { state := st, pending := none, fn, tmps := a.tmps, params := ps, assign, body, defers := w.heap.size } := ⟨_, rfl⟩
  obtain ⟨W1, hW1⟩ : ∃ W1, (w.alloc (.deferred (some []))).alloc (.loop (rec .ready)) = W1 := ⟨_, rfl⟩
  have hD1 : W1.heap[w.heap.size]? = some (.deferred (some [])) := by
    rw [← hW1]; exact (Below.heap_alloc _ _ _ (by simp)).trans (World.alloc_heap_new w _)
  have hL1 : W1.heap[w.heap.size + 1]? = some (.loop (rec .ready)) := by
    rw [← hW1]; have := World.alloc_heap_new (w.alloc (.deferred (some []))) (.loop (rec .ready)); rwa [World.size_alloc] at this
  have hI1 : I 0 W1 := by rw [← hW1]; exact hI _ _ _ (hI _ _ _ h0 (Quiet.alloc _ _ _)) (Quiet.alloc _ _ _)
  have stay : ∀ {W W' : World} {b : Nat} {o : Obj}, Below W.heap.size W W' → W.heap[b]? = some o → W'.heap[b]? = some o := fun hb ho => (hb.block _ (Array.getElem?_eq_some_iff.1 ho).1).trans ho
  refine ⟨w.heap.size + 1, [{ target := .collected w.heap.size, args := #[] }], W1, { target := .fn (.func gf) lb, args := #[.func (.yield (w.heap.size + 1)) #[] #[]] }, W1, gf,
    #[.func (.yield (w.heap.size + 1)) #[] #[]] ++ lb, W1, by rw [← hW1, hrec]; exact run_enterLoop_outer _ _ _ _ _, ?_, fun f' hf' => ?_, by simp [invoke, go_sem, eg], fun _ => h1, ?_⟩
  · simp only [resolve, hg]
    simp [go_sem]
  · simp [Target.leads] at hf'; subst hf'; exact hFg
  · refine (hseq (w.heap.size + 1) (fun k W => I k W ∧ W.heap[w.heap.size + 1]? = some (.loop (rec .ready)) ∧ W.heap[w.heap.size]? = some (.deferred (some []))) W1
      (fun k W W' h hb => ⟨hI k W W' h.1 (Quiet.of_below hb), stay hb h.2.1, stay hb h.2.2⟩) (fun k W h => hIP k W h.1) ?_ ⟨hI1, hL1, hD1⟩).mono ?_
    · rintro k x W ⟨hi, hl, hk⟩ hlt hgd
      have hlen := (Array.getElem?_eq_some_iff.1 hl).1
      have hy := run_yield (P := P) (args := encs x) hl (by rw [hrec]; exact hps x)
      rw [hrec] at hy
      have hq := Quiet.put (B := w.heap.size) (by omega) hl rfl (.loop { rec .ready with state := .busy })
      refine ⟨fn, _, assign, body, hy, roundIn_of_wpIn hfn (hassign _ x W _ ⟨_, run_beginRound hl (by rw [hrec]), ?_⟩)⟩
      have hl2 : (W.putObj (w.heap.size + 1) (.loop { rec .ready with state := .busy })).heap[w.heap.size + 1]? = some (.loop { rec .ready with state := .busy }) := World.putObj_heap_same hlen
      have hk2 : (W.putObj (w.heap.size + 1) (.loop { rec .ready with state := .busy })).heap[w.heap.size]? = some (.deferred (some [])) := (World.putObj_heap_other (by omega)).trans hk
      refine wpIn_mono (hbody _ k x _ (hI _ _ _ hi hq) hlt (hGq _ _ _ _ hgd hq)) ?_
      rintro e a3 W3 hp
      cases e with
      | normal =>
        obtain ⟨hko, hi3⟩ := hp
        have hl3 := hko.same _ _ hl2 rfl
        have hk3 := hko.same _ _ hk2 rfl
        have hr := run_endRound (P := P) none hl3
        refine ⟨_, _, hr, rfl, hI _ _ _ hi3 (Quiet.put (by omega) hl3 rfl _), ?_, (World.putObj_heap_other (by omega)).trans hk3⟩
        rw [World.putObj_heap_same (Array.getElem?_eq_some_iff.1 hl3).1, hrec]; rfl
      | ret => exact hp.elim
      | exit id => exact hp.elim
      | goto t => exact hp.elim
      | panic ch => exact hp.elim
      | outgrown => exact hp.elim
    · rintro e W2 ⟨⟨v, rfl⟩, hi, hl, hk⟩
      have he := run_endLoop (P := P) hl (by rw [hrec]; simp)
      rw [hrec] at he
      exact ⟨none, _, he, hdone _ (hI _ _ _ hi (Quiet.put (by omega) hl rfl _)) ((World.putObj_heap_other (by omega)).trans hk)⟩
end Go.Proofs.Ytipdpfnjobfbpaa.H


/- A region that draws its order, in a round of a loop over an iterator: walked by the words of a plain one. -/
namespace Go.Proofs.Ytipdpfnjobfbpaa.H
open Go.RowKit Go.Proofs.YtipdpfnjobfbpaaW.PrintLast
set_option linter.unusedVariables false
variable {P : Program} {ops : Array Oper} {Q : Exit → Act → World → Prop} {md : Region.Mode}

theorem rowsIn_of {l n : Nat} {row : String} {args : Array Value} {w : World} {R : Value → World → Prop} (h : Rows P row args w R) : RowsIn (Fence.wide.inRound l) n P row args w R :=
  fun c cs _ => let ⟨v, w', r, s⟩ := h c cs; ⟨v, w', r, stepsIn_wide.2 s⟩
theorem operIn_of {l n : Nat} {o : Oper} {a : Act} {w : World} {K : Act → World → Prop} (hd : ∀ c, o.op ≠ .defer c) (h : o.wp P a w K Q) : o.wpIn (Fence.wide.inRound l) n P a w K Q := by
  refine ⟨fun _ _ => trivial, ?_⟩
  have hs : o.semAt (Fence.wide.inRound l).round a.eval = execOp a.eval o := Oper.semAt_eq _ _ _ hd
  rw [hs]
  unfold Oper.wp at h
  generalize (execOp a.eval o).run P w = r at *
  have hdep : (Fence.wide.inRound l).depth.isSome = true → 1 ≤ n := fun h => by cases h
  cases r with
  | ok x w' =>
    cases x <;> simp only [Oper.upon, Oper.uponIn] at h ⊢ <;>
      first
        | exact h
        | exact ⟨hdep, (CallsIn.inRound l (callsIn_wide.2 h)).mono (fun e w'' he => by cases e <;> exact he)⟩
        | exact ⟨hdep, rowsIn_of h⟩
        | exact h.elim
  | halt x w' => cases x <;> simp only [Oper.upon, Oper.uponIn] at h ⊢ <;> exact h
theorem anyIn_of {l n : Nat} (hd : ∀ (i : Nat) (o : Oper), ops[i]? = some o → ∀ c, o.op ≠ .defer c) (hQ : ¬ LetsOut Q) : ∀ (fuel : Nat) (listed : Array Bool) (a : Act) (w : World),
    wpAny P md ops Q fuel listed a w → wpAnyIn (Fence.wide.inRound l) n P md ops Q fuel listed a w
  | 0, _, _, _, h => h
  | fuel + 1, listed, a, w, h => ⟨h.1, fun i hi => by
    have h2 := h.2 i hi
    unfold wpOp at h2
    unfold wpOpIn
    cases ho : ops[i]? with
    | none => rw [ho] at h2; exact anyIn_of hd hQ fuel _ a w h2
    | some o =>
      rw [ho] at h2
      simp only at h2 ⊢
      by_cases hw : Region.wanted o (yielded ops a.tmps) = true
      · rw [if_pos hw] at h2 ⊢
        rcases h2 with h3 | ⟨_, h3⟩
        · exact Oper.wpIn_mono (fun a' w' => anyIn_of hd hQ fuel _ a' w') (operIn_of (hd i o ho) h3)
        · exact absurd h3 hQ
      · rw [if_neg hw] at h2 ⊢
        exact ⟨fun _ _ => trivial, anyIn_of hd hQ fuel _ _ w h2⟩⟩
def noDeferB (ops : Array Oper) : Bool := ops.all fun o => match o.op with | .defer _ => false | _ => true
theorem noDefer_of (h : noDeferB ops = true) (i : Nat) (o : Oper) (ho : ops[i]? = some o) : ∀ c, o.op ≠ .defer c := by
  intro c hc
  obtain ⟨hi, rfl⟩ := Array.getElem?_eq_some_iff.1 ho
  have := (Array.all_eq_true.1 h) i hi
  rw [hc] at this; cases this
/-- A region that draws its order, in a round. -/
theorem startIn_ {S : World → Prop} {ds : List Nat} {l₀ m : Nat} {id n : Nat} {a : Act} {w : World} (l : Array Bool) (hm : P.follows .mixedOrders = true) (hnd : noDeferB ops = true) (hQ : ¬ LetsOut Q) (hn : ops.size = n) (hl : Array.replicate n false = l) (hS : S w.drew)
    (h : S w.drew → wpAnyLast P .any ops Q S ds n l a w.drew) : (Code.region id ops true).wpIn (Fence.wide.inRound l₀) m P Q a w := by
  subst hn
  subst hl
  exact wpIn_region_any hm (anyIn_of (noDefer_of hnd) hQ _ _ _ _ (wpAny_of_last _ _ _ _ (h hS)))
end Go.Proofs.Ytipdpfnjobfbpaa.H


/- package field: sums, products and inverses modulo Q. -/
namespace Go.Proofs.Ytipdpfnjobfbpaa.H
open Go.RowKit Go.Proofs.YtipdpfnjobfbpaaW.PrintWords Go.Proofs.YtipdpfnjobfbpaaW.PrintLast Go.Proofs.YtipdpfnjobfbpaaW.PrintMore Go.Proofs.Ytipdpfnjobfbpaa.P SG.Lin
set_option linter.unusedVariables false
theorem tmod_Q (a : Int) : Int.tmod a 1073741789 = if a < 0 then -((-a) % 1073741789) else a % 1073741789 := by
  split
  · have : Int.tmod a 1073741789 = -(Int.tmod (-a) 1073741789) := by rw [Int.neg_tmod]; omega
    rw [this, Int.tmod_eq_emod_of_nonneg (by omega)]
  · rw [Int.tmod_eq_emod_of_nonneg (by omega)]
theorem Mod_f (a : Int) : field_Mod.f a = some (a % 1073741789) := by
  unfold field_Mod.f
  rw [tmod_Q]
  by_cases h : a < 0
  · rw [if_pos h]
    have h1 := Int.emod_nonneg (-a) (b := 1073741789) (by decide)
    have h2 := Int.emod_lt_of_pos (-a) (b := 1073741789) (by decide)
    by_cases h3 : -(-a % 1073741789) < 0
    · rw [if_pos h3]; congr 1; unfold wrap64; omega
    · rw [if_neg h3]; congr 1; omega
  · rw [if_neg h, if_neg (by omega)]
theorem mulQ (a b : Int) : Int.tmod (wrap64 (a % 1073741789 * (b % 1073741789))) 1073741789 = fmul a b := by
  have a1 := Int.emod_nonneg a (b := 1073741789) (by decide)
  have a2 := Int.emod_lt_of_pos a (b := 1073741789) (by decide)
  have b1 := Int.emod_nonneg b (b := 1073741789) (by decide)
  have b2 := Int.emod_lt_of_pos b (b := 1073741789) (by decide)
  have h1 : 0 ≤ a % 1073741789 * (b % 1073741789) := Int.mul_nonneg a1 b1
  have h2 : a % 1073741789 * (b % 1073741789) ≤ 1073741789 * 1073741789 := Int.mul_le_mul (by omega) (by omega) b1 (by omega)
  have hw : wrap64 (a % 1073741789 * (b % 1073741789)) = a % 1073741789 * (b % 1073741789) := by
    generalize a % 1073741789 * (b % 1073741789) = c at *
    unfold wrap64; omega
  rw [hw, Int.tmod_eq_emod_of_nonneg h1]
  unfold fmul
  rw [← Int.mul_emod]
theorem Mul_f (a b : Int) : field_Mul.f a b = some (fmul a b) := by
  unfold field_Mul.f
  rw [Mod_f, Mod_f]
  simp only [Option.bind_some]
  rw [mulQ]
theorem addQ (a b : Int) : Int.tmod (wrap64 (a % 1073741789 + b % 1073741789)) 1073741789 = fadd a b := by
  have hw : wrap64 (a % 1073741789 + b % 1073741789) = a % 1073741789 + b % 1073741789 := by unfold wrap64; omega
  rw [hw, Int.tmod_eq_emod_of_nonneg (by omega)]
  unfold fadd; omega
theorem Add_f (a b : Int) : field_Add.f 4 a b = some (fadd a b) := by
  have e1 : wrap64 (0 + 1) = 1 := by unfold wrap64; omega
  have e2 : wrap64 (1 + 1) = 2 := by unfold wrap64; omega
  have h0 : Int.tmod (wrap64 (0 + a % 1073741789)) 1073741789 = a % 1073741789 := by
    have : wrap64 (0 + a % 1073741789) = a % 1073741789 := by unfold wrap64; omega
    rw [this, Int.tmod_eq_emod_of_nonneg (by omega)]; omega
  unfold field_Add.f field_sum.f
  simp only [List.length_cons, List.length_nil]
  have l2 : field_sum.l0 2 (fadd a b) [a, b] 2 2 = some (fadd a b) := by
    simp only [field_sum.l0]; rw [if_neg (by omega)]
  have l1 : field_sum.l0 3 (a % 1073741789) [a, b] 2 1 = some (fadd a b) := by
    simp only [field_sum.l0]
    rw [if_pos (by omega), if_pos (by omega), if_pos (by simp), Mod_f, e2]
    simp only [Option.bind_some]
    rw [show rd [a, b] 1 = b from rfl, addQ, if_neg (by omega)]
  have l0 : field_sum.l0 4 0 [a, b] 2 0 = some (fadd a b) := by
    rw [field_sum.l0, if_pos (by omega), if_pos (by omega), if_pos (by simp), Mod_f, e1]
    simp only [Option.bind_some]
    rw [show rd [a, b] 0 = a from rfl, h0]; exact l1
  have e : (((0 + 1 + 1 : Nat)) : Int) = 2 := rfl
  rw [e, l0]; rfl
theorem Mul_calls (a b : Int) (w : World) : Calls Try.prog 41 #[.int .i64 a, .int .i64 b] w fun e w' => e = .returned (.int .i64 (fmul a b)) ∧ Drawn0 w w' := field_Mul.calls a b _ w (Mul_f a b)
theorem Add_calls (a b : Int) (w : World) : Calls Try.prog 40 #[.int .i64 a, .int .i64 b] w fun e w' => e = .returned (.int .i64 (fadd a b)) ∧ Below w.heap.size w w' := field_Add.calls 4 a b _ w (Add_f a b)
theorem Mod_calls (a : Int) (w : World) : Calls Try.prog 42 #[.int .i64 a] w fun e w' => e = .returned (.int .i64 (a % 1073741789)) ∧ Drawn0 w w' := field_Mod.calls a _ w (Mod_f a)
end Go.Proofs.Ytipdpfnjobfbpaa.H


/- linear.after: the iterator over the elements of a row from a column on. -/
namespace Go.Proofs.Ytipdpfnjobfbpaa.H
open Go.RowKit Go.Shelf Go.Proofs.YtipdpfnjobfbpaaW.PrintWords Go.Proofs.YtipdpfnjobfbpaaW.PrintLast Go.Proofs.YtipdpfnjobfbpaaW.PrintMore Go.Proofs.Ytipdpfnjobfbpaa.P
set_option linter.unusedVariables false
set_option linter.unusedSimpArgs false
attribute [local go_sem] Oper.semAt_some

set_option maxRecDepth 100000 in
theorem after_calls (v : Value) (c : Int) (w : World) (hv : v.oneCell' = true) (A : Option Addr) (n cp : Nat) (hvs : v = .slice A n cp) :
    Calls Try.prog 112 #[v, .int .i64 c] w fun e w' => e = .returned (.func (.func 126) #[] #[.pointer (some ⟨w.heap.size + 1, 0, none⟩), .pointer (some ⟨w.heap.size, 0, none⟩)]) ∧
      w' = (w.alloc (.cells #[v] 31)).alloc (.cells #[.int .i64 c] 3) := by
  subst hvs
  have hmf := hmf_
  go_enter Try.func112, Try.ntmps112
  go_wp2_with fail
  go_ret
  exact ⟨rfl, rfl⟩
theorem after1_enters : ∀ args w, (callFunc 126 args).run Try.prog w = .ok (.enter 126 args) w := enters_of Try.func126 (by kernel_rfl) rfl

/-- What the iterator must find. -/
structure AfterPre (bc br b L cap c : Nat) (W : World) : Prop where
  col : W.heap[bc]? = some (.cells #[.int .i64 c] 3 (0, 0))
  row : W.heap[br]? = some (.cells #[.slice (some ⟨b, 0, none⟩) L cap] 31 (0, 0))
  cells : ∀ j, j < L → ∃ x, W.cell? ⟨b, j, none⟩ = some (.int .i64 x)
abbrev aenc (x : Nat × Int) : Array Value := #[.int .i64 x.1, .int .i64 x.2]
/-- What a round gets. -/
def AfterGd (b c : Nat) (k : Nat) (x : Nat × Int) (W : World) : Prop := x.1 = c + k ∧ W.cell? ⟨b, x.1, none⟩ = some (.int .i64 x.2)
set_option maxRecDepth 100000 in
set_option maxHeartbeats 2000000 in
theorem after1_seq (n bc br b L cap c : Nat) (hL : L ≤ 1000) (hc : c ≤ L) (hcap : L ≤ cap) (l : Nat) (J : Nat → World → Prop) (W : World)
    (hst : ∀ k W W', J k W → Below W.heap.size W W' → J k W') (hpre : ∀ k W, J k W → AfterPre bc br b L cap c W)
    (hY : ∀ k x W1, J k W1 → k < L - c → AfterGd b c k x W1 → YieldAt Fence.wide (n - 1 - 1) Try.prog l (aenc x) W1 fun e W' => e = .returned (.bool true) ∧ J (k + 1) W') (h0 : J 0 W) :
    CallsIn Fence.wide (n - 1) Try.prog 126 (#[.func (.yield l) #[] #[]] ++ #[.pointer (some ⟨bc, 0, none⟩), .pointer (some ⟨br, 0, none⟩)]) W fun e W' => (∃ v, e = .returned v) ∧ J (L - c) W' := by
  have HJ := Aside0.mk hst
  have HP := Aside0.mk hpre
  have HY := Aside0.mk hY
  have H0 := Aside0.mk h0
  have g0 := (blk_cell (hpre 0 W h0).col 0).trans rfl
  clear hst hpre hY h0
  refine callsIn_of_wp Try.func126 rfl trivial ?_ rfl
  simp only [Try.ntmps126, List.size_toArray, List.length_cons, List.length_nil, Nat.reduceAdd, Nat.reduceSub, Array.replicate_succ, Array.replicate_zero, List.push_toArray, List.append_toArray, List.nil_append, List.cons_append]
  gi_wp2_with fail
  gi_loopw [4] (fun p wr => ∃ k : Nat, k ≤ L - c ∧ p = .int .i64 ((c + k : Nat) : Int) ∧ Aside0 (J k wr)) (fun p wr => L - (intOf p).toNat)
  case atStart => exact ⟨0, Nat.zero_le _, rfl, H0⟩
  case round =>
    clear H0 g0
    obtain ⟨k, hk, rfl, HJp⟩ := hrel
    have hp := HP.out k wr HJp.out
    have g2 := (blk_cell hp.row 0).trans rfl
    have hcl := Aside0.mk hp.cells
    clear hp
    obtain ⟨m, hm⟩ : ∃ m, m = c + k := ⟨_, rfl⟩
    rw [← hm]
    have HM := Aside0.mk hm
    have hm1 : m ≤ L := by omega
    by_cases hlt : m < L
    · have hltz : (m : Int) < (L : Int) := by omega
      obtain ⟨x, hx⟩ := hcl.out m hlt
      have hx' := hx
      have hkl := Aside0.mk (show k < L - c by omega)
      obtain ⟨fn, tmps, assign, body, hy, hR⟩ := HY.out k (m, x) wr HJp.out hkl.out ⟨hm, hx⟩
      have HR := Aside0.mk hR
      clear hR hm hx' hcl
      simp only [aenc] at hy
      gi_wp2_with fail
      refine ⟨wd, HR.out.mono ?_⟩
      rintro e W3 ⟨rfl, hJ3⟩
      have HJ3 := Aside0.mk hJ3
      clear hJ3
      gi_wp2_with fail
      go_roundw
      case rel => exact ⟨k + 1, hkl.out, by have := HM.out; first | (rw [this]; go_num) | (subst this; go_num), HJ3⟩
      case measure => simp [intOf]; omega
    · have hltz : ¬ (m : Int) < (L : Int) := by omega
      have HK := Aside0.mk (show k = L - c by omega)
      clear hm hk
      gi_wp2_with fail
      go_end0
      exact ⟨⟨_, rfl⟩, by rw [← HK.out]; exact HJp.out⟩
end Go.Proofs.Ytipdpfnjobfbpaa.H


/- (linear.table).clear: a multiple of one row is taken from another one. -/
namespace Go.Proofs.Ytipdpfnjobfbpaa.H
open Go.RowKit Go.Shelf Go.Proofs.YtipdpfnjobfbpaaW.PrintWords Go.Proofs.YtipdpfnjobfbpaaW.PrintLast Go.Proofs.YtipdpfnjobfbpaaW.PrintMore Go.Proofs.Ytipdpfnjobfbpaa.P SG.Lin
set_option linter.unusedVariables false
set_option linter.unusedSimpArgs false
attribute [local go_sem] Oper.semAt_some

/-- The cells of a row of whole numbers, with what lies behind it. -/
abbrev rowO (x : List Int) (p : List Value) : Obj := .cells (nums .i64 x ++ p).toArray 3 (0, 0)
theorem rowO_cell {W : World} {b : Nat} {x : List Int} {p : List Value} (h : W.heap[b]? = some (rowO x p)) {j : Nat} (hj : j < x.length) : W.cell? ⟨b, j, none⟩ = some (.int .i64 (x.getD j 0)) := by
  rw [blk_cell h]
  simp [nums, List.getElem?_append_left, hj, List.getD_eq_getElem?_getD]
theorem rowO_set {W : World} {b : Nat} {x : List Int} {p : List Value} (h : W.heap[b]? = some (rowO x p)) {j : Nat} (hj : j < x.length) (v : Int) : (W.setCell ⟨b, j, none⟩ (.int .i64 v)).heap[b]? = some (rowO (x.set j v) p) := by
  rw [blk_set h]
  unfold rowO nums
  congr 2
  apply Array.ext'
  simp only [Array.toList_setIfInBounds, List.map_set]
  rw [List.set_append_left _ _ (by simpa using hj)]

/-- The row when k elements have been cleared. -/
def part (c k : Nat) (n : Int) (y x : List Int) : List Int := x.mapIdx fun j a => if c ≤ j ∧ j < c + k then fadd a (-fmul n (y.getD j 0)) else a
theorem part_len (c k : Nat) (n : Int) (y x : List Int) : (part c k n y x).length = x.length := List.length_mapIdx
theorem part_at (c k : Nat) (n : Int) (y x : List Int) {j : Nat} (hj : j < x.length) : (part c k n y x).getD j 0 = if c ≤ j ∧ j < c + k then fadd (x.getD j 0) (-fmul n (y.getD j 0)) else x.getD j 0 := by
  unfold part; rw [getD_mapIdx _ _ _ _ 0 hj]
theorem part_zero (c : Nat) (n : Int) (y x : List Int) : part c 0 n y x = x := by
  refine list_ext_getD (part_len _ _ _ _ _) fun j hj => ?_
  rw [part_len] at hj
  rw [part_at _ _ _ _ _ hj, if_neg (by omega)]
theorem part_step (c k : Nat) (n : Int) (y x : List Int) (h : c + k < x.length) : (part c k n y x).set (c + k) (fadd (x.getD (c + k) 0) (-fmul n (y.getD (c + k) 0))) = part c (k + 1) n y x := by
  refine list_ext_getD (by rw [List.length_set, part_len, part_len]) fun j hj => ?_
  rw [List.length_set, part_len] at hj
  rw [getD_set' _ _ _ _ _ (by rw [part_len]; exact h), part_at _ _ _ _ _ hj, part_at _ _ _ _ _ hj]
  by_cases e : c + k = j
  · subst e; rw [if_pos rfl, if_pos ⟨by omega, by omega⟩]
  · rw [if_neg e]
    by_cases e2 : c ≤ j ∧ j < c + k
    · rw [if_pos e2, if_pos ⟨e2.1, by omega⟩]
    · rw [if_neg e2, if_neg (fun h => e2 ⟨h.1, by omega⟩)]
theorem part_all (c : Nat) (n : Int) (y x : List Int) (hn : x.getD c 0 = n) (h0 : n ≠ 0) {k : Nat} (hk : x.length = c + k) : part c k n y x = clearFrom c y x := by
  refine list_ext_getD (by rw [part_len, clear_len]) fun j hj => ?_
  rw [part_len] at hj
  rw [part_at _ _ _ _ _ hj, clear_at _ _ _ _ hj, hn]
  by_cases e : c ≤ j
  · rw [if_pos ⟨e, by omega⟩, if_pos ⟨e, h0⟩]
  · rw [if_neg (fun h => e h.1), if_neg (fun h => e h.1)]
theorem frozen_below {w w1 : World} (h : Below w.heap.size w w1) {a : Addr} {v : Value} (hc : w.cell? a = some v) (hf : w.frozen? a = false) : w1.frozen? a = false := (h.frozen (World.block_lt_of_cell? w a hc)).trans hf
theorem wrap_neg (n v : Int) : wrap64 (-fmul n v) = -fmul n v := by have := fmul_in n v; unfold InF at this; unfold wrap64; omega
structure ClearI (w : World) (tb N cap : Nat) (hs : Array Value) (i c L bi bb cb : Nat) (n : Int) (x y : List Int) (px py : List Value) (k : Nat) (W : World) : Prop where
  tbox : W.heap[w.heap.size]? = some (.cells #[.slice (some ⟨tb, 0, none⟩) N cap] 80 (0, 0))
  ibox : W.heap[w.heap.size + 1]? = some (.cells #[.int .i64 i] 3 (0, 0))
  nbox : W.heap[w.heap.size + 1 + 1]? = some (.cells #[.int .i64 n] 3 (0, 0))
  rbox : W.heap[w.heap.size + 1 + 1 + 1]? = some (.cells #[.slice (some ⟨bb, 0, none⟩) L cb] 31 (0, 0))
  cbox : W.heap[w.heap.size + 1 + 1 + 1 + 1]? = some (.cells #[.int .i64 c] 3 (0, 0))
  head : W.heap[tb]? = some (.cells hs 31 (0, 0))
  xrow : W.heap[bi]? = some (rowO (part c k n y x) px)
  yrow : W.heap[bb]? = some (rowO y py)
  grown : w.grownBy W (some bi)
theorem grown_quiet {w W W' : World} {row : Option Nat} {B : Nat} (h : w.grownBy W row) (hB : w.heap.size ≤ B) (hq : Quiet B W W') : w.grownBy W' row :=
  ⟨hq.os.trans h.os, hq.tape.trans h.tape, hq.output.trans h.output, Nat.le_trans h.size hq.size, fun k hk hne => by
    have h1 := h.block k hk hne
    have h2 := h.size
    rcases hq.block k (by omega) with h3 | ⟨h3, _⟩
    · exact h3.trans h1
    · omega⟩
theorem grown_below {w W W' : World} {row : Option Nat} (h : w.grownBy W row) (hb : Below W.heap.size W W') : w.grownBy W' row :=
  grown_quiet h (Nat.le_refl _) (Quiet.of_below hb)
theorem grown_set {w W : World} {b : Nat} (h : w.grownBy W (some b)) (j : Nat) (v : Value) : w.grownBy (W.setCell ⟨b, j, none⟩ v) (some b) :=
  ⟨h.os, h.tape, h.output, by have := (KeepsWalks.setCell W ⟨b, j, none⟩ v).size; have := h.size; omega, fun k hk hne => (Below.heap_setCell W ⟨b, j, none⟩ v k (fun e => hne (by rw [e]))).trans (h.block k hk hne)⟩
theorem ClearI.quiet {w : World} {tb N cap : Nat} {hs : Array Value} {i c L bi bb cb : Nat} {n : Int} {x y : List Int} {px py : List Value} {k B : Nat} {W W' : World} (h : ClearI w tb N cap hs i c L bi bb cb n x y px py k W) (hB : w.heap.size ≤ B) (hq : Quiet B W W') : ClearI w tb N cap hs i c L bi bb cb n x y px py k W' :=
  ⟨hq.cells h.tbox, hq.cells h.ibox, hq.cells h.nbox, hq.cells h.rbox, hq.cells h.cbox, hq.cells h.head, hq.cells h.xrow, hq.cells h.yrow, grown_quiet h.grown hB hq⟩

set_option maxRecDepth 100000 in
set_option maxHeartbeats 2000000 in
theorem clear_calls (w : World) (tb N cap : Nat) (hs : Array Value) (i b c L bi bb ci cb : Nat) (x y : List Int) (px py : List Value)
    (hN : N ≤ 1000) (hL : L ≤ 1000) (hiN : i < N) (hbN : b < N) (hcL : c < L) (hlb : L ≤ cb)
    (hT : w.heap[tb]? = some (.cells hs 31 (0, 0))) (hi : hs[i]? = some (.slice (some ⟨bi, 0, none⟩) L ci)) (hb : hs[b]? = some (.slice (some ⟨bb, 0, none⟩) L cb))
    (hx : w.heap[bi]? = some (rowO x px)) (hy : w.heap[bb]? = some (rowO y py)) (hxl : x.length = L) (hyl : y.length = L) (hne : bi ≠ bb) :
    Calls Try.prog 113 #[.slice (some ⟨tb, 0, none⟩) N cap, .int .i64 i, .int .i64 b, .int .i64 c] w fun e w' => (∃ v, e = .returned v) ∧ w.grownBy w' (some bi) ∧ w'.heap[bi]? = some (rowO (clearFrom c y x) px) := by
  have HX := Aside0.mk hx
  have HY := Aside0.mk hy
  have HT := Aside0.mk hT
  have cI : ∀ o o', ((w.alloc o).alloc o').cell? ⟨tb, i, none⟩ = some (.slice (some ⟨bi, 0, none⟩) L ci) := fun o o' => by rw [blk_cell (blk_alloc (blk_alloc hT o) o')]; exact hi
  have cB : ∀ o o' o'', (((w.alloc o).alloc o').alloc o'').cell? ⟨tb, b, none⟩ = some (.slice (some ⟨bb, 0, none⟩) L cb) := fun o o' o'' => by rw [blk_cell (blk_alloc (blk_alloc (blk_alloc hT o) o') o'')]; exact hb
  have cX : ∀ o o', ((w.alloc o).alloc o').cell? ⟨bi, c, none⟩ = some (.int .i64 (x.getD c 0)) := fun o o' => rowO_cell (blk_alloc (blk_alloc hx o) o') (by omega)
  have hhi := hi
  have HbiL := Aside0.mk (blk_lt hx)
  clear hx hy hT hi hb
  have h1 : (i : Int) < (N : Int) := by omega
  have h2 : (b : Int) < (N : Int) := by omega
  have h3 : (c : Int) < (L : Int) := by omega
  refine (callsIn_wide (n := 3)).1 ?_
  refine callsIn_of_wp_marks Try.func113 rfl trivial ?_ rfl
  simp only [Try.ntmps113, List.size_toArray, List.length_cons, List.length_nil, Nat.reduceAdd, Nat.reduceSub, Array.replicate_succ, Array.replicate_zero, List.push_toArray, List.append_toArray, List.nil_append, List.cons_append]
  obtain ⟨n, hn⟩ : ∃ n, x.getD c 0 = n := ⟨_, rfl⟩
  rw [hn] at cX
  have HN := Aside0.mk hn
  clear hn
  by_cases hz : n = 0
  · subst hz
    gi_wp2_with fail
    refine ⟨_, results_none rfl _ _ _, ⟨_, rfl⟩, ⟨rfl, rfl, rfl, by simp; omega, fun k hk _ => ?_⟩, ?_⟩
    · rw [Below.heap_alloc _ _ k (by simp; omega), Below.heap_alloc _ _ k (by simp; omega), Below.heap_alloc _ _ k hk]
    · have : clearFrom c y x = x := by unfold clearFrom; rw [if_pos HN.out]
      rw [this]
      exact blk_alloc (blk_alloc (blk_alloc HX.out _) _) _
  · have hz1 : (n == 0) = false := by simpa using hz
    have HZ := Aside0.mk hz
    clear hz
    gi_wp2_with fail
    refine ⟨trivial, (callsIn_wide.2 (after_calls _ c _ rfl (some ⟨bb, 0, none⟩) L cb rfl)).mono ?_⟩
    rintro e w' ⟨rfl, rfl⟩
    simp only [World.size_alloc]
    gi_wp2_with fail
    obtain ⟨w1, hw1⟩ : ∃ w1, (((((w.alloc (Obj.cells #[Value.slice (some { block := tb, off := 0 }) N cap] 80)).alloc (Obj.cells #[Value.int IntKind.i64 i] 3)).alloc (Obj.cells #[Value.int IntKind.i64 n] 3)).alloc
          (Obj.cells #[Value.slice (some { block := bb, off := 0 }) L cb] 31)).alloc (Obj.cells #[Value.int IntKind.i64 c] 3)) = w1 := ⟨_, rfl⟩
    have hI0 : ClearI w tb N cap hs i c L bi bb cb n x y px py 0 w1 := by
      rw [← hw1]
      refine ⟨?_, ?_, ?_, ?_, ?_, blk_alloc (blk_alloc (blk_alloc (blk_alloc (blk_alloc HT.out _) _) _) _) _, ?_, blk_alloc (blk_alloc (blk_alloc (blk_alloc (blk_alloc HY.out _) _) _) _) _, ?_⟩
      · exact blk_alloc (blk_alloc (blk_alloc (blk_alloc (blk_new w _) _) _) _) _
      · have := blk_new (w.alloc (Obj.cells #[Value.slice (some { block := tb, off := 0 }) N cap] 80)) (Obj.cells #[Value.int IntKind.i64 i] 3)
        simp only [World.size_alloc] at this
        exact blk_alloc (blk_alloc (blk_alloc this _) _) _
      · have := blk_new ((w.alloc (Obj.cells #[Value.slice (some { block := tb, off := 0 }) N cap] 80)).alloc (Obj.cells #[Value.int IntKind.i64 i] 3)) (Obj.cells #[Value.int IntKind.i64 n] 3)
        simp only [World.size_alloc] at this
        exact blk_alloc (blk_alloc this _) _
      · have := blk_new (((w.alloc (Obj.cells #[Value.slice (some { block := tb, off := 0 }) N cap] 80)).alloc (Obj.cells #[Value.int IntKind.i64 i] 3)).alloc (Obj.cells #[Value.int IntKind.i64 n] 3)) (Obj.cells #[Value.slice (some { block := bb, off := 0 }) L cb] 31)
        simp only [World.size_alloc] at this
        exact blk_alloc this _
      · have := blk_new ((((w.alloc (Obj.cells #[Value.slice (some { block := tb, off := 0 }) N cap] 80)).alloc (Obj.cells #[Value.int IntKind.i64 i] 3)).alloc (Obj.cells #[Value.int IntKind.i64 n] 3)).alloc (Obj.cells #[Value.slice (some { block := bb, off := 0 }) L cb] 31)) (Obj.cells #[Value.int IntKind.i64 c] 3)
        simp only [World.size_alloc] at this
        exact this
      · rw [part_zero]; exact blk_alloc (blk_alloc (blk_alloc (blk_alloc (blk_alloc HX.out _) _) _) _) _
      · exact ⟨rfl, rfl, rfl, by simp; omega, fun k hk _ => by rw [Below.heap_alloc _ _ k (by simp; omega), Below.heap_alloc _ _ k (by simp; omega), Below.heap_alloc _ _ k (by simp; omega), Below.heap_alloc _ _ k (by simp; omega), Below.heap_alloc _ _ k hk]⟩
    have hsz : w1.heap.size = w.heap.size + 1 + 1 + 1 + 1 + 1 := by rw [← hw1]; simp
    rw [hw1]
    clear hw1 cI cB cX HX HY HT
    refine wpIn_rangeFunc_cnt rfl (by omega) (gf := 126) (lb := #[.pointer (some ⟨w.heap.size + 1 + 1 + 1 + 1, 0, none⟩), .pointer (some ⟨w.heap.size + 1 + 1 + 1, 0, none⟩)]) rfl trivial after1_enters (encs := aenc) (fun _ => rfl) (N := L - c)
      (AfterGd bb c) (fun _ W => AfterPre (w.heap.size + 1 + 1 + 1 + 1) (w.heap.size + 1 + 1 + 1) bb L cb c W) ?seq (ClearI w tb N cap hs i c L bi bb cb n x y px py) (fun k W W' h hq => h.quiet (by omega) hq) ?pre ?gd hI0
      (fun x => { tmps := #[Value.slice (some { block := tb, off := 0 }) N cap, Value.int IntKind.i64 ↑i, Value.int IntKind.i64 ↑b,
          Value.int IntKind.i64 ↑c, Value.pointer (some { block := w.heap.size, off := 0 }),
          Value.pointer (some { block := w.heap.size + 1, off := 0 }), undef, undef,
          Value.pointer (some { block := w.heap.size + 1 + 1, off := 0 }), .int .i64 x.1, .int .i64 x.2,
          Value.slice (some { block := tb, off := 0 }) N cap, Value.int IntKind.i64 ↑i,
          Value.pointer (some { block := tb, off := i }), Value.slice (some { block := bi, off := 0 }) L ci,
          Value.int IntKind.i64 ↑c, Value.pointer (some { block := bi, off := c }), Value.int IntKind.i64 n,
          Value.int IntKind.i64 n, Value.bool false, Value.slice (some { block := tb, off := 0 }) N cap,
          Value.int IntKind.i64 ↑b, Value.pointer (some { block := tb, off := b }),
          Value.slice (some { block := bb, off := 0 }) L cb, Value.int IntKind.i64 ↑c,
          Value.func (Fn.func 126) #[]
            #[Value.pointer (some { block := w.heap.size + 1 + 1 + 1 + 1, off := 0 }),
              Value.pointer (some { block := w.heap.size + 1 + 1 + 1, off := 0 })],
          .int .i64 x.1, .int .i64 x.2, undef, undef, undef, undef, undef, undef, undef, undef, undef, undef, undef, undef, undef,
          undef, undef, undef, undef, undef], defers := [] }) ?assign ?body ?done
    case seq => exact fun l J W hst hpre hY h0 => after1_seq 3 _ _ bb L cb c (by omega) (by omega) hlb l J W hst hpre hY h0
    case pre =>
      intro k W h
      exact ⟨h.cbox, h.rbox, fun j hj => ⟨_, rowO_cell h.yrow (by omega)⟩⟩
    case gd =>
      rintro k z W W' ⟨h1, h2⟩ hq
      refine ⟨h1, ?_⟩
      rcases hq.block bb (World.block_lt_of_cell? W _ h2) with h3 | ⟨_, o, ho, hc⟩
      · rw [World.cell?_of_block h3]; exact h2
      · exfalso
        unfold World.cell? at h2
        simp only [ho] at h2
        cases o <;> simp [Obj.isCells] at hc h2
    case assign =>
      intro l z W' K hK
      gi_wp2
      simpa [aenc] using hK
    case body =>
      rintro l k ⟨j, v⟩ W hi hk ⟨hj, hv⟩
      simp only at hj hv
      subst hj
      have hjL : c + k < L := by omega
      have hv2 := rowO_cell hi.yrow (j := c + k) (by omega)
      rw [hv] at hv2
      obtain rfl : v = y.getD (c + k) 0 := by simpa using hv2
      clear hv2 hv
      have hcx := rowO_cell hi.xrow (j := c + k) (by rw [part_len]; omega)
      rw [part_at _ _ _ _ _ (by omega), if_neg (by omega)] at hcx
      have HI := Aside0.mk hi
      have q0 := (blk_cell hi.tbox 0).trans rfl
      have q1 := (blk_cell hi.ibox 0).trans rfl
      have q2 := (blk_cell hi.nbox 0).trans rfl
      have q3 := (blk_cell hi.head i).trans hhi
      have hfz := blk_frozen hi.xrow (c + k)
      have hjz : ((c + k : Nat) : Int) < (L : Int) := by omega
      obtain ⟨j, hj⟩ : ∃ j, j = c + k := ⟨_, rfl⟩
      rw [← hj] at hcx hfz hjL hjz ⊢
      generalize hv : y.getD j 0 = v
      generalize ha : x.getD j 0 = a at hcx
      have HV := Aside0.mk hv
      have HA := Aside0.mk ha
      have HJ := Aside0.mk hj
      clear hv ha hj hi
      gi_wp2_with fail
      refine startIn_ (S := fun w' => w'.cell? ⟨w.heap.size, 0, none⟩ = some (.slice (some ⟨tb, 0, none⟩) N cap) ∧ w'.cell? ⟨w.heap.size + 1, 0, none⟩ = some (.int .i64 i) ∧ w'.cell? ⟨w.heap.size + 1 + 1, 0, none⟩ = some (.int .i64 n) ∧
        w'.cell? ⟨tb, i, none⟩ = some (.slice (some ⟨bi, 0, none⟩) L ci) ∧ w'.cell? ⟨bi, j, none⟩ = some (.int .i64 a) ∧ w'.frozen? ⟨bi, j, none⟩ = false) (ds := [18]) (n := 19) (Array.replicate 19 false) (by kernel_rfl) (by kernel_rfl) (fun ⟨_, _, h⟩ => h) rfl rfl ⟨q0, q1, q2, q3, hcx, hfz⟩ (fun hHeld => ?_)
      refine pure_ (i := 4) (N := some 32) (v := ?_) (a' := ?_) #[false, false, false, false, true, false, false, false, false, false, false, false, false, false, false, false, false, false, false] rfl rfl (by kernel_rfl) (fun _ _ _ h => h) (Or.inl ⟨by rfl, ?_⟩) ?_ ?_
      rotate_left
      · intro w'
        go_simp
        with_reducible rfl
      rotate_left
      · simp only [Act.put, List.setIfInBounds_toArray, List.set_cons_zero, List.set_cons_succ, i64_w, i32_w]
        rfl
      refine pure_ (i := 9) (N := some 37) (v := ?_) (a' := ?_) #[false, false, false, false, true, false, false, false, false, true, false, false, false, false, false, false, false, false, false] rfl rfl (by kernel_rfl) (fun _ _ _ h => h) (Or.inl ⟨by rfl, ?_⟩) ?_ ?_
      rotate_left
      · intro w'
        go_simp
        with_reducible rfl
      rotate_left
      · simp only [Act.put, List.setIfInBounds_toArray, List.set_cons_zero, List.set_cons_succ, i64_w, i32_w]
        rfl
      refine pure_ (i := 13) (N := some 41) (v := ?_) (a' := ?_) #[false, false, false, false, true, false, false, false, false, true, false, false, false, true, false, false, false, false, false] rfl rfl (by kernel_rfl) (fun _ _ _ h => h) (Or.inl ⟨by rfl, ?_⟩) ?_ ?_
      rotate_left
      · intro w'
        go_simp
        with_reducible rfl
      rotate_left
      · simp only [Act.put, List.setIfInBounds_toArray, List.set_cons_zero, List.set_cons_succ, i64_w, i32_w]
        rfl
      refine take_ (i := 0) (N := some 28) (v := ?_) (a' := ?_) #[true, false, false, false, true, false, false, false, false, true, false, false, false, true, false, false, false, false, false] rfl rfl (by kernel_rfl) (fun _ _ _ h => h) (Or.inl ⟨by rfl, ?_⟩) hHeld ?_ ?_
      rotate_left
      · rintro w' ⟨s0, s1, s2, s3, s4, s5⟩
        go_simp
        with_reducible rfl
      rotate_left
      · simp only [Act.put, List.setIfInBounds_toArray, List.set_cons_zero, List.set_cons_succ, i64_w, i32_w]
        rfl
      refine take_ (i := 1) (N := some 29) (v := ?_) (a' := ?_) #[true, true, false, false, true, false, false, false, false, true, false, false, false, true, false, false, false, false, false] rfl rfl (by kernel_rfl) (fun _ _ _ h => h) (Or.inl ⟨by rfl, ?_⟩) hHeld ?_ ?_
      rotate_left
      · rintro w' ⟨s0, s1, s2, s3, s4, s5⟩
        go_simp
        with_reducible rfl
      rotate_left
      · simp only [Act.put, List.setIfInBounds_toArray, List.set_cons_zero, List.set_cons_succ, i64_w, i32_w]
        rfl
      refine take_ (i := 2) (N := some 30) (v := ?_) (a' := ?_) #[true, true, true, false, true, false, false, false, false, true, false, false, false, true, false, false, false, false, false] rfl rfl (by kernel_rfl) (fun _ _ _ h => h) (Or.inl ⟨by rfl, ?_⟩) hHeld ?_ ?_
      rotate_left
      · rintro w' ⟨s0, s1, s2, s3, s4, s5⟩
        go_simp
        with_reducible rfl
      rotate_left
      · simp only [Act.put, List.setIfInBounds_toArray, List.set_cons_zero, List.set_cons_succ, i64_w, i32_w]
        rfl
      refine take_ (i := 3) (N := some 31) (v := ?_) (a' := ?_) #[true, true, true, true, true, false, false, false, false, true, false, false, false, true, false, false, false, false, false] rfl rfl (by kernel_rfl) (fun _ _ _ h => h) (Or.inl ⟨by rfl, ?_⟩) hHeld ?_ ?_
      rotate_left
      · rintro w' ⟨s0, s1, s2, s3, s4, s5⟩
        go_simp
        with_reducible rfl
      rotate_left
      · simp only [Act.put, List.setIfInBounds_toArray, List.set_cons_zero, List.set_cons_succ, i64_w, i32_w]
        rfl
      refine take_ (i := 5) (N := some 33) (v := ?_) (a' := ?_) #[true, true, true, true, true, true, false, false, false, true, false, false, false, true, false, false, false, false, false] rfl rfl (by kernel_rfl) (fun _ _ _ h => h) (Or.inl ⟨by rfl, ?_⟩) hHeld ?_ ?_
      rotate_left
      · rintro w' ⟨s0, s1, s2, s3, s4, s5⟩
        go_simp
        with_reducible rfl
      rotate_left
      · simp only [Act.put, List.setIfInBounds_toArray, List.set_cons_zero, List.set_cons_succ, i64_w, i32_w]
        rfl
      refine take_ (i := 6) (N := some 34) (v := ?_) (a' := ?_) #[true, true, true, true, true, true, true, false, false, true, false, false, false, true, false, false, false, false, false] rfl rfl (by kernel_rfl) (fun _ _ _ h => h) (Or.inl ⟨by rfl, ?_⟩) hHeld ?_ ?_
      rotate_left
      · rintro w' ⟨s0, s1, s2, s3, s4, s5⟩
        go_simp
        with_reducible rfl
      rotate_left
      · simp only [Act.put, List.setIfInBounds_toArray, List.set_cons_zero, List.set_cons_succ, i64_w, i32_w]
        rfl
      refine take_ (i := 7) (N := some 35) (v := ?_) (a' := ?_) #[true, true, true, true, true, true, true, true, false, true, false, false, false, true, false, false, false, false, false] rfl rfl (by kernel_rfl) (fun _ _ _ h => h) (Or.inl ⟨by rfl, ?_⟩) hHeld ?_ ?_
      rotate_left
      · rintro w' ⟨s0, s1, s2, s3, s4, s5⟩
        go_simp
        with_reducible rfl
      rotate_left
      · simp only [Act.put, List.setIfInBounds_toArray, List.set_cons_zero, List.set_cons_succ, i64_w, i32_w]
        rfl
      refine take_ (i := 8) (N := some 36) (v := ?_) (a' := ?_) #[true, true, true, true, true, true, true, true, true, true, false, false, false, true, false, false, false, false, false] rfl rfl (by kernel_rfl) (fun _ _ _ h => h) (Or.inl ⟨by rfl, ?_⟩) hHeld ?_ ?_
      rotate_left
      · rintro w' ⟨s0, s1, s2, s3, s4, s5⟩
        go_simp
        with_reducible rfl
      rotate_left
      · simp only [Act.put, List.setIfInBounds_toArray, List.set_cons_zero, List.set_cons_succ, i64_w, i32_w]
        rfl
      refine take_ (i := 10) (N := some 38) (v := ?_) (a' := ?_) #[true, true, true, true, true, true, true, true, true, true, true, false, false, true, false, false, false, false, false] rfl rfl (by kernel_rfl) (fun _ _ _ h => h) (Or.inl ⟨by rfl, ?_⟩) hHeld ?_ ?_
      rotate_left
      · rintro w' ⟨s0, s1, s2, s3, s4, s5⟩
        go_simp
        with_reducible rfl
      rotate_left
      · simp only [Act.put, List.setIfInBounds_toArray, List.set_cons_zero, List.set_cons_succ, i64_w, i32_w]
        rfl
      refine take_ (i := 11) (N := some 39) (v := ?_) (a' := ?_) #[true, true, true, true, true, true, true, true, true, true, true, true, false, true, false, false, false, false, false] rfl rfl (by kernel_rfl) (fun _ _ _ h => h) (Or.inl ⟨by rfl, ?_⟩) hHeld ?_ ?_
      rotate_left
      · rintro w' ⟨s0, s1, s2, s3, s4, s5⟩
        go_simp
        with_reducible rfl
      rotate_left
      · simp only [Act.put, List.setIfInBounds_toArray, List.set_cons_zero, List.set_cons_succ, i64_w, i32_w]
        rfl
      refine take_ (i := 12) (N := some 40) (v := ?_) (a' := ?_) #[true, true, true, true, true, true, true, true, true, true, true, true, true, true, false, false, false, false, false] rfl rfl (by kernel_rfl) (fun _ _ _ h => h) (Or.inl ⟨by rfl, ?_⟩) hHeld ?_ ?_
      rotate_left
      · rintro w' ⟨s0, s1, s2, s3, s4, s5⟩
        go_simp
        with_reducible rfl
      rotate_left
      · simp only [Act.put, List.setIfInBounds_toArray, List.set_cons_zero, List.set_cons_succ, i64_w, i32_w]
        rfl
      refine one_ (i := 14) (N := some 42) #[true, true, true, true, true, true, true, true, true, true, true, true, true, true, true, false, false, false, false] rfl rfl (by kernel_rfl) (by decide) (fun K hK => ?_)
      refine goes_ Try.func41 (by kernel_rfl) rfl #[.int .i64 n, .int .i64 v] (by rfl) rfl rfl (by (try simp only [List.map_toArray, List.map_cons, List.map_nil]); first | done | rfl) ?_
      with_reducible refine (Mul_calls n v _).mono ?_
      rintro e w' ⟨rfl, ⟨nd, rfl⟩⟩
      refine ⟨_, rfl, ?_⟩
      refine hK.out _ _ ⟨hHeld.1, hHeld.2.1, hHeld.2.2.1, hHeld.2.2.2.1, hHeld.2.2.2.2.1, hHeld.2.2.2.2.2⟩ (fun hHeld => ?_)
      clear hK K
      refine norm_ (a' := ?_) ?_ ?_
      rotate_left
      · show Act.put _ (some 42) _ = _
        simp only [Act.put, List.setIfInBounds_toArray, List.set_cons_zero, List.set_cons_succ, i64_w, i32_w]
        rfl
      refine pure_ (i := 15) (N := some 43) (v := ?_) (a' := ?_) #[true, true, true, true, true, true, true, true, true, true, true, true, true, true, true, true, false, false, false] rfl rfl (by kernel_rfl) (fun _ _ _ h => h) (Or.inl ⟨by rfl, ?_⟩) ?_ ?_
      rotate_left
      · intro w'
        go_simp
        with_reducible rfl
      rotate_left
      · simp only [Act.put, List.setIfInBounds_toArray, List.set_cons_zero, List.set_cons_succ, i64_w, i32_w]
        rfl
      refine one_ (i := 16) (N := some 44) #[true, true, true, true, true, true, true, true, true, true, true, true, true, true, true, true, true, false, false] rfl rfl (by kernel_rfl) (by decide) (fun K hK => ?_)
      refine goes_ Try.func40 (by kernel_rfl) rfl #[.int .i64 a, .int .i64 (wrap64 (-fmul n v))] (by rfl) rfl rfl (by (try simp only [List.map_toArray, List.map_cons, List.map_nil]); first | done | rfl) ?_
      with_reducible refine (Add_calls a (wrap64 (-fmul n v)) _).mono ?_
      rintro e w' ⟨rfl, hb⟩
      refine ⟨_, rfl, ?_⟩
      have hS2 := And.intro (pw_cell_below hb hHeld.1) (And.intro (pw_cell_below hb hHeld.2.1) (And.intro (pw_cell_below hb hHeld.2.2.1) (And.intro (pw_cell_below hb hHeld.2.2.2.1) (And.intro (pw_cell_below hb hHeld.2.2.2.2.1) (frozen_below hb hHeld.2.2.2.2.1 hHeld.2.2.2.2.2)))))
      have HB := Aside0.mk hb
      clear hb
      have hfz2 := hS2.2.2.2.2.2
      refine hK.out _ _ hS2 (fun hHeld => ?_)
      clear hK K
      refine norm_ (a' := ?_) ?_ ?_
      rotate_left
      · show Act.put _ (some 44) _ = _
        simp only [Act.put, List.setIfInBounds_toArray, List.set_cons_zero, List.set_cons_succ, i64_w, i32_w]
        rfl
      refine pure_ (i := 17) (N := some 45) (v := ?_) (a' := ?_) #[true, true, true, true, true, true, true, true, true, true, true, true, true, true, true, true, true, true, false] rfl rfl (by kernel_rfl) (fun _ _ _ h => h) (Or.inl ⟨by rfl, ?_⟩) ?_ ?_
      rotate_left
      · intro w'
        go_simp
        with_reducible rfl
      rotate_left
      · simp only [Act.put, List.setIfInBounds_toArray, List.set_cons_zero, List.set_cons_succ, i64_w, i32_w]
        rfl
      refine last_ (i := 18) (N := none) #[true, true, true, true, true, true, true, true, true, true, true, true, true, true, true, true, true, true, true] rfl rfl (by kernel_rfl) (by decide) (fun K hK => ?_)
      refine skip_ (w1 := ?_) (by rfl) rfl ?_ ?_
      rotate_left
      · go_simp
        rfl
      refine hK.out _ _ ?_
      clear hK K
      refine done_ (by kernel_rfl) ?_
      have hb : Below W.heap.size W w' := (below_drew (Below.refl _ W)).trans (((pw_below_drewN (Below.refl _ _) nd).trans HB.out))
      rw [wrap_neg] at *
      have hi2 := HI.out.quiet (B := w1.heap.size) (by omega) (Quiet.of_below hb)
      refine ⟨(KeepsOthers.of_grownBy (grown_of_below hb none) (fun _ _ e => by cases e)).trans (KeepsOthers.setCell _ _ _), ?_⟩
      have hjl : j < (part c k n y x).length := by rw [part_len]; omega
      have hnT : ∀ {cs : Array Value} {t : TypeId} {g : Nat}, w'.heap[g]? = some (.cells cs t (0, 0)) → g ≠ bi → (w'.setCell ⟨bi, j, none⟩ (.int .i64 (fadd a (-fmul n v)))).heap[g]? = some (.cells cs t (0, 0)) := fun h hne => blk_far h hne _
      have hbl : bi < w.heap.size := HbiL.out
      refine ⟨hnT hi2.tbox (by omega), hnT hi2.ibox (by omega), hnT hi2.nbox (by omega), hnT hi2.rbox (by omega), hnT hi2.cbox (by omega), hnT hi2.head (blk_ne hi2.head hi2.xrow (by decide)), ?_, hnT hi2.yrow (fun e => hne e.symm), grown_set hi2.grown _ _⟩
      have := rowO_set hi2.xrow hjl (fadd a (-fmul n v))
      rw [← HV.out, ← HA.out] at this ⊢
      rw [HJ.out] at this ⊢
      rw [part_step _ _ _ _ _ (by omega)] at this
      exact this
    case done =>
      intro W hi hD
      have HI := Aside0.mk hi
      have HD := Aside0.mk hD
      clear hi hD
      gi_wp2_with fail
      refine ⟨by simp, .inl ⟨_, _, rfl, run_takeDeferred HD.out, ?_⟩⟩
      have hq := Quiet.put (B := w.heap.size) (by omega) HD.out rfl (.deferred none)
      refine ⟨_, results_none rfl _ _ _, ⟨_, rfl⟩, grown_quiet HI.out.grown (Nat.le_refl _) hq, ?_⟩
      have := hq.cells HI.out.xrow
      rw [part_all c n y x HN.out HZ.out (by omega)] at this
      exact this
end Go.Proofs.Ytipdpfnjobfbpaa.H


/- field.Inverse. -/
namespace Go.Proofs.Ytipdpfnjobfbpaa.H
open Go.RowKit Go.Shelf Go.Proofs.YtipdpfnjobfbpaaW.PrintWords Go.Proofs.YtipdpfnjobfbpaaW.PrintLast Go.Proofs.YtipdpfnjobfbpaaW.PrintMore Go.Proofs.Ytipdpfnjobfbpaa.P SG.Lin
set_option linter.unusedVariables false
set_option linter.unusedSimpArgs false
theorem drawn_trans {a b c : World} (h : Drawn0 a b) (k : Drawn0 b c) : Drawn0 a c := by
  obtain ⟨m, rfl⟩ := k
  exact h.step m
set_option maxRecDepth 100000 in
set_option maxHeartbeats 2000000 in
theorem inv_zero (n : Int) (w : World) (h : n % 1073741789 = 0) : Calls Try.prog 81 #[.int .i64 n] w fun e w' => e = .returned (.tuple #[.int .i64 0, .int .i64 90]) ∧ Drawn0 w w' := by
  have hb : (n % 1073741789 == 0) = true := by simpa using h
  clear h
  generalize hm : n % 1073741789 = m at hb
  have HM := Aside0.mk hm
  clear hm
  go_enter Try.func81, Try.ntmps81
  go_wp2_with fail
  go_step3
  go_wp2_with fail
  refine (Mod_calls n _).mono ?_
  rw [HM.out]
  rintro e w' ⟨rfl, hd⟩
  go_wp2_with fail
  rw [Exit.noGoto_ret]
  go_ret2
  exact ⟨rfl, hd⟩
set_option maxRecDepth 100000 in
set_option maxHeartbeats 2000000 in
theorem inv_some (n : Int) (w : World) (h : n % 1073741789 ≠ 0) : Calls Try.prog 81 #[.int .i64 n] w fun e w' => e = .returned (.tuple #[.int .i64 (finv n), .int .i64 0]) ∧ Drawn0 w w' := by
  have hb : (n % 1073741789 == 0) = false := by simpa using h
  clear h
  generalize hm : n % 1073741789 = m at hb
  have HM := Aside0.mk hm
  clear hm
  go_enter Try.func81, Try.ntmps81
  go_wp2_with fail
  go_step3
  go_wp2_with fail
  refine (Mod_calls n _).mono ?_
  rw [HM.out]
  rintro e w' ⟨rfl, hd⟩
  have HD := Aside0.mk hd
  have HF := Aside0.mk (show pw 40 1073741787 n 1 = finv n from rfl)
  clear hd
  go_wp2_with fail
  go_step3
  go_wp2_with fail
  go_loopw [2, 4, 5] (fun x l s wr => ∃ (f left : Nat) (xi si : Int), left < 2 ^ f ∧ left ≤ 1073741787 ∧ x = .int .i64 xi ∧ l = .int .i64 left ∧ s = .int .i64 si ∧ Aside0 (pw f left si xi = finv n) ∧ Aside0 (Drawn0 w wr)) (fun _ l _ _ => (intOf l).toNat)
  case atStart => exact ⟨40, 1073741787, 1, n, by decide, by omega, rfl, rfl, rfl, HF, HD⟩
  case round =>
    clear HF HD
    obtain ⟨f, left, xi, si, hf, hl, rfl, rfl, rfl, HF, HD⟩ := hrel
    by_cases h0 : left = 0
    · have HZ := Aside0.mk (show xi = finv n by
        rw [← HF.out, h0]; cases f <;> simp [pw])
      subst h0
      clear hf
      go_wp2_with fail
      rw [Exit.noGoto_ret]
      go_ret2
      exact ⟨by rw [HZ.out]; rfl, HD.out⟩
    · obtain ⟨f, rfl⟩ : ∃ g, f = g + 1 := ⟨f - 1, by
        rcases f with _ | f
        · simp at hf; omega
        · omega⟩
      have HL := Aside0.mk (show left / 2 < 2 ^ f by rw [Nat.pow_succ] at hf; omega)
      have HS := Aside0.mk (show pw f (left / 2) (fmul si si) (if left % 2 = 1 then fmul xi si else xi) = finv n by rw [← HF.out]; simp only [pw]; rw [if_neg h0])
      have hb0 : ((left : Int) == 0) = false := by simpa using h0
      have hlt := Aside0.mk (show left / 2 < left by omega)
      clear hf HF h0
      by_cases h1 : left % 2 = 1
      · have hr : ((left : Int) % 2 == 1) = true := by rw [beq_iff_eq]; omega
        rw [if_pos h1] at HS
        clear h1
        go_wp2_with fail
        refine (Mul_calls xi si _).mono ?_
        rintro e w2 ⟨rfl, hd⟩
        have HD2 := Aside0.mk (drawn_trans HD.out hd)
        clear hd
        go_wp2_with fail
        refine (Mul_calls si si _).mono ?_
        rintro e w3 ⟨rfl, hd⟩
        have HD3 := Aside0.mk (drawn_trans HD2.out hd)
        clear hd
        go_wp2_with fail
        go_roundw
        case rel => exact ⟨f, left / 2, _, _, HL.out, by omega, rfl, by go_num, rfl, HS, HD3⟩
        case measure => have := hlt.out; simp [intOf]; omega
      · have hr : ((left : Int) % 2 == 1) = false := by rw [beq_eq_false_iff_ne]; omega
        rw [if_neg h1] at HS
        clear h1
        go_wp2_with fail
        refine (Mul_calls si si _).mono ?_
        rintro e w3 ⟨rfl, hd⟩
        have HD3 := Aside0.mk (drawn_trans HD.out hd)
        clear hd
        go_wp2_with fail
        go_roundw
        case rel => exact ⟨f, left / 2, _, _, HL.out, by omega, rfl, by go_num, rfl, HS, HD3⟩
        case measure => have := hlt.out; simp [intOf]; omega
end Go.Proofs.Ytipdpfnjobfbpaa.H


/- A table of rows in memory: each row in a block of its own. -/
namespace Go.Proofs.Ytipdpfnjobfbpaa.H
open Go.RowKit Go.Shelf Go.Proofs.YtipdpfnjobfbpaaW.PrintWords Go.Proofs.YtipdpfnjobfbpaaW.PrintLast Go.Proofs.YtipdpfnjobfbpaaW.PrintMore Go.Proofs.Ytipdpfnjobfbpaa.P SG.Lin
set_option linter.unusedVariables false
set_option linter.unusedSimpArgs false

/-- Table T lies in block tb (its heads) and in the blocks b i, all of them between n0 and n1. -/
structure OT (W : World) (n0 n1 tb : Nat) (hs : Array Value) (b cp : Nat → Nat) (px : Nat → List Value) (T : Tab) (L : Nat) : Prop where
  head : W.heap[tb]? = some (.cells hs 31 (0, 0))
  at_ : ∀ i, i < T.length → hs[i]? = some (.slice (some ⟨b i, 0, none⟩) L (cp i))
  row : ∀ i, i < T.length → W.heap[b i]? = some (rowO (T.getD i []) (px i))
  cap : ∀ i, i < T.length → L ≤ cp i
  wide : ∀ i, i < T.length → (T.getD i []).length = L
  inj : ∀ i k, i < T.length → k < T.length → b i = b k → i = k
  tbb : n0 ≤ tb ∧ tb < n1
  bb : ∀ i, i < T.length → n0 ≤ b i ∧ b i < n1
section
variable {W W' : World} {n0 n1 tb : Nat} {hs : Array Value} {b cp : Nat → Nat} {px : Nat → List Value} {T : Tab} {L B : Nat}
theorem OT.quiet (h : OT W n0 n1 tb hs b cp px T L) (hq : Quiet B W W') : OT W' n0 n1 tb hs b cp px T L :=
  ⟨hq.cells h.head, h.at_, fun i hi => hq.cells (h.row i hi), h.cap, h.wide, h.inj, h.tbb, h.bb⟩
theorem OT.below (h : OT W n0 n1 tb hs b cp px T L) (hb : Below W.heap.size W W') : OT W' n0 n1 tb hs b cp px T L := h.quiet (B := 0) (Quiet.of_below hb)
theorem OT.cell (h : OT W n0 n1 tb hs b cp px T L) {i : Nat} (hi : i < T.length) : W.cell? ⟨tb, i, none⟩ = some (.slice (some ⟨b i, 0, none⟩) L (cp i)) := by
  rw [blk_cell h.head]; exact h.at_ i hi
theorem OT.cell2 (h : OT W n0 n1 tb hs b cp px T L) {i j : Nat} (hi : i < T.length) (hj : j < L) : W.cell? ⟨b i, j, none⟩ = some (.int .i64 (at2 T i j)) :=
  rowO_cell (h.row i hi) (by rw [h.wide i hi]; exact hj)
theorem OT.ne (h : OT W n0 n1 tb hs b cp px T L) {i : Nat} (hi : i < T.length) : tb ≠ b i := blk_ne h.head (h.row i hi) (by decide)
theorem OT.far (h : OT W n0 n1 tb hs b cp px T L) {p : Addr} (hp : n1 ≤ p.block) (v : Value) : OT (W.setCell p v) n0 n1 tb hs b cp px T L :=
  ⟨blk_far h.head (by have := h.tbb; omega) v, h.at_, fun i hi => blk_far (h.row i hi) (by have := h.bb i hi; omega) v, h.cap, h.wide, h.inj, h.tbb, h.bb⟩
/-- Another row has been written whose block lies at or beyond n1 (or none). -/
theorem OT.grown (h : OT W n0 n1 tb hs b cp px T L) {row : Option Nat} (hg : W.grownBy W' row) (hr : ∀ k, row = some k → n1 ≤ k) : OT W' n0 n1 tb hs b cp px T L :=
  ⟨blk_grown h.head hg (fun e => by have := hr _ e.symm; have := h.tbb; omega), h.at_, fun i hi => blk_grown (h.row i hi) hg (fun e => by have := hr _ e.symm; have := h.bb i hi; omega), h.cap, h.wide, h.inj, h.tbb, h.bb⟩
/-- Row i has been written anew. -/
theorem OT.put (h : OT W n0 n1 tb hs b cp px T L) {i : Nat} (hi : i < T.length) {x : List Int} (hx : x.length = L) (hg : W.grownBy W' (some (b i))) (hr : W'.heap[b i]? = some (rowO x (px i))) : OT W' n0 n1 tb hs b cp px (T.set i x) L := by
  refine ⟨blk_grown h.head hg (fun e => h.ne hi (by simpa using e)), ?_, ?_, ?_, ?_, ?_, h.tbb, ?_⟩ <;> rw [List.length_set]
  · exact h.at_
  · intro k hk
    rw [getD_set' _ _ _ _ _ hi]
    by_cases e : i = k
    · subst e; rw [if_pos rfl]; exact hr
    · rw [if_neg e]; exact blk_grown (h.row k hk) hg (fun e2 => e (h.inj i k hi hk (by simpa using e2.symm)))
  · exact h.cap
  · intro k hk
    rw [getD_set' _ _ _ _ _ hi]
    by_cases e : i = k
    · rw [if_pos e]; exact hx
    · rw [if_neg e]; exact h.wide k hk
  · exact h.inj
  · exact h.bb
/-- Two heads have been exchanged. -/
def exch (b : Nat → Nat) (r k : Nat) (i : Nat) : Nat := if i = r then b k else if i = k then b r else b i
def exchp (b : Nat → List Value) (r k : Nat) (i : Nat) : List Value := if i = r then b k else if i = k then b r else b i
theorem OT.swap (h : OT W n0 n1 tb hs b cp px T L) {r k : Nat} (hr : r < T.length) (hk : k < T.length) :
    OT ((W.setCell ⟨tb, r, none⟩ (.slice (some ⟨b k, 0, none⟩) L (cp k))).setCell ⟨tb, k, none⟩ (.slice (some ⟨b r, 0, none⟩) L (cp r))) n0 n1 tb
      ((hs.setIfInBounds r (.slice (some ⟨b k, 0, none⟩) L (cp k))).setIfInBounds k (.slice (some ⟨b r, 0, none⟩) L (cp r))) (exch b r k) (exch cp r k) (exchp px r k) (swp T r k) L := by
  have hlr : r < hs.size := (Array.getElem?_eq_some_iff.1 (h.at_ r hr)).1
  have hlk : k < hs.size := (Array.getElem?_eq_some_iff.1 (h.at_ k hk)).1
  have fr : ∀ i, i < T.length → (if i = r then k else if i = k then r else i) < T.length := fun i hi => by split <;> first | exact hk | (split <;> first | exact hr | exact hi)
  have fb : ∀ i, exch b r k i = b (if i = r then k else if i = k then r else i) := fun i => by unfold exch; split <;> first | rfl | (split <;> rfl)
  have fc : ∀ i, exch cp r k i = cp (if i = r then k else if i = k then r else i) := fun i => by unfold exch; split <;> first | rfl | (split <;> rfl)
  have fp : ∀ i, exchp px r k i = px (if i = r then k else if i = k then r else i) := fun i => by unfold exchp; split <;> first | rfl | (split <;> rfl)
  have ft : ∀ i, (swp T r k).getD i [] = T.getD (if i = r then k else if i = k then r else i) [] := fun i => by rw [swp_at T hr hk]; split <;> first | rfl | (split <;> rfl)
  refine ⟨blk_set (blk_set h.head r _) k _, ?_, ?_, ?_, ?_, ?_, h.tbb, ?_⟩ <;> rw [swp_len]
  · intro i hi
    rw [fb, fc, Array.getElem?_setIfInBounds, Array.getElem?_setIfInBounds, Array.size_setIfInBounds]
    by_cases e1 : k = i
    · subst e1
      rw [if_pos rfl, if_pos hlk]
      by_cases e2 : k = r
      · subst e2; rw [if_pos rfl]
      · rw [if_neg e2, if_pos rfl]
    · rw [if_neg e1]
      by_cases e2 : r = i
      · subst e2; rw [if_pos rfl, if_pos hlr, if_pos rfl]
      · rw [if_neg e2, if_neg (fun e => e2 e.symm), if_neg (fun e => e1 e.symm)]; exact h.at_ i hi
  · intro i hi
    have hne := h.ne (fr i hi)
    rw [fb, fp, ft]
    exact blk_far (blk_far (h.row _ (fr i hi)) (fun e => hne (by simpa using e.symm)) _) (fun e => hne (by simpa using e.symm)) _
  · intro i hi; rw [fc]; exact h.cap _ (fr i hi)
  · intro i hi; rw [ft]; exact h.wide _ (fr i hi)
  · intro i j hi hj e
    rw [fb, fb] at e
    have := h.inj _ _ (fr i hi) (fr j hj) e
    split at this <;> split at this <;> (try split at this) <;> (try split at this) <;> omega
  · intro i hi; rw [fb]; exact h.bb _ (fr i hi)
end
end Go.Proofs.Ytipdpfnjobfbpaa.H


