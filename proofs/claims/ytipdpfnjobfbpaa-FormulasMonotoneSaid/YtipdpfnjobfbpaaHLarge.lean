/- formulas.large and formulas.Check: what they tell of every gate. -/
import Derived.Test.YtipdpfnjobfbpaaHRight
namespace Go.Proofs.Ytipdpfnjobfbpaa.H
open Go.RowKit Go.Shelf Go.Proofs.YtipdpfnjobfbpaaW.PrintWords Go.Proofs.YtipdpfnjobfbpaaW.PrintLast Go.Proofs.YtipdpfnjobfbpaaW.PrintMore Go.Proofs.Ytipdpfnjobfbpaa.P
set_option linter.unusedVariables false
set_option linter.unusedSimpArgs false

/-- The counter behind the first j elements. -/
def lvAt (f : S24 → Int → Bool × Int) (zs : List S24) (lv : Int) : Nat → Int
  | 0 => lv
  | j + 1 => (f (zs.getD j z24) (lvAt f zs lv j)).2
def hitAt (f : S24 → Int → Bool × Int) (zs : List S24) (lv : Int) (j : Nat) : Bool := (f (zs.getD j z24) (lvAt f zs lv j)).1
def walkL (f : S24 → Int → Bool × Int) (zs : List S24) (lv : Int) : Bool × Int :=
  (decide (firstOf (hitAt f zs lv) zs.length < zs.length), lvAt f zs lv (min (firstOf (hitAt f zs lv) zs.length + 1) zs.length))
/-- n: 17 less the depth. -/
def walkN : Nat → S24 → Int → Bool × Int
  | 0, _, lv => (true, lv)
  | n + 1, T, lv => if T.f2.length = 0 then (decide (lv - 1 < 0), lv - 1) else walkL (walkN n) T.f2 lv

theorem lvAt_nonneg {f : S24 → Int → Bool × Int} {zs : List S24} {lv M : Int} (hf : ∀ T lv, 0 ≤ lv → lv ≤ M → (f T lv).1 = false → 0 ≤ (f T lv).2) (hf2 : ∀ T lv, 0 ≤ lv → lv ≤ M → (f T lv).2 ≤ M)
    (h0 : 0 ≤ lv) (h1 : lv ≤ M) (j : Nat) (hj : ∀ i, i < j → hitAt f zs lv i = false) : 0 ≤ lvAt f zs lv j ∧ lvAt f zs lv j ≤ M := by
  induction j with
  | zero => exact ⟨h0, h1⟩
  | succ j ih =>
    have := ih (fun i hi => hj i (by omega))
    exact ⟨hf _ _ this.1 this.2 (hj j (by omega)), hf2 _ _ this.1 this.2⟩
theorem walkN_bounds (M : Int) : ∀ (n : Nat) (T : S24) (lv : Int), 0 ≤ lv → lv ≤ M → ((walkN n T lv).1 = false → 0 ≤ (walkN n T lv).2) ∧ (walkN n T lv).2 ≤ M := by
  intro n
  induction n with
  | zero => intro T lv h0 h1; exact ⟨fun h => by simp [walkN] at h, h1⟩
  | succ n ih =>
    intro T lv h0 h1
    simp only [walkN]
    split
    · exact ⟨fun h => by simp at h; show 0 ≤ lv - 1; omega, by show lv - 1 ≤ M; omega⟩
    · simp only [walkL, decide_eq_false_iff_not]
      refine ⟨fun h => ?_, ?_⟩
      · have hle := firstOf_le (hitAt (walkN n) T.f2 lv) T.f2.length
        have e : firstOf (hitAt (walkN n) T.f2 lv) T.f2.length = T.f2.length := by omega
        rw [e, Nat.min_eq_right (by omega)]
        exact (lvAt_nonneg (M := M) (fun T lv a b c => (ih T lv a b).1 c) (fun T lv a b => (ih T lv a b).2) h0 h1 _ (fun i hi => firstOf_before (n := T.f2.length) (by omega))).1
      · rcases Nat.lt_or_ge (firstOf (hitAt (walkN n) T.f2 lv) T.f2.length) T.f2.length with h | h
        · rw [Nat.min_eq_left (by omega)]
          have := lvAt_nonneg (M := M) (zs := T.f2) (lv := lv) (fun T lv a b c => (ih T lv a b).1 c) (fun T lv a b => (ih T lv a b).2) h0 h1 (firstOf (hitAt (walkN n) T.f2 lv) T.f2.length) (fun i hi => firstOf_before hi)
          exact (ih _ _ this.1 this.2).2
        · rw [Nat.min_eq_right (by omega)]
          exact (lvAt_nonneg (M := M) (fun T lv a b c => (ih T lv a b).1 c) (fun T lv a b => (ih T lv a b).2) h0 h1 _ (fun i hi => firstOf_before (n := T.f2.length) (by omega))).2

/-- What the closures of 'large' find: the counter, and the closure itself. -/
structure LargeInv (w0 : World) (bL bW : Nat) (lv : Int) (W : World) : Prop where
  below : Below w0.heap.size w0 W
  cnt : W.heap[bL]? = some (.cells #[.int .i64 lv] 3 (0, 0))
  self : W.heap[bW]? = some (.cells #[.func (.func 107) #[] #[.pointer (some ⟨bL, 0, none⟩), .pointer (some ⟨bW, 0, none⟩)]] 110 (0, 0))
theorem large1_enters : ∀ args w, (callFunc 107 args).run Try.prog w = .ok (.enter 107 args) w := enters_of Try.func107 (by kernel_rfl) rfl
theorem large11_enters : ∀ args w, (callFunc 109 args).run Try.prog w = .ok (.enter 109 args) w := enters_of Try.func109 (by kernel_rfl) rfl

/-- What a call of 'walk' does at a depth. -/
def WalkSays (w0 : World) (bL bW : Nat) (n : Nat) : Prop :=
  ∀ (T : S24) (A2 : Option Addr) (c2 : Nat) (lv : Int) (W : World), RdG w0 T A2 c2 → 0 ≤ lv → lv ≤ 256 → LargeInv w0 bL bW lv W →
    Calls Try.prog 107 #[gv T A2 c2, .int .i64 (17 - (n : Int)), .pointer (some ⟨bL, 0, none⟩), .pointer (some ⟨bW, 0, none⟩)] W fun e W' => e = .returned (.bool (walkN n T lv).1) ∧ LargeInv w0 bL bW (walkN n T lv).2 W' ∧ W.grownBy W' (some bL)
theorem LargeInv.alloc {w0 : World} {bL bW : Nat} {lv : Int} {W : World} (h : LargeInv w0 bL bW lv W) (o : Obj) : LargeInv w0 bL bW lv (W.alloc o) :=
  ⟨below_alloc h.below o, blk_alloc h.cnt o, blk_alloc h.self o⟩
set_option maxRecDepth 100000 in
set_option maxHeartbeats 2000000 in
theorem large11_of (w0 : World) (bL bW bD n : Nat) (hn : n < 17) (hS : WalkSays w0 bL bW n) (T : S24) (A2 : Option Addr) (c2 : Nat) (lv : Int) (W : World)
    (hR : RdG w0 T A2 c2) (h0 : 0 ≤ lv) (h1 : lv ≤ 256) (hI : LargeInv w0 bL bW lv W) (hD : W.heap[bD]? = some (.cells #[.int .i64 (16 - (n : Int))] 3 (0, 0))) :
    Calls Try.prog 109 #[gv T A2 c2, .pointer (some ⟨bW, 0, none⟩), .pointer (some ⟨bD, 0, none⟩)] W fun e W' => e = .returned (.bool (walkN n T lv).1) ∧ LargeInv w0 bL bW (walkN n T lv).2 W' ∧ W.grownBy W' (some bL) := by
  have hc := fun o => hS T A2 c2 lv (W.alloc o) hR h0 h1 (hI.alloc o)
  have HC := Aside0.mk hc
  have hcW := fun o => (blk_cell (blk_alloc hI.self o) 0).trans rfl
  have hcD := fun o => (blk_cell (blk_alloc hD o) 0).trans rfl
  clear hc hS hI hD
  have hu24 := Try.underlying24
  have eg := large1_enters
  unfold gv at *
  generalize walkN n T lv = res at *
  have hn1 : (0 : Int) ≤ n := by omega
  have hn2 : (n : Int) ≤ 16 := by omega
  go_enter Try.func109, Try.ntmps109
  go_wp2_with fail
  have HC1 := HC.out (.cells #[.int .i64 T.f0, .int .i64 T.f1, .slice A2 T.f2.length c2] 24)
  rw [show (17 : Int) - n = 16 - n + 1 from by omega] at HC1
  refine HC1.mono ?_
  rintro e w' ⟨rfl, hb0⟩
  have HB' := Aside0.mk hb0
  clear hb0 HC1
  go_wp2_with fail
  go_ret
  exact ⟨rfl, HB'.out.1, (World.grownBy_alloc _ _ _).trans HB'.out.2⟩

theorem LargeInv.set {w0 : World} {bL bW : Nat} {lv : Int} {W : World} (h : LargeInv w0 bL bW lv W) (hbL : w0.heap.size ≤ bL) (hne : bW ≠ bL) (x : Int) : LargeInv w0 bL bW x (W.setCell ⟨bL, 0, none⟩ (.int .i64 x)) :=
  ⟨below_set h.below hbL, by have := blk_set h.cnt 0 (.int .i64 x); simpa using this, blk_far h.self (p := ⟨bL, 0, none⟩) hne _⟩

set_option maxRecDepth 100000 in
set_option maxHeartbeats 2000000 in
theorem walk_says (w0 : World) (bL bW : Nat) (hbL : w0.heap.size ≤ bL) (hne : bW ≠ bL) : ∀ n, n < 17 → WalkSays w0 bL bW n := by
  intro n
  induction n with
  | zero =>
    intro _ T A2 c2 lv W hR h0 h1 hI
    have HI := fun o o' => Aside0.mk ((hI.alloc o).alloc o')
    clear hI hR
    unfold gv
    go_enter Try.func107, Try.ntmps107
    go_wp2_with fail
    go_ret
    exact ⟨rfl, (HI _ _).out, (World.grownBy_alloc _ _ _).trans (World.grownBy_alloc _ _ _)⟩
  | succ n ih =>
    intro hn T A2 c2 lv W hR h0 h1 hI
    have HS := Aside0.mk (ih (by omega))
    clear ih
    have hn1 : (0 : Int) ≤ n := by omega
    have hn2 : (n : Int) < 16 := by omega
    have HI := fun o o' => Aside0.mk ((hI.alloc o).alloc o')
    have hu24 := Try.underlying24
    have hmf := hmf_
    have hnp : ((n + 1 : Nat) : Int) = n + 1 := by omega
    rw [hnp]
    clear hnp
    by_cases hl : T.f2.length = 0
    · have hl1 : ((T.f2.length : Int) == 0) = true := by simp [hl]
      have hw : walkN (n + 1) T lv = (decide (lv - 1 < 0), lv - 1) := by simp only [walkN]; rw [if_pos hl]
      rw [hw]
      have HI2 := fun o o' => Aside0.mk ((HI o o').out.set hbL hne (lv - 1))
      have hc1 := fun o o' => (blk_cell (HI o o').out.cnt 0).trans rfl
      have hc2 := fun o o' => (blk_frozen (HI o o').out.cnt 0)
      have hc3 := fun o o' => (blk_cell (HI2 o o').out.cnt 0).trans rfl
      clear hI hR hw hl HI
      unfold gv
      go_enter Try.func107, Try.ntmps107
      go_wp2_with fail
      go_ret
      exact ⟨rfl, (HI2 _ _).out, ((World.grownBy_alloc _ _ _).trans (World.grownBy_alloc _ _ _)).trans (grownBy_setCell' _ _ _)⟩
    · have hl1 : ((T.f2.length : Int) == 0) = false := by
        rw [beq_eq_false_iff_ne]; omega
      have hw : walkN (n + 1) T lv = walkL (walkN n) T.f2 lv := by simp only [walkN]; rw [if_neg hl]
      rw [hw]
      have hle := hR.le
      rw [show (17 : Int) - (n + 1) = 16 - n from by omega]
      unfold gv
      go_enter Try.func107, Try.ntmps107
      go_wp2_with fail
      have hbD := blk_new (W.alloc (Obj.cells #[Value.int IntKind.i64 T.f0, Value.int IntKind.i64 T.f1, Value.slice A2 T.f2.length c2] 24)) (Obj.cells #[Value.int IntKind.i64 (16 - ↑n)] 3)
      rw [World.size_alloc] at hbD
      have HB0 := below_alloc (below_alloc hI.below (Obj.cells #[Value.int IntKind.i64 T.f0, Value.int IntKind.i64 T.f1, Value.slice A2 T.f2.length c2] 24)) (Obj.cells #[Value.int IntKind.i64 (16 - ↑n)] 3)
      have hsz := hI.below.size
      refine (ContainsFuncG (fun j W' => LargeInv w0 bL bW (lvAt (walkN n) T.f2 lv j) W' ∧ W'.heap[W.heap.size + 1]? = some (.cells #[.int .i64 (16 - (n : Int))] 3 (0, 0)) ∧ W.grownBy W' (some bL)) 109 _ large11_enters A2 c2 T.f2 w0 _ (hitAt (walkN n) T.f2 lv)
        hR.C hR.C.2.1 ⟨(hI.alloc _).alloc _, hbD, (World.grownBy_alloc _ _ _).trans (World.grownBy_alloc _ _ _)⟩ (fun j W' h => h.1.below) ?_).mono ?_
      · rintro j W' hj hb ⟨hI', hD', hG'⟩ A3 c3 hR3
        have hbd := lvAt_nonneg (M := 256) (zs := T.f2) (lv := lv) (fun T lv a b c => (walkN_bounds 256 n T lv a b).1 c) (fun T lv a b => (walkN_bounds 256 n T lv a b).2) h0 h1 j hb
        have hbLt := blk_lt hI.cnt
        refine (large11_of w0 bL bW (W.heap.size + 1) n (by omega) HS.out _ A3 c3 _ W' hR3 hbd.1 hbd.2 hI' hD').mono ?_
        rintro e W2 ⟨rfl, hI2, hG2⟩
        exact ⟨rfl, hI2, blk_grown hD' hG2 (by simp; omega), hG'.trans hG2⟩
      · rintro e w' ⟨rfl, hb0⟩
        have HB' := Aside0.mk hb0
        clear hb0
        go_wp2_with fail
        go_ret
        exact ⟨rfl, HB'.out.1, HB'.out.2.2⟩

def largeB (T : S24) : Bool := (walkN 16 T 256).1
set_option maxRecDepth 100000 in
set_option maxHeartbeats 2000000 in
/-- **formulas.large**, at every gate. -/
theorem large_calls (T : S24) (A2 : Option Addr) (c2 : Nat) (w : World) (hR : RdG w T A2 c2) :
    Calls Try.prog 67 #[gv T A2 c2] w fun e W' => e = .returned (.bool (largeB T)) ∧ Below w.heap.size w W' := by
  have hmf := hmf_
  have hu24 := Try.underlying24
  have eg := large1_enters
  unfold gv
  go_enter Try.func67, Try.ntmps67
  go_wp2_with fail
  obtain ⟨W, hW⟩ : ∃ W, (((w.alloc (Obj.cells #[Value.int IntKind.i64 T.f0, Value.int IntKind.i64 T.f1, Value.slice A2 T.f2.length c2] 24)).alloc (Obj.cells #[Value.int IntKind.i64 256] 3)).alloc (Obj.cells #[Value.func (Fn.func 107) #[] #[Value.pointer (some { block := w.heap.size + 1, off := 0 }), Value.pointer (some { block := w.heap.size + 1 + 1, off := 0 })]] 110)) = W := ⟨_, rfl⟩
  have hI : LargeInv w (w.heap.size + 1) (w.heap.size + 1 + 1) 256 W := by
    rw [← hW]
    refine ⟨below_alloc (below_alloc (below_alloc (Below.refl _ _) _) _) _, ?_, ?_⟩
    · have := blk_new (w.alloc (Obj.cells #[Value.int IntKind.i64 T.f0, Value.int IntKind.i64 T.f1, Value.slice A2 T.f2.length c2] 24)) (Obj.cells #[Value.int IntKind.i64 256] 3)
      rw [World.size_alloc] at this
      exact blk_alloc this _
    · have := blk_new ((w.alloc (Obj.cells #[Value.int IntKind.i64 T.f0, Value.int IntKind.i64 T.f1, Value.slice A2 T.f2.length c2] 24)).alloc (Obj.cells #[Value.int IntKind.i64 256] 3)) (Obj.cells #[Value.func (Fn.func 107) #[] #[Value.pointer (some { block := w.heap.size + 1, off := 0 }), Value.pointer (some { block := w.heap.size + 1 + 1, off := 0 })]] 110)
      rw [World.size_alloc, World.size_alloc] at this
      exact this
  rw [hW]
  refine (walk_says w (w.heap.size + 1) (w.heap.size + 1 + 1) (by omega) (by omega) 16 (by omega) T A2 c2 256 W hR (by omega) (by omega) hI).mono ?_
  rintro e W' ⟨rfl, hI', hG'⟩
  have HB' := Aside0.mk hI'.below
  clear hI hI' hW hG'
  go_wp2_with fail
  go_ret
  exact ⟨rfl, HB'.out⟩

/-- formulas.Check's answer. -/
def checkG (T : S24) : Int := if largeB T then 2 else if rightB T then 0 else 220
set_option maxRecDepth 100000 in
set_option maxHeartbeats 2000000 in
/-- **formulas.Check**, at every gate. -/
theorem check_calls (T : S24) (A2 : Option Addr) (c2 : Nat) (w : World) (hR : RdG w T A2 c2) :
    Calls Try.prog 25 #[gv T A2 c2] w fun e W' => e = .returned (.int .i64 (checkG T)) ∧ Below w.heap.size w W' := by
  have hu24 := Try.underlying24
  have hnot := hnot_
  have HR := Aside0.mk hR
  have HL := fun W (hW : Below w.heap.size w W) => large_calls T A2 c2 W (hR.below hW)
  have HT := fun W (hW : Below w.heap.size w W) => right_calls T A2 c2 W (hR.below hW)
  have HL := Aside0.mk HL
  have HT := Aside0.mk HT
  clear hR
  unfold checkG
  generalize largeB T = x1 at *
  generalize rightB T = x2 at *
  unfold gv at *
  have hb1 := below_alloc (Below.refl w.heap.size w) (Obj.cells #[Value.int IntKind.i64 T.f0, Value.int IntKind.i64 T.f1, Value.slice A2 T.f2.length c2] 24)
  have HB1 := Aside0.mk hb1
  clear hb1
  cases x1
  · go_enter Try.func25, Try.ntmps25
    go_wp2_with fail
    refine (HL.out _ HB1.out).mono ?_
    rintro e w1 ⟨rfl, hb2⟩
    have hk := blk_below (blk_new w (Obj.cells #[Value.int IntKind.i64 T.f0, Value.int IntKind.i64 T.f1, Value.slice A2 T.f2.length c2] 24)) hb2
    have HB2 := Aside0.mk (below_call HB1.out hb2)
    clear hb2
    have k0 := (blk_cell hk 0).trans rfl
    have k1 := (blk_cell hk 1).trans rfl
    have k2 := (blk_cell hk 2).trans rfl
    clear hk
    go_wp2_with fail
    refine (HT.out _ HB2.out).mono ?_
    rintro e w2 ⟨rfl, hb2⟩
    have HB3 := Aside0.mk (below_call HB2.out hb2)
    clear hb2 k0 k1 k2
    cases x2
    all_goals
      go_wp2_with fail
      go_ret
      exact ⟨rfl, HB3.out⟩
  · go_enter Try.func25, Try.ntmps25
    go_wp2_with fail
    refine (HL.out _ HB1.out).mono ?_
    rintro e w1 ⟨rfl, hb2⟩
    have HB2 := Aside0.mk (below_call HB1.out hb2)
    clear hb2
    go_wp2_with fail
    go_ret
    exact ⟨rfl, HB2.out⟩
end Go.Proofs.Ytipdpfnjobfbpaa.H
