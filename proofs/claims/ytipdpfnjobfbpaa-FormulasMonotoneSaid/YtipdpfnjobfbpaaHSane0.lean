/- signatorylaw22.sane: the chapter's examples, once for all worlds. -/
import Derived.Test.YtipdpfnjobfbpaaHG1
import Derived.Test.YtipdpfnjobfbpaaPF63
namespace Go.Proofs.Ytipdpfnjobfbpaa.H
open Go.RowKit Go.Shelf Go.Maps Go.Proofs.YtipdpfnjobfbpaaW.PrintWords Go.Proofs.YtipdpfnjobfbpaaW.PrintLast Go.Proofs.YtipdpfnjobfbpaaW.PrintMore Go.Proofs.Ytipdpfnjobfbpaa.P
set_option linter.unusedVariables false
set_option linter.unusedSimpArgs false

/-- A row of gates, out of its block's cells. -/
theorem C_of_blk {w : World} {g : Nat} {arr : Array Value} {t : TypeId} (h : w.heap[g]? = some (.cells arr t (0, 0))) (xs : List S24) (css : List (List Value)) (hl : css.length = xs.length) (hm : xs.length ≤ 9223372036854775807)
    (hK : ∀ j x cs, xs[j]? = some x → css[j]? = some cs → k24.K w x cs ∧ ∀ i u, cs[i]? = some u → arr[j * 3 + i]? = some u) : k24.C w (some ⟨g, 0, none⟩) xs.length xs := by
  refine ⟨rfl, hm, fun _ => ⟨_, rfl, fun j x hx => ?_⟩⟩
  have hj : j < css.length := by rw [hl]; exact (List.getElem?_eq_some_iff.1 hx).1
  obtain ⟨h1, h2⟩ := hK j x css[j] hx (List.getElem?_eq_getElem hj)
  refine ⟨css[j], k24.K_len h1, h1, fun i u hu => ?_⟩
  rw [show k24.sz = 3 from rfl, add_plain, blk_cell h]
  exact h2 i u hu
def leafS (p : Int) : S24 := ⟨p, 0, []⟩
theorem leaf_K (w : World) (p : Int) : k24.K w (leafS p) [.int .i64 p, .int .i64 0, .slice none 0 0] :=
  k24_mk w (leafS p) (A2 := none) (c2 := 0) (Nat.le_refl _) ⟨rfl, by simp [leafS], fun h => by simp [leafS] at h⟩
theorem leaf_Rd (w : World) (p : Int) : RdG w (leafS p) none 0 := ⟨Nat.le_refl _, ⟨rfl, by simp [leafS], fun h => by simp [leafS] at h⟩⟩

set_option maxRecDepth 100000 in
set_option maxHeartbeats 2000000 in
theorem one_calls (p : Int) (w : World) : Calls Try.prog 62 #[.int .i64 p] w fun e w' => e = .returned (.agg #[.int .i64 p, .int .i64 0, .slice none 0 0]) ∧ Below w.heap.size w w' := by
  have hu24 := Try.underlying24
  go_enter Try.func62, Try.ntmps62
  go_wp2_with fail
  refine bodyPost_ret (v := .agg #[.int .i64 p, .int .i64 0, .slice none 0 0]) ?_ rfl ⟨rfl, ?_⟩
  · simp [results, Try.f62, go_sem]
  · repeat (first | exact Below.refl _ _ | apply below_alloc | apply below_set _ (by simp))
set_option maxRecDepth 100000 in
set_option maxHeartbeats 2000000 in
theorem of_calls (n : Int) (A : Option Addr) (l c : Nat) (w : World) : Calls Try.prog 61 #[.int .i64 n, .slice A l c] w fun e w' => e = .returned (.agg #[.int .i64 (-1), .int .i64 n, .slice A l c]) ∧ Below w.heap.size w w' := by
  have hu24 := Try.underlying24
  go_enter Try.func61, Try.ntmps61
  go_wp2_with fail
  refine bodyPost_ret (v := .agg #[.int .i64 (-1), .int .i64 n, .slice A l c]) ?_ rfl ⟨rfl, ?_⟩
  · simp [results, Try.f61, go_sem]
  · repeat (first | exact Below.refl _ _ | apply below_alloc | apply below_set _ (by simp))


def twiceS : S24 := ⟨-1, 2, [leafS 1, leafS 1, leafS 2]⟩
def deepS : Nat → S24
  | 0 => leafS 1
  | k + 1 => ⟨-1, 1, [deepS k]⟩
def wideS (n : Nat) : S24 := ⟨-1, 1, List.replicate n (leafS 3)⟩
theorem right_leafS {p : Int} (h0 : 0 ≤ p) (h1 : p < 64) : rightB (leafS p) = true := by
  rw [rightB_eq, leafS]; simp [h0, h1]
theorem right_twice : rightB twiceS = true := by
  rw [rightB_eq, twiceS]; simp [right_leafS]
theorem right_deep (k : Nat) : rightB (deepS k) = true := by
  induction k with
  | zero => exact right_leafS (by omega) (by omega)
  | succ k ih => rw [rightB_eq, deepS]; simp [ih]
theorem holds_leafS (there : Int → Int) {p : Int} (h0 : 0 ≤ p) : holdsB there (leafS p) = decide (0 < there p) := by
  rw [holdsB_eq, leafS]; simp [h0]
theorem holds_twice (there : Int → Int) : holdsB there twiceS = decide ((2 : Int) ≤ ([leafS 1, leafS 1, leafS 2].countP (holdsB there) : Int)) := by
  rw [holdsB_eq, twiceS, if_neg (by decide)]
theorem check_leafS {p : Int} (h0 : 0 ≤ p) (h1 : p < 64) : checkG (leafS p) = 0 := by
  unfold checkG
  rw [right_leafS h0 h1, show largeB (leafS p) = false from by simp [largeB, walkN, leafS]]
  rfl
theorem check_z : checkG z24 = 0 := check_leafS (p := 0) (by omega) (by omega)
theorem check_twice : checkG twiceS = 0 := by
  unfold checkG
  rw [right_twice, show largeB twiceS = false from by decide +kernel]
  rfl
theorem check_of0 : checkG ⟨-1, 0, []⟩ = 220 := by
  unfold checkG
  rw [show rightB ⟨-1, 0, []⟩ = false from by rw [rightB_eq]; simp, show largeB ⟨-1, 0, []⟩ = false from by decide +kernel]
  rfl
theorem check_deep15 : checkG (deepS 15) = 0 := by
  unfold checkG
  rw [right_deep, show largeB (deepS 15) = false from by decide +kernel]
  rfl
theorem check_deep16 : checkG (deepS 16) = 2 := by
  unfold checkG
  rw [show largeB (deepS 16) = true from by decide +kernel]
  rfl
theorem check_wide : checkG (wideS 257) = 2 := by
  unfold checkG
  rw [show largeB (wideS 257) = true from by decide +kernel]
  rfl
theorem check_of1 : checkG ⟨-1, 1, []⟩ = 0 := by
  unfold checkG
  rw [show rightB ⟨-1, 1, []⟩ = true from by rw [rightB_eq]; simp, show largeB ⟨-1, 1, []⟩ = false from by decide +kernel]
  rfl
theorem ans_one : holdsAns (leafS 1) [2, 1] = (false, 1) := by
  unfold holdsAns; rw [check_leafS (by omega) (by omega)]; rfl
theorem ans_twice1 : holdsAns twiceS [1] = (true, 0) := by
  unfold holdsAns; rw [check_twice, holds_twice]; simp [okFrom, holds_leafS, thereOf]
theorem ans_twice2 : holdsAns twiceS [2] = (false, 0) := by
  unfold holdsAns; rw [check_twice, holds_twice]; simp [okFrom, holds_leafS, thereOf]
theorem ans_none : holdsAns ⟨-1, 1, []⟩ [0, 1, 2] = (false, 0) := by
  unfold holdsAns; rw [check_of1, holdsB_eq]; simp [okFrom]
theorem ans_five : holdsAns (leafS 5) [4, 5] = (true, 0) := by
  unfold holdsAns; rw [check_leafS (by omega) (by omega), holds_leafS _ (by omega)]; simp [okFrom, thereOf]


theorem ints_of_blk {w : World} {g : Nat} {arr : Array Value} {t : TypeId} (h : w.heap[g]? = some (.cells arr t (0, 0))) (xs : List Int) (hm : xs.length ≤ 9223372036854775807)
    (hc : ∀ (j : Nat) (x : Int), xs[j]? = some x → arr[j]? = some (Value.int .i64 x)) : Kd.C (Kd.int .i64) w (some ⟨g, 0, none⟩) xs.length xs := by
  refine ⟨rfl, hm, fun _ => ⟨_, rfl, fun j x hx => ⟨[Value.int .i64 x], rfl, rfl, fun i u hu => ?_⟩⟩⟩
  cases i with
  | zero =>
    simp at hu; subst hu
    rw [show (Kd.int .i64).sz = 1 from rfl, add_plain, blk_cell h]
    simpa using hc j x hx
  | succ i => simp at hu
theorem ints1 {w : World} {g : Nat} {t : TypeId} {a : Int} (h : w.heap[g]? = some (.cells #[.int .i64 a] t (0, 0))) : Kd.C (Kd.int .i64) w (some ⟨g, 0, none⟩) [a].length [a] :=
  ints_of_blk h [a] (by simp) (fun j x hx => by match j, hx with | 0, hx => simpa using hx)
theorem ints2 {w : World} {g : Nat} {t : TypeId} {a b : Int} (h : w.heap[g]? = some (.cells #[.int .i64 a, .int .i64 b] t (0, 0))) : Kd.C (Kd.int .i64) w (some ⟨g, 0, none⟩) [a, b].length [a, b] :=
  ints_of_blk h [a, b] (by simp) (fun j x hx => by match j, hx with | 0, hx => simpa using hx | 1, hx => simpa using hx)
theorem ints3 {w : World} {g : Nat} {t : TypeId} {a b c : Int} (h : w.heap[g]? = some (.cells #[.int .i64 a, .int .i64 b, .int .i64 c] t (0, 0))) : Kd.C (Kd.int .i64) w (some ⟨g, 0, none⟩) [a, b, c].length [a, b, c] :=
  ints_of_blk h [a, b, c] (by simp) (fun j x hx => by match j, hx with | 0, hx => simpa using hx | 1, hx => simpa using hx | 2, hx => simpa using hx)
theorem twice_Rd {w : World} {g : Nat} {t : TypeId} (h : w.heap[g]? = some (.cells #[.int .i64 1, .int .i64 0, .slice none 0 0, .int .i64 1, .int .i64 0, .slice none 0 0, .int .i64 2, .int .i64 0, .slice none 0 0] t (0, 0))) :
    RdG w twiceS (some ⟨g, 0, none⟩) 3 := by
  refine ⟨Nat.le_refl _, C_of_blk h [leafS 1, leafS 1, leafS 2] [[.int .i64 1, .int .i64 0, .slice none 0 0], [.int .i64 1, .int .i64 0, .slice none 0 0], [.int .i64 2, .int .i64 0, .slice none 0 0]] rfl (by simp) (fun j x cs hx hc => ?_)⟩
  match j, hx, hc with
  | 0, hx, hc =>
    simp at hx hc; subst hx; subst hc
    exact ⟨leaf_K w 1, fun i u hu => by match i, hu with | 0, hu => simpa using hu | 1, hu => simpa using hu | 2, hu => simpa using hu⟩
  | 1, hx, hc =>
    simp at hx hc; subst hx; subst hc
    exact ⟨leaf_K w 1, fun i u hu => by match i, hu with | 0, hu => simpa using hu | 1, hu => simpa using hu | 2, hu => simpa using hu⟩
  | 2, hx, hc =>
    simp at hx hc; subst hx; subst hc
    exact ⟨leaf_K w 2, fun i u hu => by match i, hu with | 0, hu => simpa using hu | 1, hu => simpa using hu | 2, hu => simpa using hu⟩
  | (n + 3), hx, _ => simp at hx
/-- A gate of one element. -/
theorem single_Rd {w : World} {g : Nat} {t : TypeId} {x : S24} {A : Option Addr} {c : Nat} (n : Int) (h : w.heap[g]? = some (.cells #[.int .i64 x.f0, .int .i64 x.f1, .slice A x.f2.length c] t (0, 0))) (hx : RdG w x A c) :
    RdG w ⟨-1, n, [x]⟩ (some ⟨g, 0, none⟩) 1 := by
  refine ⟨Nat.le_refl _, C_of_blk h [x] [[.int .i64 x.f0, .int .i64 x.f1, .slice A x.f2.length c]] rfl (by simp) (fun j y cs hy hc => ?_)⟩
  match j, hy, hc with
  | 0, hy, hc =>
    simp at hy hc; subst hy; subst hc
    exact ⟨k24_mk w x hx.le hx.C, fun i u hu => by match i, hu with | 0, hu => simpa using hu | 1, hu => simpa using hu | 2, hu => simpa using hu⟩
  | (n + 1), hy, _ => simp at hy
/-- A gate that is read, whatever happens to block b. -/
def RdX (b : Nat) (W : World) (x : S24) (A : Option Addr) (c : Nat) : Prop := ∀ W', (∀ k, k ≠ b → k < W.heap.size → W'.heap[k]? = W.heap[k]?) → RdG W' x A c
theorem RdX.move {b : Nat} {W W2 : World} {x : S24} {A : Option Addr} {c : Nat} (h : RdX b W x A c) (hs : W.heap.size ≤ W2.heap.size) (hm : ∀ k, k ≠ b → k < W.heap.size → W2.heap[k]? = W.heap[k]?) : RdX b W2 x A c :=
  fun W' hW => h W' (fun k hk hlt => (hW k hk (by omega)).trans (hm k hk hlt))
theorem RdX.single {b : Nat} {W : World} {g : Nat} {t : TypeId} {x : S24} {A : Option Addr} {c : Nat} (n : Int) (hx : RdX b W x A c) (hg : g ≠ b) (h : W.heap[g]? = some (.cells #[.int .i64 x.f0, .int .i64 x.f1, .slice A x.f2.length c] t (0, 0))) :
    RdX b W ⟨-1, n, [x]⟩ (some ⟨g, 0, none⟩) 1 := fun W' hW => single_Rd n ((hW g hg (blk_lt h)).trans h) (hx W' hW)
theorem blk_set3 {W : World} {b : Nat} {t : TypeId} {x0 x1 x2 v0 v1 v2 : Value} (h : W.heap[b]? = some (.cells #[x0, x1, x2] t (0, 0))) :
    (((W.setCell ⟨b, 0, none⟩ v0).setCell ⟨b, 1, none⟩ v1).setCell ⟨b, 2, none⟩ v2).heap[b]? = some (.cells #[v0, v1, v2] t (0, 0)) := by
  have h1 := blk_set (blk_set (blk_set h 0 v0) 1 v1) 2 v2
  simpa using h1
theorem far_set3 (W : World) (b : Nat) (v0 v1 v2 : Value) (k : Nat) (hk : k ≠ b) :
    (((W.setCell ⟨b, 0, none⟩ v0).setCell ⟨b, 1, none⟩ v1).setCell ⟨b, 2, none⟩ v2).heap[k]? = W.heap[k]? :=
  (Below.heap_setCell _ ⟨b, 2, none⟩ _ k hk).trans ((Below.heap_setCell _ ⟨b, 1, none⟩ _ k hk).trans (Below.heap_setCell _ ⟨b, 0, none⟩ _ k hk))
theorem size_set (W : World) (p : Addr) (v : Value) : (W.setCell p v).heap.size = W.heap.size := by
  show (W.heap.modify _ _).size = _; rw [Array.size_modify]
theorem holds63 (T : S24) (who : List Int) (want : Bool) (A : Option Addr) (c : Nat) (A2 : Option Addr) (c2 : Nat) (w : World) (hR : RdG w T A c) (hC : Kd.C (Kd.int .i64) w A2 who.length who) (hc : who.length ≤ c2) (h : holdsAns T who = (want, 0)) :
    Calls Try.prog 63 #[gv T A c, .bool want, .slice A2 who.length c2] w fun e w' => e = .returned (.bool true) ∧ Below w.heap.size w w' := by
  refine signatorylaw22_holds.calls T.f0 T.f1 A c T.f2 want A2 c2 who true w hR.C hR.le hC hc ?_
  unfold signatorylaw22_holds.f formulas_Holds.f
  rw [show (⟨T.f0, T.f1, T.f2⟩ : S24) = T from by cases T; rfl, h]
  simp
def leafCells (k : Nat) : List Value := (List.replicate k [Value.int .i64 3, Value.int .i64 0, Value.slice none 0 0]).flatten
theorem leafCells_succ (k : Nat) : leafCells (k + 1) = leafCells k ++ [Value.int .i64 3, Value.int .i64 0, Value.slice none 0 0] := by
  unfold leafCells; rw [List.replicate_succ', List.flatten_append]; simp
theorem leafCells_length (k : Nat) : (leafCells k).length = k * 3 := by
  induction k with
  | zero => rfl
  | succ k ih => rw [leafCells_succ, List.length_append, ih]; simp; omega
theorem leafCells_get (k j i : Nat) (u : Value) (hj : j < k) (hu : [Value.int .i64 3, Value.int .i64 0, Value.slice none 0 0][i]? = some u) : (leafCells k)[j * 3 + i]? = some u := by
  have hi : i < 3 := by have := (List.getElem?_eq_some_iff.1 hu).1; simpa using this
  induction k with
  | zero => omega
  | succ k ih =>
    rw [leafCells_succ]
    by_cases e : j = k
    · subst e
      rw [List.getElem?_append_right (by rw [leafCells_length]; omega), leafCells_length, show j * 3 + i - j * 3 = i from by omega]; exact hu
    · rw [List.getElem?_append_left (by rw [leafCells_length]; omega)]; exact ih (by omega)
theorem wide_Rd {w : World} {base k : Nat} {v : Value} (h : w.ownsRow base 24 3 v k (leafCells k)) (hk : 0 < k) (hm : k ≤ 300) : ∃ A c, v = .slice A k c ∧ RdG w (wideS k) A c := by
  obtain ⟨g, cap, rfl, _, _⟩ := h.form hk
  have hcap : k ≤ cap := by
    rcases h.2 with ⟨h1, _⟩ | ⟨g', cap', cur, he, _, _, h1, h2, _⟩
    · cases h1
    · injection he with _ _ hc; subst hc; omega
  refine ⟨_, cap, rfl, by simpa [wideS] using hcap, ?_⟩
  refine ⟨by simp [wideS], by simp [wideS]; omega, fun _ => ⟨_, rfl, fun j x hx => ?_⟩⟩
  have hx2 : x = leafS 3 ∧ j < k := by
    simp [wideS, List.getElem?_replicate] at hx; exact ⟨hx.2.symm, hx.1⟩
  obtain ⟨rfl, hj⟩ := hx2
  refine ⟨[.int .i64 3, .int .i64 0, .slice none 0 0], rfl, leaf_K w 3, fun i u hu => ?_⟩
  rw [show k24.sz = 3 from rfl]
  exact h.cells rfl _ _ (leafCells_get k j i u hj hu)
theorem none_Rd (w : World) (n : Int) : RdG w ⟨-1, n, []⟩ none 0 := ⟨Nat.le_refl _, ⟨rfl, by simp, fun h => by simp at h⟩⟩
end Go.Proofs.Ytipdpfnjobfbpaa.H
