/- LHead, RTab, RRun, RRed, RRank, merged. -/
import Derived.Test.YtipdpfnjobfbpaaMCheck
import Derived.Lib.SmallJoins
import Derived.Test.YtipdpfnjobfbpaaMSane
import Derived.Test.YtipdpfnjobfbpaaMRef9
import Derived.Test.YtipdpfnjobfbpaaWTab
import Derived.Test.YtipdpfnjobfbpaaMRun
/- The heads of rows: a slice of slices seen as a row of its heads, so that it may be appended to. -/
namespace Go.Proofs.Ytipdpfnjobfbpaa.H
open Go.RowKit Go.Shelf Go.Proofs.YtipdpfnjobfbpaaW.PrintWords Go.Proofs.YtipdpfnjobfbpaaW.PrintLast Go.Proofs.YtipdpfnjobfbpaaW.PrintMore Go.Proofs.Ytipdpfnjobfbpaa.P
set_option linter.unusedVariables false
/-- A slice's head: where, how many, how many more. -/
def encH (h : Option Addr × Nat × Nat) : Value := .slice h.1 h.2.1 h.2.2
def kH : Kd (Option Addr × Nat × Nat) := Kd.scalar encH (fun _ => rfl)
def HOk (W : World) (h : Option Addr × Nat × Nat) (x : List Int) : Prop := h.2.1 = x.length ∧ x.length ≤ h.2.2 ∧ Kd.C (Kd.int .i64) W h.1 x.length x
theorem HOk.below {W W' : World} {h : Option Addr × Nat × Nat} {x : List Int} (k : HOk W h x) (hb : Below W.heap.size W W') : HOk W' h x := ⟨k.1, k.2.1, Kd.C_below k.2.2 hb⟩
theorem heads {w : World} {A : Option Addr} {zs : List (List Int)} (hC : Kd.C kRows w A zs.length zs) :
    ∃ hs : List (Option Addr × Nat × Nat), hs.length = zs.length ∧ Kd.C kH w A zs.length hs ∧ ∀ (i : Nat) h x, hs[i]? = some h → zs[i]? = some x → HOk w h x := by
  obtain ⟨_, hn, hA⟩ := hC
  rcases Nat.eq_zero_or_pos zs.length with h0 | h0
  · refine ⟨[], h0.symm, ⟨h0.symm, hn, fun h => absurd h (by omega)⟩, fun i h x hi => by simp at hi⟩
  obtain ⟨ad, rfl, hx⟩ := hA h0
  have each : ∀ j, j < zs.length → ∃ h : Option Addr × Nat × Nat, HOk w h (zs.getD j []) ∧ w.cell? (ad.add j) = some (encH h) := fun j hj => by
    obtain ⟨c, _, ⟨A2, c2, hc, hle, hC2⟩, hcell⟩ := hx j (zs.getD j []) (by rw [List.getD_eq_getElem?_getD, List.getElem?_eq_getElem hj]; rfl)
    subst hc
    refine ⟨(A2, (zs.getD j []).length, c2), ⟨rfl, hle, hC2⟩, ?_⟩
    have := hcell 0 _ rfl
    rw [show kRows.sz = 1 from rfl, Nat.mul_one, Nat.add_zero] at this
    exact this
  have ⟨F, hF⟩ : ∃ F : Nat → Option Addr × Nat × Nat, ∀ j, j < zs.length → HOk w (F j) (zs.getD j []) ∧ w.cell? (ad.add j) = some (encH (F j)) :=
    ⟨fun j => if h : j < zs.length then Classical.choose (each j h) else (none, 0, 0), fun j hj => by
      dsimp only
      rw [dif_pos hj]
      exact Classical.choose_spec (each j hj)⟩
  have hl : ((List.range zs.length).map F).length = zs.length := by simp
  have at_ : ∀ (j : Nat) h, ((List.range zs.length).map F)[j]? = some h → j < zs.length ∧ h = F j := fun j h hj => by
    have hjl : j < zs.length := by
      rcases Nat.lt_or_ge j zs.length with q | q
      · exact q
      · rw [List.getElem?_eq_none (by rw [hl]; exact q)] at hj; cases hj
    rw [List.getElem?_map, List.getElem?_range hjl] at hj
    cases hj
    exact ⟨hjl, rfl⟩
  refine ⟨(List.range zs.length).map F, hl, ⟨hl, hn, fun _ => ⟨ad, rfl, fun j p hj => ?_⟩⟩, fun i h x hi hx' => ?_⟩
  · obtain ⟨hjl, rfl⟩ := at_ j p hj
    refine ⟨[encH (F j)], rfl, rfl, fun i u hu => ?_⟩
    rcases i with _ | i
    · rw [show kH.sz = 1 from rfl, Nat.mul_one, Nat.add_zero, (hF j hjl).2]
      simpa using hu
    · simp at hu
  · obtain ⟨hil, rfl⟩ := at_ i h hi
    have e : x = zs.getD i [] := by rw [List.getD_eq_getElem?_getD, hx']; rfl
    rw [e]
    exact (hF i hil).1
theorem rows_of {W : World} {A : Option Addr} {n : Nat} {hs : List (Option Addr × Nat × Nat)} {zs : List (List Int)} (hC : Kd.C kH W A n hs) (hl : hs.length = zs.length) (h : ∀ (i : Nat) p x, hs[i]? = some p → zs[i]? = some x → HOk W p x) : Kd.C kRows W A n zs := by
  obtain ⟨h1, hn, hA⟩ := hC
  refine ⟨hl.symm.trans h1, hn, fun h0 => ?_⟩
  obtain ⟨ad, rfl, hx⟩ := hA h0
  refine ⟨ad, rfl, fun j p hj => ?_⟩
  have hjl : j < hs.length := by
    rw [hl]
    rcases Nat.lt_or_ge j zs.length with q | q
    · exact q
    · rw [List.getElem?_eq_none q] at hj; cases hj
  obtain ⟨c, _, hc, hcell⟩ := hx j _ (List.getElem?_eq_getElem hjl)
  have hc' : c = [encH hs[j]] := hc
  subst hc'
  obtain ⟨k1, k2, k3⟩ := h j _ p (List.getElem?_eq_getElem hjl) hj
  refine ⟨[encH hs[j]], rfl, ⟨hs[j].1, hs[j].2.2, ?_, k2, k3⟩, fun i u hu => ?_⟩
  · unfold encH; rw [k1]
  · have := hcell i u hu
    exact this
end Go.Proofs.Ytipdpfnjobfbpaa.H


/- A table of heads in a block of its own; the rows lie where they may, and are read alone. -/
namespace Go.Proofs.Ytipdpfnjobfbpaa.H
open Go.RowKit Go.Shelf Go.Proofs.YtipdpfnjobfbpaaW.PrintWords Go.Proofs.YtipdpfnjobfbpaaW.PrintLast Go.Proofs.YtipdpfnjobfbpaaW.PrintMore Go.Proofs.Ytipdpfnjobfbpaa.P SG SG.Lin
set_option linter.unusedVariables false
abbrev Head := Option Addr × Nat × Nat
theorem HOk.set {W : World} {h : Head} {x : List Int} (k : HOk W h x) {p : Addr} (hp : 0 < x.length → ∀ ad, h.1 = some ad → ad.block ≠ p.block) (v : Value) : HOk (W.setCell p v) h x := by
  obtain ⟨k1, k2, k3, hm, k4⟩ := k
  refine ⟨k1, k2, k3, hm, fun h0 => ?_⟩
  obtain ⟨ad, e, hc⟩ := k4 h0
  refine ⟨ad, e, fun j q hj => ?_⟩
  obtain ⟨c, hl, hK, hcell⟩ := hc j q hj
  refine ⟨c, hl, hK, fun i u hu => ?_⟩
  rw [World.cell?_of_block (Below.heap_setCell W p v _ (by
    have : (ad.add (j * (Kd.int .i64).sz + i)).block = ad.block := by unfold Addr.add; split <;> rfl
    rw [this]; exact hp h0 ad e))]
  exact hcell i u hu
/-- A head is far from a block. -/
def Far (TA : Option Addr) (h : Head) (x : List Int) : Prop := 0 < x.length → ∀ ad t, h.1 = some ad → TA = some t → ad.block ≠ t.block
structure HT (W : World) (base : Nat) (TA : Option Addr) (cap : Nat) (hs : List Head) (T : List (List Int)) : Prop where
  row : Kd.R kH 31 W base (fun _ => True) (.slice TA T.length cap) hs
  len : hs.length = T.length
  ok : ∀ (i : Nat) h x, hs[i]? = some h → T[i]? = some x → HOk W h x
  far : ∀ (i : Nat) h x, hs[i]? = some h → T[i]? = some x → Far TA h x
section
variable {W W' : World} {base : Nat} {TA : Option Addr} {cap : Nat} {hs : List Head} {T : List (List Int)}
theorem HT.below (k : HT W base TA cap hs T) (hb : Below W.heap.size W W') : HT W' base TA cap hs T :=
  ⟨Kd.R_below k.row hb, k.len, fun i h x a b => (k.ok i h x a b).below hb, k.far⟩
theorem HT.C (k : HT W base TA cap hs T) : T.length ≤ cap ∧ Kd.C kRows W TA T.length T := by
  obtain ⟨A, c, e, hle, hC⟩ := Kd.R_reads k.row
  rw [k.len] at e hle hC
  injection e with e _ ec
  subst e ec
  exact ⟨hle, rows_of hC k.len k.ok⟩
theorem HT.blk (k : HT W base TA cap hs T) (h0 : 0 < T.length) : ∃ tb, TA = some ⟨tb, 0, none⟩ ∧ base ≤ tb ∧ ∃ cells, W.heap[tb]? = some (.cells cells 31 (0, 0)) := by
  obtain ⟨g, c, e, hb, _, hc⟩ := Kd.R_form k.row (by rw [k.len]; exact h0)
  injection e with e _ _
  exact ⟨g, e, hb, hc⟩
theorem HT.head (k : HT W base TA cap hs T) {i : Nat} (hi : i < T.length) : ∃ tb A2 c2, TA = some ⟨tb, 0, none⟩ ∧ base ≤ tb ∧ hs[i]? = some (A2, (T.getD i []).length, c2) ∧ W.cell? ⟨tb, i, none⟩ = some (.slice A2 (T.getD i []).length c2) ∧ W.frozen? ⟨tb, i, none⟩ = false ∧ (T.getD i []).length ≤ c2 ∧ Kd.C (Kd.int .i64) W A2 (T.getD i []).length (T.getD i []) := by
  obtain ⟨tb, rfl, hb, _⟩ := k.blk (by omega)
  have hih : i < hs.length := by rw [k.len]; exact hi
  obtain ⟨q1, q2⟩ := Kd.R_celln (enc := encH) (h1 := fun _ => rfl) (none, 0, 0) k.row (i : Int) (by omega) (by omega)
  have e : rdOf ((none, 0, 0) : Head) hs (i : Int) = hs[i] := by
    unfold rdOf; rw [Int.toNat_natCast, List.getD_eq_getElem?_getD, List.getElem?_eq_getElem hih]; rfl
  rw [e, Int.toNat_natCast] at q1
  rw [Int.toNat_natCast] at q2
  have hx : T[i]? = some (T.getD i []) := by rw [List.getD_eq_getElem?_getD, List.getElem?_eq_getElem hi]; rfl
  obtain ⟨k1, k2, k3⟩ := k.ok i _ _ (List.getElem?_eq_getElem hih) hx
  have hg := List.getElem?_eq_getElem hih
  generalize hs[i] = h at *
  generalize T.getD i [] = x at *
  obtain ⟨A2, n2, c2⟩ := h
  obtain rfl : n2 = x.length := k1
  refine ⟨tb, A2, c2, rfl, hb, hg, ?_, q2, k2, k3⟩
  exact q1
theorem HT.put (k : HT W base TA cap hs T) {i tb : Nat} (hi : i < T.length) (hT : TA = some ⟨tb, 0, none⟩) {h : Head} {x : List Int} (hok : HOk W h x) (hfar : Far TA h x) :
    HT (W.setCell ⟨tb, i, none⟩ (encH h)) base TA cap (hs.set i h) (T.set i x) := by
  subst hT
  have hrow := Kd.R_putn (enc := encH) (h1 := fun _ => rfl) k.row (i : Int) h
  rw [Int.toNat_natCast] at hrow
  have st : ∀ h' x', HOk W h' x' → Far (some ⟨tb, 0, none⟩) h' x' → HOk (W.setCell ⟨tb, i, none⟩ (encH h)) h' x' := by
    intro h' x' a b
    refine HOk.set (p := ⟨tb, i, none⟩) a ?_ _
    intro h0 ad e
    exact b h0 ad ⟨tb, 0, none⟩ e rfl
  have hih : i < hs.length := by rw [k.len]; exact hi
  have hrow2 : Kd.R kH 31 (W.setCell ⟨tb, i, none⟩ (encH h)) base (fun _ => True) (.slice (some ⟨tb, 0, none⟩) (T.set i x).length cap) (hs.set i h) := by
    rw [List.length_set]; exact hrow
  refine ⟨hrow2, by rw [List.length_set, List.length_set, k.len], fun j h' x' a b => ?_, fun j h' x' a b => ?_⟩
  · by_cases e : i = j
    · subst e
      rw [List.getElem?_set_self hih] at a
      rw [List.getElem?_set_self hi] at b
      rw [← Option.some.inj a, ← Option.some.inj b]
      exact st _ _ hok hfar
    · rw [List.getElem?_set_ne e] at a b
      exact st _ _ (k.ok j h' x' a b) (k.far j h' x' a b)
  · by_cases e : i = j
    · subst e
      rw [List.getElem?_set_self hih] at a
      rw [List.getElem?_set_self hi] at b
      rw [← Option.some.inj a, ← Option.some.inj b]
      exact hfar
    · rw [List.getElem?_set_ne e] at a b
      exact k.far j h' x' a b
/-- A row of whole numbers that has just come: it is far from a table of heads. -/
theorem row_new {b2 : Nat} {ok : Nat → Prop} {v : Value} {x : List Int} (h : Kd.R (Kd.int .i64) 3 W b2 ok v x) (hT : 0 < T.length → ∃ tb, TA = some ⟨tb, 0, none⟩ ∧ ∃ cells, W.heap[tb]? = some (.cells cells 31 (0, 0))) (hT0 : 0 < T.length) :
    ∃ A c, v = .slice A x.length c ∧ HOk W (A, x.length, c) x ∧ Far TA (A, x.length, c) x ∧ (0 < x.length → ∀ ad, A = some ad → b2 ≤ ad.block) := by
  obtain ⟨A, c, e, hle, hC⟩ := Kd.R_reads h
  refine ⟨A, c, e, ⟨rfl, hle, hC⟩, fun h0 ad t ha ht hb => ?_, fun h0 ad ha => ?_⟩
  rotate_left
  · obtain ⟨g, c', e', hb, _⟩ := Kd.R_form h h0
    rw [e] at e'
    injection e' with e' _ _
    rw [ha] at e'
    injection e' with e'
    rw [e']; exact hb
  obtain ⟨g, c', e', _, _, cells, hg⟩ := Kd.R_form h h0
  rw [e] at e'
  injection e' with e' _ _
  obtain ⟨tb, htb, cells', hc'⟩ := hT hT0
  simp only at ha
  subst ha
  injection e' with e'
  subst e'
  rw [htb] at ht
  cases ht
  simp only at hb
  subst hb
  rw [hg] at hc'
  injection hc' with hc'
  injection hc' with _ h2 _
  exact absurd h2 (by decide)
theorem HOk.old {w : World} {h : Head} {x : List Int} (k : HOk w h x) (h0 : 0 < x.length) {ad : Addr} (ha : h.1 = some ad) : ad.block < w.heap.size := by
  obtain ⟨_, _, _, hm, k4⟩ := k
  obtain ⟨ad', e, hc⟩ := k4 h0
  rw [ha] at e; cases e
  obtain ⟨c, hl, hK, hcell⟩ := hc 0 x[0] (List.getElem?_eq_getElem h0)
  have hK' : c = [.int .i64 x[0]] := hK
  have := hcell 0 (.int .i64 x[0]) (by rw [hK']; rfl)
  have e2 : ad.add (0 * (Kd.int .i64).sz + 0) = ad := by rw [Nat.zero_mul]; unfold Addr.add; simp
  rw [e2] at this
  exact World.block_lt_of_cell? _ _ this
/-- The rows' blocks are not block b. -/
def FarB (b : Option Nat) (h : Head) (x : List Int) : Prop := 0 < x.length → ∀ ad, h.1 = some ad → b ≠ some ad.block
def FarBs (b : Option Nat) (hs : List Head) (T : List (List Int)) : Prop := ∀ (i : Nat) h x, hs[i]? = some h → T[i]? = some x → FarB b h x
theorem FarBs.put {b : Option Nat} (k : FarBs b hs T) (hl : hs.length = T.length) {i : Nat} (hi : i < T.length) {h : Head} {x : List Int} (hf : FarB b h x) : FarBs b (hs.set i h) (T.set i x) := by
  intro j h' x' a c
  by_cases e : i = j
  · subst e
    rw [List.getElem?_set_self (by rw [hl]; exact hi)] at a
    rw [List.getElem?_set_self hi] at c
    rw [← Option.some.inj a, ← Option.some.inj c]
    exact hf
  · rw [List.getElem?_set_ne e] at a c
    exact k j h' x' a c
theorem HOk.grown {h : Head} {x : List Int} (k : HOk W h x) {b : Option Nat} (hg : W.grownBy W' b) (hf : FarB b h x) : HOk W' h x := by
  have ko := k
  obtain ⟨k1, k2, k3, hm, k4⟩ := k
  refine ⟨k1, k2, k3, hm, fun h0 => ?_⟩
  obtain ⟨ad, e, hc⟩ := k4 h0
  refine ⟨ad, e, fun j q hj => ?_⟩
  obtain ⟨c, hl, hK, hcell⟩ := hc j q hj
  refine ⟨c, hl, hK, fun i u hu => ?_⟩
  have eb : (ad.add (j * (Kd.int .i64).sz + i)).block = ad.block := by unfold Addr.add; split <;> rfl
  rw [World.cell?_of_block (w := W) (w' := W') (by
    rw [eb]
    exact hg.block ad.block (ko.old h0 e) (fun q => hf h0 ad e q.symm))]
  exact hcell i u hu
theorem HT.grown (k : HT W base TA cap hs T) {b : Option Nat} (hg : W.grownBy W' b) (hf : FarBs b hs T) (hb : ∀ q, b = some q → ∃ cells, W.heap[q]? = some (.cells cells 3 (0, 0))) : HT W' base TA cap hs T := by
  refine ⟨?_, k.len, fun i h x a c => (k.ok i h x a c).grown hg (hf i h x a c), k.far⟩
  exact Kd.R_grown2 k.row rfl hg (fun q hq he => by
    obtain ⟨cells, hc⟩ := hb q hq
    obtain ⟨cells', hc'⟩ := Kd.R_typed k.row q he.symm
    rw [hc] at hc'
    injection hc' with hc'
    injection hc' with _ h2 _
    exact absurd h2 (by decide))
/-- Behind an append the rows are still far from what was appended to. -/
theorem FarBs.after {b b' : Option Nat} (k : FarBs b hs T) (hok : ∀ (i : Nat) h x, hs[i]? = some h → T[i]? = some x → HOk W h x) (hat : b' = b ∨ ∃ q, b' = some q ∧ W.heap.size ≤ q) : FarBs b' hs T := by
  rcases hat with rfl | ⟨q, rfl, hq⟩
  · exact k
  · intro i h x a c h0 ad ha e
    injection e with e
    have := (hok i h x a c).old h0 ha
    omega
end
end Go.Proofs.Ytipdpfnjobfbpaa.H


/- What the printed summaries of the reference's field and of its rows compute. -/
namespace Go.Proofs.Ytipdpfnjobfbpaa.H
open Go.RowKit Go.Proofs.YtipdpfnjobfbpaaW.PrintWords Go.Proofs.YtipdpfnjobfbpaaW.PrintLast Go.Proofs.YtipdpfnjobfbpaaW.PrintMore Go.Proofs.Ytipdpfnjobfbpaa.P SG.Lin
set_option linter.unusedVariables false
theorem rMod_f (a : Int) : signatoryref09_Mod.f a = some (a % 1073741789) := Mod_f a
theorem rMul_f (a b : Int) : signatoryref09_Mul.f a b = some (fmul a b) := by
  unfold signatoryref09_Mul.f
  rw [rMod_f, rMod_f]
  simp only [Option.bind_some]
  rw [mulQ]
theorem rAdd_f (a b : Int) : signatoryref09_Add.f a b = some (fadd a b) := by
  unfold signatoryref09_Add.f
  rw [rMod_f, rMod_f]
  simp only [Option.bind_some]
  rw [addQ]
theorem power_run : ∀ (f left : Nat) (x square : Int), left < 2 ^ f → left ≤ 1073741787 → signatoryref09_power.l0 (f + 1) square (left : Int) x = some (pw f left square x)
  | 0, left, x, square, h, _ => by
    obtain rfl : left = 0 := by omega
    unfold signatoryref09_power.l0
    rw [if_neg (by omega)]; rfl
  | f + 1, left, x, square, h, hq => by
    unfold signatoryref09_power.l0
    unfold pw
    by_cases h0 : left = 0
    · subst h0
      rw [if_neg (by omega), if_pos rfl]
    · have e1 : Int.tmod (left : Int) 2 = ((left % 2 : Nat) : Int) := by rw [Int.tmod_eq_emod_of_nonneg (by omega)]; omega
      have e2 : wrap64 (Int.tdiv (left : Int) 2) = ((left / 2 : Nat) : Int) := by rw [Int.tdiv_eq_ediv_of_nonneg (by omega)]; unfold wrap64; omega
      have h2 : left / 2 < 2 ^ f := by rw [Nat.pow_succ] at h; omega
      rw [if_pos (by omega), if_neg h0, e1, e2, rMul_f, rMul_f]
      by_cases h1 : left % 2 = 1
      · rw [if_pos (by omega), if_pos h1]
        exact power_run f (left / 2) _ _ h2 (by omega)
      · rw [if_neg (by omega), if_neg h1]
        exact power_run f (left / 2) _ _ h2 (by omega)
theorem rInverse_f (a : Int) (h : a % 1073741789 ≠ 0) : signatoryref09_Inverse.f 41 a = some (finv a, 0) := by
  unfold signatoryref09_Inverse.f
  rw [rMod_f]
  show (if a % 1073741789 = 0 then _ else _) = _
  rw [if_neg h]
  have := power_run 40 1073741787 1 a (by decide) (by omega)
  unfold signatoryref09_power.f
  show (signatoryref09_power.l0 41 a ((1073741787 : Nat) : Int) 1).bind _ = _
  rw [this]; rfl
/-- A row less a multiple of another one, as far as it is made. -/
def lessL (a b : List Int) (n : Int) (m k : Nat) : List Int := (List.range m).map fun j => if j < k then fadd (a.getD j 0) (-fmul n (b.getD j 0)) else 0
theorem lessL_len (a b : List Int) (n : Int) (m k : Nat) : (lessL a b n m k).length = m := by simp [lessL]
theorem lessL_zero (a b : List Int) (n : Int) (m : Nat) : lessL a b n m 0 = List.replicate m 0 := by
  refine List.ext_getElem (by simp [lessL]) (fun q h1 h2 => ?_)
  simp [lessL]
theorem lessL_succ (a b : List Int) (n : Int) (m k : Nat) (h : k < m) : (lessL a b n m k).set k (fadd (a.getD k 0) (-fmul n (b.getD k 0))) = lessL a b n m (k + 1) := by
  refine List.ext_getElem (by simp [lessL]) (fun q h1 h2 => ?_)
  have e : ∀ j' (hh : q < (lessL a b n m j').length), (lessL a b n m j')[q] = if q < j' then fadd (a.getD q 0) (-fmul n (b.getD q 0)) else 0 := fun j' hh => by simp [lessL]
  rw [List.getElem_set, e, e]
  by_cases hq : k = q
  · subst hq; rw [if_pos rfl, if_pos (by omega)]
  · rw [if_neg hq]
    by_cases h3 : q < k
    · rw [if_pos h3, if_pos (by omega)]
    · rw [if_neg h3, if_neg (by omega)]
theorem lessL_all (a b : List Int) (n : Int) : lessL a b n a.length a.length = lessP a b n := by
  refine list_ext_getD (by rw [lessL_len, less_len]) fun j hj => ?_
  rw [lessL_len] at hj
  rw [less_at _ _ _ hj]
  unfold lessL
  rw [getD_range_map hj, if_pos hj]
theorem negmul (n b : Int) : wrap64 (-fmul n b) = -fmul n b := by
  have := fmul_in n b
  unfold InF at this
  unfold wrap64; omega
theorem less_loop (a b : List Int) (n : Int) (ha : a.length ≤ 1000) (hab : a.length ≤ b.length) : ∀ (d i k : Nat), i + d = a.length → d < k →
    signatoryref13_less.l0 k a b n (lessL a b n a.length i) (i : Int) = some (lessP a b n) := by
  intro d
  induction d with
  | zero =>
    intro i k hi hk
    obtain ⟨k, rfl⟩ : ∃ q, k = q + 1 := ⟨k - 1, by omega⟩
    unfold signatoryref13_less.l0
    obtain rfl : i = a.length := by omega
    rw [if_neg (by omega), lessL_all]
  | succ d ih =>
    intro i k hi hk
    obtain ⟨k, rfl⟩ : ∃ q, k = q + 1 := ⟨k - 1, by omega⟩
    unfold signatoryref13_less.l0
    unfold rd
    rw [Int.toNat_natCast, if_pos (by omega), if_pos (by omega), if_pos (by omega), rMul_f]
    show (signatoryref09_Add.f _ _).bind _ = _
    rw [rAdd_f, negmul]
    show (if (i : Int) < ((lessL a b n a.length i).length : Int) then _ else _) = _
    rw [if_pos (by rw [lessL_len]; omega), wrap_nat (by omega), lessL_succ _ _ _ _ _ (by omega)]
    exact ih (i + 1) k (by omega) (by omega)
theorem less_run (a b : List Int) (n : Int) (ha : a.length ≤ 1000) (hab : a.length ≤ b.length) : signatoryref13_less.f 1001 a b n = some (lessP a b n) := by
  unfold signatoryref13_less.f
  rw [if_pos (by omega), Int.toNat_natCast, if_pos (by omega), ← lessL_zero a b n]
  exact less_loop a b n ha hab a.length 0 1001 (by omega) (by omega)
theorem times_run (a : List Int) (n : Int) (ha : a.length ≤ 1000) (hn : InF n) : signatoryref13_times.f 1001 a n = some (timesP a n) := by
  unfold signatoryref13_times.f
  have e : wrap64 (-n) = -n := by unfold InF at hn; unfold wrap64; omega
  rw [if_pos (by omega), Int.toNat_natCast, if_pos (by omega), e, less_run _ _ _ (by rw [List.length_replicate]; exact ha) (by rw [List.length_replicate]; exact Nat.le_refl _)]
  rfl
theorem timesC (A0 : Option Addr) (c0 : Nat) (l0 : List Int) {n : Nat} (hn : l0.length = n) (hl : n ≤ 1000) (v : Int) (hv : InF v) (w : World) (hr0 : Kd.C (Kd.int .i64) w A0 l0.length l0) (hc0 : n ≤ c0) :
    Calls Try.prog 85 #[.slice A0 n c0, .int .i64 v] w fun e w' => ∃ v0_ : Value, e = .returned v0_ ∧ Kd.R (Kd.int .i64) 3 w' w.heap.size (fun _ => True) v0_ (timesP l0 v) ∧ Below w.heap.size w w' := by
  subst hn
  exact signatoryref13_times.calls 1001 A0 c0 l0 v _ w hr0 hc0 (times_run l0 v hl hv)
theorem lessC (A0 : Option Addr) (c0 : Nat) (l0 : List Int) (A1 : Option Addr) (c1 : Nat) (l1 : List Int) {n : Nat} (hn : l0.length = n) (hn1 : l1.length = n) (hl : n ≤ 1000) (v : Int) (w : World) (hr0 : Kd.C (Kd.int .i64) w A0 l0.length l0) (hc0 : n ≤ c0) (hr1 : Kd.C (Kd.int .i64) w A1 l1.length l1) (hc1 : n ≤ c1) :
    Calls Try.prog 114 #[.slice A0 n c0, .slice A1 n c1, .int .i64 v] w fun e w' => ∃ v0_ : Value, e = .returned v0_ ∧ Kd.R (Kd.int .i64) 3 w' w.heap.size (fun _ => True) v0_ (lessP l0 l1 v) ∧ Below w.heap.size w w' := by
  subst hn
  have := signatoryref13_less.calls 1001 A0 c0 l0 A1 c1 l1 v _ w hr0 hc0 hr1 (by rw [hn1]; exact hc1) (less_run l0 l1 v hl (by rw [hn1]; exact Nat.le_refl _))
  rw [hn1] at this
  exact this
theorem InverseC {a : Int} (ha : InF a) (h0 : a ≠ 0) (w : World) : Calls Try.prog 84 #[.int .i64 a] w fun e w' => e = .returned (.tuple #[.int .i64 (finv a), .int .i64 0]) ∧ Drawn0 w w' :=
  signatoryref09_Inverse.calls 41 a _ _ w (rInverse_f a (by unfold InF at ha; omega))
end Go.Proofs.Ytipdpfnjobfbpaa.H


/- signatoryref13.Reduced reduces as gj does. -/
namespace Go.Proofs.Ytipdpfnjobfbpaa.H
open Go.RowKit Go.Shelf Go.Proofs.YtipdpfnjobfbpaaW.PrintWords Go.Proofs.YtipdpfnjobfbpaaW.PrintLast Go.Proofs.YtipdpfnjobfbpaaW.PrintMore Go.Proofs.Ytipdpfnjobfbpaa.P SG SG.Lin
set_option linter.unusedVariables false
set_option linter.unusedSimpArgs false
theorem get_some {T : List (List Int)} {k : Nat} (h : k < T.length) : T[k]? = some (T.getD k []) := by
  rw [List.getD_eq_getElem?_getD, List.getElem?_eq_getElem h]; rfl
/-- The first i rows are changed. -/
def mapTo (f : List Int → List Int) (T : List (List Int)) (i : Nat) : List (List Int) := T.mapIdx fun j x => if j < i then f x else x
theorem mapTo_len (f : List Int → List Int) (T : List (List Int)) (i : Nat) : (mapTo f T i).length = T.length := List.length_mapIdx
theorem mapTo_zero (f : List Int → List Int) (T : List (List Int)) : mapTo f T 0 = T := by
  unfold mapTo
  apply List.ext_getElem
  · simp
  · intro i h1 h2; simp
theorem mapTo_all (f : List Int → List Int) (T : List (List Int)) : mapTo f T T.length = T.map f := by
  unfold mapTo
  apply List.ext_getElem
  · simp
  · intro i h1 h2; simp at h1 ⊢; intro h; omega
theorem mapTo_at (f : List Int → List Int) (T : List (List Int)) {i : Nat} (hi : i < T.length) : (mapTo f T i).getD i [] = T.getD i [] := by
  unfold mapTo
  rw [getD_mapIdx _ _ _ _ [] hi, if_neg (Nat.lt_irrefl i)]
theorem mapTo_succ (f : List Int → List Int) (T : List (List Int)) {i : Nat} (hi : i < T.length) : (mapTo f T i).set i (f (T.getD i [])) = mapTo f T (i + 1) := by
  unfold mapTo
  apply List.ext_getElem
  · simp
  · intro j h1 h2
    rw [List.getElem_set, List.getElem_mapIdx, List.getElem_mapIdx]
    by_cases e : i = j
    · subst e
      rw [if_pos rfl, if_pos (by omega), List.getD_eq_getElem?_getD, List.getElem?_eq_getElem hi]; rfl
    · rw [if_neg e]
      by_cases h3 : j < i
      · rw [if_pos h3, if_pos (by omega)]
      · rw [if_neg h3, if_neg (by omega)]
def reT.T18 : Bool × List (List Nat × List Nat) := (true, [([], []), ([], []), ([], []), ([], []), ([2, 3], [2, 3]), ([4], [4]), ([], []), ([], []), ([], []), ([7, 8], [7, 8]), ([9], [9]), ([], []), ([10, 11], [10, 11]), ([12], [12]), ([5, 6, 13], [5, 6, 13]), ([0, 1, 0, 1, 2, 3, 4, 5, 6, 7, 8, 9, 10, 11, 12, 13, 14], [0, 1]), ([15, 14, 14, 0, 1, 2, 3, 4, 5, 6, 7, 8, 9, 10, 11, 12, 13, 14], [14, 15])])
def reT.B18 : List Nat := [0, 0, 0, 0, 12, 28, 0, 0, 0, 384, 896, 0, 3968, 8064, 16380, 32767, 65535]
theorem reT.tab18 : rtab .any (opsOf Try.f71 18) = reT.T18 := by kernel_rfl
theorem reT.bits18 : waitsOk reT.T18.2 reT.B18 = true := by kernel_rfl
/-- What Reduced returns. -/
def RedOut (st : List (List Int) × List Nat) (w : World) (e : Ending) (w' : World) : Prop := ∃ A1 c1 A2 c2, e = .returned (.tuple #[.slice A1 st.1.length c1, .slice A2 st.2.length c2]) ∧ st.1.length ≤ c1 ∧ Kd.C kRows w' A1 st.1.length st.1 ∧ st.2.length ≤ c2 ∧ Kd.C (Kd.int .i64) w' A2 st.2.length (st.2.map Int.ofNat) ∧ Below w.heap.size w w'
theorem RedOut.of {st st' : List (List Int) × List Nat} (h : st = st') {w w' : World} {e : Ending} (k : RedOut st w e w') : RedOut st' w e w' := h ▸ k
set_option maxRecDepth 100000 in
set_option maxHeartbeats 8000000 in
theorem Reduced_calls (A : Option Addr) (cA : Nat) (zs : List (List Int)) (L many : Nat) (w : World) (hC : Kd.C kRows w A zs.length zs) (hcA : zs.length ≤ cA) (hG : SG.Lin.Good zs zs.length L) (hmL : many ≤ L) (hL : L ≤ 1000) (hN : zs.length ≤ 1000) :
    Calls Try.prog 71 #[.slice A zs.length cA, .int .i64 many] w (RedOut (gj zs many) w) := by
  obtain ⟨hs0, hsl0, hCh0, hok0⟩ := heads hC
  have HCH := Aside0.mk hCh0
  have HHK := Aside0.mk hok0
  have HSL := Aside0.mk hsl0
  have HRED := Aside0.mk (fun c (hc : c ≤ L) => gj_red hG c hc)
  have hsb : hs0.length ≤ 1000 := by omega
  have HG := Aside0.mk hG
  clear hsl0 hCh0 hok0 hC hG
  go_enter Try.func71, Try.ntmps71
  go_wp2_with (first | ((with_reducible refine gate_dst (N := 15) rfl ?_); refine Kd.R_lit kH w.heap.size 31 ?hg (w0 := w) (N := 15) ?hd (xs := ([] : List Head)) (inner := []) (ok := fun _ => True) (okp := fun _ => True) ?hr ?hp (fun _ hk => hk) trivial (Below.refl _ _) (Nat.le_refl _) (by simp) ?_; (case hd => rfl); (case hg => rfl); (case hr => first | (go_simp; done) | (go_simp; rfl)); (case hp => exact (Reps.none _ _)); intro v6 w6 ho hb hg_ hnew_; have HO := Aside0.mk ho; have HB1 := Aside0.mk hb; clear ho hb hg_ hnew_) | ((with_reducible refine gate_builtin (b := .append) (xs := #[.tmp 15, .tmp 16]) rfl ?_); at_builtin; refine Kd.R_append_rows kH (w0 := w) w.heap.size rfl (.tmp 15) (.tmp 16) 40 31 (.slice none 0 0) 24 rfl Try.underlying40 info31 rfl (by decide) (by omega) v6 [] hs0 A _ _ (fun _ => True) (fun _ => False) rfl rfl HO.out (Kd.C_below HCH.out HB1.out) (fun _ _ h => h) (fun _ hk => hk.elim) (fun _ _ => trivial) HB1.out HB1.out.size (by simp only [List.length_nil]; omega) ?_; intro v7 w7 ho hb hg hat; rw [List.nil_append] at ho; have HB7 := Aside0.mk hb; obtain ⟨TA, cap, e7⟩ := Kd.R_slice ho; rw [HSL.out] at e7; subst e7; have HO2 := Aside0.mk ho; clear ho hb hg hat) | ((with_reducible refine gate_dst (N := 18) rfl ?_); refine Kd.R_lit (Kd.int .i64) w.heap.size 3 ?hg (w0 := w) (N := 18) ?hd (xs := ([] : List Int)) (inner := []) (ok := fun _ => True) (okp := fun _ => True) ?hr ?hp (fun _ hk => hk) trivial HB7.out HB7.out.size (by simp) ?_; (case hd => rfl); (case hg => rfl); (case hr => first | (go_simp; done) | (go_simp; rfl)); (case hp => exact (Reps.none _ _)); intro v8 w8 ho hb hg_ hnew_; have HO3 := Aside0.mk ho; have HB8 := Aside0.mk hb; have HO2b := Aside0.mk (Kd.R_grown HO2.out hg_ (fun _ _ => by simp)); have HN8 := Aside0.mk hnew_; clear ho hb hg_ hnew_))
  have HT8 := Aside0.mk (show ∃ hs, HT w8 w.heap.size TA cap hs (gj zs 0).1 ∧ FarBs v8.ownBlock hs (gj zs 0).1 from ⟨hs0, ⟨HO2b.out, HSL.out, fun i h x a b => (HHK.out i h x a b).below HB8.out, fun i h x a b h0 ad t ha ht hb => by
    change zs[i]? = some x at b
    have h1 := (HHK.out i h x a b).old h0 ha
    obtain ⟨g, _, e, h2, _⟩ := Kd.R_form HO2b.out (by
      rw [HSL.out]
      rcases Nat.lt_or_ge i zs.length with q | q
      · omega
      · rw [List.getElem?_eq_none q] at b; cases b)
    injection e with e _ _
    rw [ht] at e
    injection e with e
    rw [hb, e] at h1
    simp only at h1
    omega⟩, FarBs.after (W := w) (b := none) (fun i h x a b h0 ad ha e => by cases e) (fun i h x a b => HHK.out i h x a b) (.inr (HN8.out.elim fun q hq => ⟨q, hq.1, Nat.le_trans HB7.out.size hq.2⟩))⟩)
  have HP8 := Aside0.mk (show Kd.R (Kd.int .i64) 3 w8 w.heap.size (fun _ => True) v8 ((gj zs 0).2.map Int.ofNat) from HO3.out)
  clear HO HB1 HO2 HB7 HO2b HO3 HHK HSL HCH hsb
  go_loopw [7, 8] (fun v7 v8 wr => ∃ c : Nat, c ≤ many ∧ v8 = .int .i64 c ∧ Aside0 (∃ hs, HT wr w.heap.size TA cap hs (gj zs c).1 ∧ FarBs v7.ownBlock hs (gj zs c).1) ∧ Aside0 (Kd.R (Kd.int .i64) 3 wr w.heap.size (fun _ => True) v7 ((gj zs c).2.map Int.ofNat)) ∧ Aside0 (Below w.heap.size w wr)) (fun _ v8 _ => many - (intOf v8).toNat)
  case atStart => exact ⟨0, Nat.zero_le _, rfl, HT8, HP8, HB8⟩
  case round =>
    clear HT8 HP8 HB8
    obtain ⟨c, hc, rfl, HTT, HP, HB⟩ := hrel
    by_cases hlt : c < many
    · have hltz : (c : Int) < (many : Int) := by omega
      have hred := HRED.out c (by omega)
      have hstep := (gj_succ zs c).trans (refStep_eq hred).symm
      obtain ⟨st, hst⟩ : ∃ st, gj zs c = st := ⟨_, rfl⟩
      rw [hst] at HTT HP hred hstep
      have HST := Aside0.mk hstep
      have hTl : st.1.length = zs.length := hred.good.len
      have hrl : st.2.length ≤ zs.length := hred.shape.le
      obtain ⟨A7, c7, e7, hle7, hC7⟩ := Kd.R_reads HP.out
      rw [List.length_map] at e7 hle7
      subst e7
      obtain ⟨r, hr⟩ : ∃ r, st.2.length = r := ⟨_, rfl⟩
      rw [hr] at hrl hle7 HP HTT ⊢
      have HRr := Aside0.mk hr
      have HTL := Aside0.mk hTl
      have HRD := Aside0.mk hred
      clear hst hstep hred hTl hC7 hr
      go_wp2_with fail
      obtain ⟨hs, hT, hfb⟩ := HTT.out
      have HTH := Aside0.mk hT
      have HFB := Aside0.mk hfb
      clear hT hfb
      go_loop [10] (fun v10 => ∃ k : Nat, r ≤ k ∧ k ≤ zs.length ∧ v10 = .int .i64 k ∧ Aside0 (∀ i, r ≤ i → i < k → at2 st.1 i c = 0)) (fun v10 => zs.length - (intOf v10).toNat)
      case atStart => exact ⟨r, Nat.le_refl _, hrl, rfl, ⟨fun i h1 h2 => by omega⟩⟩
      case round =>
        obtain ⟨k, hrk, hkN, rfl, HZ⟩ := hrel
        by_cases hk : k < zs.length
        · have hkz : (k : Int) < (zs.length : Int) := by omega
          obtain ⟨tb, A2, c2, rfl, htb, hhs, q1, q2, hle2, hC2⟩ := HTH.out.head (i := k) (by rw [HTL.out]; exact hk)
          obtain ⟨_, ec, _, cells, hcells⟩ := HTH.out.blk (by rw [HTL.out]; omega)
          injection ec with ec; injection ec with ec _ _
          subst ec
          have hw := HRD.out.good.row hk
          obtain ⟨ad2, rfl, q3⟩ := at_int hC2 (Below.refl _ _) c (by rw [hw]; omega)
          rw [hw] at q1 hle2
          change wr.cell? (ad2.add c) = some (.int .i64 (at2 st.1 k c)) at q3
          have hcL : (c : Int) < (L : Int) := by omega
          have HOK := Aside0.mk (show HOk wr (some ad2, L, c2) (st.1.getD k []) from ⟨hw.symm, by rw [hw]; exact hle2, hC2⟩)
          have HFK := Aside0.mk (HTH.out.far k (some ad2, L, c2) (st.1.getD k []) (by rw [hw] at hhs; exact hhs) (get_some (by rw [HTL.out]; exact hk)))
          clear hC2 hhs hw
          by_cases h0 : at2 st.1 k c = 0
          · have HZ2 := Aside0.mk (show ∀ i, r ≤ i → i < k + 1 → at2 st.1 i c = 0 from fun i h1 h2 => by
              by_cases e : i = k
              · rw [e]; exact h0
              · exact HZ.out i h1 (by omega))
            rw [h0] at q3
            clear h0
            go_wp2_with fail
            go_round
            case rel => exact ⟨k + 1, by omega, by omega, by go_num, HZ2⟩
            case measure => simp [intOf]; omega
          · have h0b : (at2 st.1 k c == 0) = false := by simpa using h0
            have H0 := Aside0.mk h0
            have hkge : ¬ (zs.length : Int) ≤ (k : Int) := by omega
            have hrN : r < zs.length := by omega
            obtain ⟨tb', Ar, cr, etb, _, hhr, q4, q5, hler, hCr⟩ := HTH.out.head (i := r) (by rw [HTL.out]; exact hrN)
            injection etb with etb; injection etb with etb _ _
            subst etb
            have hwr := HRD.out.good.row hrN
            have HOR := Aside0.mk (show HOk wr (Ar, (st.1.getD r []).length, cr) (st.1.getD r []) from ⟨rfl, hler, hCr⟩)
            have HFR := Aside0.mk (HTH.out.far r (Ar, (st.1.getD r []).length, cr) (st.1.getD r []) hhr (get_some (by rw [HTL.out]; exact hrN)))
            have HT1 := Aside0.mk (HTH.out.put (i := k) (by rw [HTL.out]; exact hk) rfl HOR.out HFR.out)
            have HOK1 := Aside0.mk (HOK.out.set (p := ⟨tb, k, none⟩) (fun h0 ad e => HFK.out h0 ad ⟨tb, 0, none⟩ e rfl) (encH (Ar, (st.1.getD r []).length, cr)))
            rw [hwr] at q4 HT1 HOK1
            change Aside0 (HT (wr.setCell ⟨tb, k, none⟩ (.slice Ar L cr)) _ _ _ _ _) at HT1
            change Aside0 (HOk (wr.setCell ⟨tb, k, none⟩ (.slice Ar L cr)) _ _) at HOK1
            have HFB1 := Aside0.mk (HFB.out.put HTH.out.len (i := k) (by rw [HTL.out]; exact hk) (HFB.out r (Ar, (st.1.getD r []).length, cr) (st.1.getD r []) hhr (get_some (by rw [HTL.out]; exact hrN))))
            rw [hwr] at HFB1
            have HP1 := Aside0.mk (Kd.R_set HP.out hcells (fun q hq => by rw [List.mem_singleton.1 hq]; decide) k (.slice Ar L cr))
            have HB1 := Aside0.mk (HB.out.setCell (p := ⟨tb, k, none⟩) htb (.slice Ar L cr))
            have q6 := (at_int HOK1.out.2.2 (Below.refl _ _) c (by rw [HRD.out.good.row hk]; omega))
            obtain ⟨ad3, e3, q6⟩ := q6
            injection e3 with e3
            subst e3
            change (wr.setCell ⟨tb, k, none⟩ (.slice Ar L cr)).cell? (ad2.add c) = some (.int .i64 (at2 st.1 k c)) at q6
            have hrz : (r : Int) < (zs.length : Int) := by omega
            clear h0 hwr hhr hler hCr
            go_wp2_with fail
            generalize wr.setCell ⟨tb, k, none⟩ (.slice Ar L cr) = wr1 at *
            have ha := HRD.out.good.at k c
            have HTL1 := Aside0.mk (show (st.1.set k (st.1.getD r [])).length = zs.length by rw [List.length_set, HTL.out])
            have HW1 := Aside0.mk (show ∀ x, x ∈ st.1.set k (st.1.getD r []) → x.length = L from fun x hx => by
              rcases List.mem_or_eq_of_mem_set hx with h | h
              · exact HRD.out.good.wide x h
              · rw [h]; exact HRD.out.good.row hrN)
            have HOWL := Aside0.mk (HRD.out.good.row hk)
            have HFZ := Aside0.mk (firstNZ_eq (T := st.1) (c := c) hrk (by rw [HTL.out]; omega) HZ.out (fun _ => H0.out))
            have HGJ := Aside0.mk (show gj zs (c + 1) = (((st.1.set k (st.1.getD r [])).map fun x => lessP x (timesP (st.1.getD k []) (finv (at2 st.1 k c))) (x.getD c 0)).set r (timesP (st.1.getD k []) (finv (at2 st.1 k c))), st.2 ++ [c]) by
              rw [HST.out]
              unfold refStep
              simp only []
              rw [HRr.out, HFZ.out, if_pos (by rw [HTL.out]; exact hk)]
              rfl)
            refine (InverseC ha H0.out wr1).mono ?_
            rintro e w' ⟨rfl, ⟨nd, rfl⟩⟩
            have HAI := Aside0.mk (finv_in (at2 st.1 k c))
            generalize hfv : finv (at2 st.1 k c) = iv at *
            generalize st.1.set k (st.1.getD r []) = T1 at *
            generalize st.1.getD k [] = own0 at *
            clear hfv ha q6 q5 q4 q3 q2 q1 hcells HTT HTH HFB HP HB HOK HFK HOR HFR HFZ H0 HZ HST
            go_wp2_with fail
            refine (timesC (some ad2) c2 own0 HOWL.out (by omega) iv HAI.out _ (Kd.C_drewN HOK1.out.2.2 _) hle2).mono ?_
            rintro e w2 ⟨v9, rfl, hR9, hb2⟩
            have hb2' : Below wr1.heap.size wr1 w2 := (pw_below_drewN (Below.refl _ _) nd).trans hb2
            have HT2 := Aside0.mk (HT1.out.below hb2')
            have HP2 := Aside0.mk (Kd.R_below HP1.out hb2')
            have HB2 := Aside0.mk (below_call HB1.out hb2')
            have hbl := HT2.out.blk (by rw [HTL1.out]; omega)
            obtain ⟨AO, cO, rfl, hOk, hOf, hOb⟩ := row_new (TA := some ⟨tb, 0, none⟩) (T := T1) hR9 (fun _ => by
              obtain ⟨t, e, _, cells, hc⟩ := hbl; exact ⟨t, e, cells, hc⟩) (by rw [HTL1.out]; omega)
            have hol : (timesP own0 iv).length = L := by rw [times_len, HOWL.out]
            generalize timesP own0 iv = own at *
            have hOB : FarB (Value.slice A7 r c7).ownBlock (AO, own.length, cO) own := fun h0 ad ha e => by
              have := Kd.R_lt HP1.out ad.block e
              have := hOb h0 ad ha
              have : (wr1.drewN nd).heap.size = wr1.heap.size := rfl
              omega
            rw [hol] at hOk hOf hOB ⊢
            have HOBB := Aside0.mk hOB
            have HOL := Aside0.mk hol
            have HOO := Aside0.mk hOk
            have HOF := Aside0.mk hOf
            clear hR9 hb2 hb2' hbl hOk hOf hol HT1 HP1 HB1 HOK1 hOb hOB
            go_wp2_with fail
            go_loopw [14] (fun v14 wx => ∃ i : Nat, i ≤ zs.length ∧ v14 = .int .i64 i ∧ Aside0 (∃ hs, HT wx w.heap.size (some ⟨tb, 0, none⟩) cap hs (mapTo (fun x => lessP x own (x.getD c 0)) T1 i) ∧ FarBs (Value.slice A7 r c7).ownBlock hs (mapTo (fun x => lessP x own (x.getD c 0)) T1 i)) ∧ Aside0 (HOk wx (AO, L, cO) own) ∧ Aside0 (Kd.R (Kd.int .i64) 3 wx w.heap.size (fun _ => True) (.slice A7 r c7) (st.2.map Int.ofNat)) ∧ Aside0 (Below w.heap.size w wx)) (fun v14 _ => zs.length - (intOf v14).toNat)
            case atStart => exact ⟨0, Nat.zero_le _, rfl, ⟨_, by rw [mapTo_zero]; exact ⟨HT2.out, HFB1.out⟩⟩, HOO, HP2, HB2⟩
            case round =>
              clear HT2 HOO HP2 HB2 HFB1
              obtain ⟨i, hi, rfl, HTT, HOO, HP, HB⟩ := hrel
              by_cases hlti : i < zs.length
              · have hiz : (i : Int) < (zs.length : Int) := by omega
                obtain ⟨hs, hT, hfb⟩ := HTT.out
                have HFB := Aside0.mk hfb
                clear hfb
                have hml : (mapTo (fun x => lessP x own (x.getD c 0)) T1 i).length = zs.length := by rw [mapTo_len, HTL1.out]
                obtain ⟨tb', A3, c3, etb, htb3, hh3, q1, q2, hle3, hC3⟩ := hT.head (i := i) (by rw [hml]; exact hlti)
                injection etb with etb; injection etb with etb _ _
                subst etb
                obtain ⟨_, ec, _, cells, hcells⟩ := hT.blk (by rw [hml]; omega)
                injection ec with ec; injection ec with ec _ _
                subst ec
                rw [mapTo_at _ _ (by rw [HTL1.out]; exact hlti)] at q1 hle3 hC3
                have HXL := Aside0.mk (HW1.out _ (getD_mem (d := []) (by rw [HTL1.out]; exact hlti)))
                have HSU := Aside0.mk (mapTo_succ (fun x => lessP x own (x.getD c 0)) T1 (i := i) (by rw [HTL1.out]; exact hlti))
                have HTI := Aside0.mk hT
                have HML := Aside0.mk hml
                generalize T1.getD i [] = xi at *
                obtain ⟨ad3, rfl, q3⟩ := at_int hC3 (Below.refl _ _) c (by rw [HXL.out]; omega)
                have HX3 := Aside0.mk hC3
                rw [HXL.out] at q1 hle3
                obtain ⟨xv, hxv⟩ : ∃ x, xi.getD c 0 = x := ⟨_, rfl⟩
                rw [hxv] at q3
                have HXV := Aside0.mk hxv
                have HCE := Aside0.mk (show ∃ cells, wr.heap[tb]? = some (.cells cells 31 (0, 0)) from ⟨_, hcells⟩)
                have hcL : (c : Int) < (L : Int) := by omega
                have HOC := Aside0.mk (HOO.out.2.2)
                have hOle : L ≤ cO := by have := HOO.out.2.1; rw [HOL.out] at this; exact this
                clear hT hml hh3 hC3 hcells hxv
                go_wp2_with fail
                refine wp_onlyN ?_
                refine start_ (n := 17) (S := fun w' => w'.cell? ⟨tb, i, none⟩ = some (.slice (some ad3) L c3) ∧ w'.cell? (ad3.add c) = some (.int .i64 xv) ∧ w'.frozen? ⟨tb, i, none⟩ = false) (ds := [16]) (Array.replicate 17 false) (by kernel_rfl) rfl rfl ⟨q1, q3, q2⟩ (fun hHeld => ?_)
                refine with_tabW reT.tab18 reT.bits18 (fun HT_ HW_ => ?_)
                refine pure_ (i := 0) (N := some 75) (v := ?_) (a' := ?_) #[true, false, false, false, false, false, false, false, false, false, false, false, false, false, false, false, false] rfl rfl (any_of HT_.out (by kernel_rfl)) (fun _ _ _ h => h) (Or.inl ⟨by rfl, ?_⟩) ?_ ?_
                rotate_left
                · intro w'
                  go_simp
                  with_reducible rfl
                rotate_left
                · simp only [Act.put, List.setIfInBounds_toArray, List.set_cons_zero, List.set_cons_succ, i64_w, i32_w]
                  rfl
                refine pure_ (i := 1) (N := some 76) (v := ?_) (a' := ?_) #[true, true, false, false, false, false, false, false, false, false, false, false, false, false, false, false, false] rfl rfl (any_of HT_.out (by kernel_rfl)) (fun _ _ _ h => h) (Or.inl ⟨by rfl, ?_⟩) ?_ ?_
                rotate_left
                · intro w'
                  go_simp
                  with_reducible rfl
                rotate_left
                · simp only [Act.put, List.setIfInBounds_toArray, List.set_cons_zero, List.set_cons_succ, i64_w, i32_w]
                  rfl
                refine pure_ (i := 2) (N := some 77) (v := ?_) (a' := ?_) #[true, true, true, false, false, false, false, false, false, false, false, false, false, false, false, false, false] rfl rfl (any_of HT_.out (by kernel_rfl)) (fun _ _ _ h => h) (Or.inl ⟨by rfl, ?_⟩) ?_ ?_
                rotate_left
                · intro w'
                  go_simp
                  with_reducible rfl
                rotate_left
                · simp only [Act.put, List.setIfInBounds_toArray, List.set_cons_zero, List.set_cons_succ, i64_w, i32_w]
                  rfl
                refine pure_ (i := 3) (N := some 78) (v := ?_) (a' := ?_) #[true, true, true, true, false, false, false, false, false, false, false, false, false, false, false, false, false] rfl rfl (any_of HT_.out (by kernel_rfl)) (fun _ _ _ h => h) (Or.inl ⟨by rfl, ?_⟩) ?_ ?_
                rotate_left
                · intro w'
                  go_simp
                  with_reducible rfl
                rotate_left
                · simp only [Act.put, List.setIfInBounds_toArray, List.set_cons_zero, List.set_cons_succ, i64_w, i32_w]
                  rfl
                refine pure_ (i := 4) (N := some 79) (v := ?_) (a' := ?_) #[true, true, true, true, true, false, false, false, false, false, false, false, false, false, false, false, false] rfl rfl (any_of HT_.out (by kernel_rfl)) (fun _ _ _ h => h) (Or.inl ⟨by rfl, ?_⟩) ?_ ?_
                rotate_left
                · intro w'
                  go_simp
                  with_reducible rfl
                rotate_left
                · simp only [Act.put, List.setIfInBounds_toArray, List.set_cons_zero, List.set_cons_succ, i64_w, i32_w]
                  rfl
                refine take_ (i := 5) (N := some 80) (v := ?_) (a' := ?_) #[true, true, true, true, true, true, false, false, false, false, false, false, false, false, false, false, false] rfl rfl (take_ofW HT_.out HW_.out (by kernel_rfl)) (fun _ _ _ h => h) (Or.inl ⟨by rfl, ?_⟩) hHeld ?_ ?_
                rotate_left
                · rintro w' ⟨s0, s1, s2⟩
                  go_simp
                  with_reducible rfl
                rotate_left
                · simp only [Act.put, List.setIfInBounds_toArray, List.set_cons_zero, List.set_cons_succ, i64_w, i32_w]
                  rfl
                refine pure_ (i := 6) (N := some 81) (v := ?_) (a' := ?_) #[true, true, true, true, true, true, true, false, false, false, false, false, false, false, false, false, false] rfl rfl (any_of HT_.out (by kernel_rfl)) (fun _ _ _ h => h) (Or.inl ⟨by rfl, ?_⟩) ?_ ?_
                rotate_left
                · intro w'
                  go_simp
                  with_reducible rfl
                rotate_left
                · simp only [Act.put, List.setIfInBounds_toArray, List.set_cons_zero, List.set_cons_succ, i64_w, i32_w]
                  rfl
                refine pure_ (i := 7) (N := some 82) (v := ?_) (a' := ?_) #[true, true, true, true, true, true, true, true, false, false, false, false, false, false, false, false, false] rfl rfl (any_of HT_.out (by kernel_rfl)) (fun _ _ _ h => h) (Or.inl ⟨by rfl, ?_⟩) ?_ ?_
                rotate_left
                · intro w'
                  go_simp
                  with_reducible rfl
                rotate_left
                · simp only [Act.put, List.setIfInBounds_toArray, List.set_cons_zero, List.set_cons_succ, i64_w, i32_w]
                  rfl
                refine pure_ (i := 8) (N := some 83) (v := ?_) (a' := ?_) #[true, true, true, true, true, true, true, true, true, false, false, false, false, false, false, false, false] rfl rfl (any_of HT_.out (by kernel_rfl)) (fun _ _ _ h => h) (Or.inl ⟨by rfl, ?_⟩) ?_ ?_
                rotate_left
                · intro w'
                  go_simp
                  with_reducible rfl
                rotate_left
                · simp only [Act.put, List.setIfInBounds_toArray, List.set_cons_zero, List.set_cons_succ, i64_w, i32_w]
                  rfl
                refine pure_ (i := 9) (N := some 84) (v := ?_) (a' := ?_) #[true, true, true, true, true, true, true, true, true, true, false, false, false, false, false, false, false] rfl rfl (any_of HT_.out (by kernel_rfl)) (fun _ _ _ h => h) (Or.inl ⟨by rfl, ?_⟩) ?_ ?_
                rotate_left
                · intro w'
                  go_simp
                  with_reducible rfl
                rotate_left
                · simp only [Act.put, List.setIfInBounds_toArray, List.set_cons_zero, List.set_cons_succ, i64_w, i32_w]
                  rfl
                refine take_ (i := 10) (N := some 85) (v := ?_) (a' := ?_) #[true, true, true, true, true, true, true, true, true, true, true, false, false, false, false, false, false] rfl rfl (take_ofW HT_.out HW_.out (by kernel_rfl)) (fun _ _ _ h => h) (Or.inl ⟨by rfl, ?_⟩) hHeld ?_ ?_
                rotate_left
                · rintro w' ⟨s0, s1, s2⟩
                  go_simp
                  with_reducible rfl
                rotate_left
                · simp only [Act.put, List.setIfInBounds_toArray, List.set_cons_zero, List.set_cons_succ, i64_w, i32_w]
                  rfl
                refine pure_ (i := 11) (N := some 86) (v := ?_) (a' := ?_) #[true, true, true, true, true, true, true, true, true, true, true, true, false, false, false, false, false] rfl rfl (any_of HT_.out (by kernel_rfl)) (fun _ _ _ h => h) (Or.inl ⟨by rfl, ?_⟩) ?_ ?_
                rotate_left
                · intro w'
                  go_simp
                  with_reducible rfl
                rotate_left
                · simp only [Act.put, List.setIfInBounds_toArray, List.set_cons_zero, List.set_cons_succ, i64_w, i32_w]
                  rfl
                refine pure_ (i := 12) (N := some 87) (v := ?_) (a' := ?_) #[true, true, true, true, true, true, true, true, true, true, true, true, true, false, false, false, false] rfl rfl (any_of HT_.out (by kernel_rfl)) (fun _ _ _ h => h) (Or.inl ⟨by rfl, ?_⟩) ?_ ?_
                rotate_left
                · intro w'
                  go_simp
                  with_reducible rfl
                rotate_left
                · simp only [Act.put, List.setIfInBounds_toArray, List.set_cons_zero, List.set_cons_succ, i64_w, i32_w]
                  rfl
                refine take_ (i := 13) (N := some 88) (v := ?_) (a' := ?_) #[true, true, true, true, true, true, true, true, true, true, true, true, true, true, false, false, false] rfl rfl (take_ofW HT_.out HW_.out (by kernel_rfl)) (fun _ _ _ h => h) (Or.inl ⟨by rfl, ?_⟩) hHeld ?_ ?_
                rotate_left
                · rintro w' ⟨s0, s1, s2⟩
                  go_simp
                  with_reducible rfl
                rotate_left
                · simp only [Act.put, List.setIfInBounds_toArray, List.set_cons_zero, List.set_cons_succ, i64_w, i32_w]
                  rfl
                refine one_ (i := 14) (N := some 89) #[true, true, true, true, true, true, true, true, true, true, true, true, true, true, true, false, false] rfl rfl (one_of HT_.out (by kernel_rfl)) (by decide) (fun K hK => ?_)
                refine goes_ Try.func114 (by kernel_rfl) rfl #[.slice (some ad3) L c3, .slice AO L cO, .int .i64 xv] (by rfl) rfl rfl (by (try simp only [List.map_toArray, List.map_cons, List.map_nil]); first | done | rfl) ?_
                with_reducible refine (lessC (some ad3) c3 xi AO cO own HXL.out HOL.out (by omega) xv _ (Kd.C_below HX3.out (below_drew (Below.refl _ _))) hle3 (Kd.C_below HOC.out (below_drew (Below.refl _ _))) hOle).mono ?_
                rintro e w' ⟨v9, rfl, hR9, hb⟩
                obtain ⟨A9, c9, rfl, hok9, hof9, hob9⟩ := row_new (TA := some ⟨tb, 0, none⟩) (T := T1) hR9 (fun _ => ⟨tb, rfl, HCE.out.elim fun cells hc => ⟨cells, blk_below (w := wr.drew) hc hb⟩⟩) (by rw [HTL1.out]; omega)
                have hOB9 : FarB (Value.slice A7 r c7).ownBlock (A9, (lessP xi own xv).length, c9) (lessP xi own xv) := fun h0 ad ha e => by
                  have := Kd.R_lt HP.out ad.block e
                  have := hob9 h0 ad ha
                  have : wr.drew.heap.size = wr.heap.size := rfl
                  omega
                rw [less_len, HXL.out] at hok9 hof9 hOB9
                have HOB9 := Aside0.mk hOB9
                rw [less_len, HXL.out]
                refine ⟨_, rfl, ?_⟩
                have hS2 := And.intro (pw_cell_below hb hHeld.1) (And.intro (pw_cell_below hb hHeld.2.1) (frozen_below hb hHeld.1 hHeld.2.2))
                have HBA := Aside0.mk hb
                have HOK9 := Aside0.mk hok9
                have HOF9 := Aside0.mk hof9
                clear hb hR9 hok9 hof9 hob9 hOB9
                have hfz2 := hS2.2.2
                have hcl2 := hS2.1
                refine hK.out _ _ hS2 (fun hHeld => ?_)
                clear hK K
                refine norm_ (a' := ?_) ?_ ?_
                rotate_left
                · show Act.put _ (some 89) _ = _
                  simp only [Act.put, List.setIfInBounds_toArray, List.set_cons_zero, List.set_cons_succ, i64_w, i32_w]
                  rfl
                refine pure_ (i := 15) (N := some 90) (v := ?_) (a' := ?_) #[true, true, true, true, true, true, true, true, true, true, true, true, true, true, true, true, false] rfl rfl (any_of HT_.out (by kernel_rfl)) (fun _ _ _ h => h) (Or.inl ⟨by rfl, ?_⟩) ?_ ?_
                rotate_left
                · intro w'
                  go_simp
                  with_reducible rfl
                rotate_left
                · simp only [Act.put, List.setIfInBounds_toArray, List.set_cons_zero, List.set_cons_succ, i64_w, i32_w]
                  rfl
                refine last_ (i := 16) (N := none) #[true, true, true, true, true, true, true, true, true, true, true, true, true, true, true, true, true] rfl rfl (one_of HT_.out (by kernel_rfl)) (by decide) (fun K hK => ?_)
                refine skip_ (w1 := ?_) (by rfl) rfl ?_ ?_
                rotate_left
                · go_simp
                  rfl
                refine hK.out _ _ ?_
                clear hK K
                refine done_ (done_of HT_.out (by kernel_rfl)) ?_
                have hbw : Below wr.heap.size wr w' := (below_drew (Below.refl _ wr)).trans HBA.out
                have G1 := Aside0.mk ((HTI.out.below hbw).put (i := i) (by rw [HML.out]; exact hlti) rfl HOK9.out HOF9.out)
                have GF := Aside0.mk (HFB.out.put HTI.out.len (i := i) (by rw [HML.out]; exact hlti) HOB9.out)
                rw [← HXV.out, HSU.out] at G1 GF
                have G2 := Aside0.mk ((HOO.out.below hbw).set (p := ⟨tb, i, none⟩) (fun h0 ad e => HOF.out h0 ad ⟨tb, 0, none⟩ e rfl) (encH (A9, L, c9)))
                obtain ⟨cells, hcells⟩ := HCE.out
                have G3 := Aside0.mk (Kd.R_set (Kd.R_below HP.out hbw) (blk_below hcells hbw) (fun q hq => by rw [List.mem_singleton.1 hq]; decide) i (encH (A9, L, c9)))
                have G4 := Aside0.mk ((below_call HB.out hbw).setCell (p := ⟨tb, i, none⟩) htb (encH (A9, L, c9)))
                clear hbw hcells HCE HTI HOO HP HB
                unfold onlyN
                dsimp only
                go_wp2_with fail
                go_roundw
                case rel => exact ⟨i + 1, by omega, by go_num, ⟨_, G1.out, GF.out⟩, G2, G3, G4⟩
                case measure => simp [intOf]; omega
              · have hiz : ¬ (i : Int) < (zs.length : Int) := by omega
                obtain rfl : i = zs.length := by omega
                obtain ⟨hs, hT, hfb⟩ := HTT.out
                rw [← HTL1.out, mapTo_all] at hT hfb
                have hml : (T1.map fun x => lessP x own (x.getD c 0)).length = zs.length := by rw [List.length_map, HTL1.out]
                obtain ⟨tb', A3, c3, etb, htb3, hh3, q1, q2, hle3, hC3⟩ := hT.head (i := r) (by rw [hml]; exact hrN)
                injection etb with etb; injection etb with etb _ _
                subst etb
                obtain ⟨_, ec, _, cells, hcells⟩ := hT.blk (by rw [hml]; omega)
                injection ec with ec; injection ec with ec _ _
                subst ec
                have G1 := Aside0.mk (hT.put (i := r) (by rw [hml]; exact hrN) rfl HOO.out HOF.out)
                have G3 := Aside0.mk (Kd.R_set HP.out hcells (fun q hq => by rw [List.mem_singleton.1 hq]; decide) r (encH (AO, L, cO)))
                have G4 := Aside0.mk (HB.out.setCell (p := ⟨tb, r, none⟩) htb (encH (AO, L, cO)))
                change Aside0 (HT (wr.setCell ⟨tb, r, none⟩ (.slice AO L cO)) _ _ _ _ _) at G1
                change Aside0 (Kd.R _ _ (wr.setCell ⟨tb, r, none⟩ (.slice AO L cO)) _ _ _ _) at G3
                change Aside0 (Below _ _ (wr.setCell ⟨tb, r, none⟩ (.slice AO L cO))) at G4
                have GF := Aside0.mk (hfb.put hT.len (i := r) (by rw [hml]; exact hrN) HOBB.out)
                have HGL := Aside0.mk (show (gj zs (c + 1)).2 = st.2 ++ [c] by rw [HGJ.out])
                have HG1 := Aside0.mk (show ((T1.map fun x => lessP x own (x.getD c 0)).set r own) = (gj zs (c + 1)).1 by rw [HGJ.out])
                rw [HG1.out] at G1 GF
                clear hT hml hh3 hC3 hcells hle3 hfb HTT HOO HP HB
                go_wp2_with ((with_reducible refine gate_builtin (b := .append) (xs := #[.tmp 95, .tmp 97]) rfl ?_); at_builtin; refine Kd.R_append (Kd.int .i64) (w0 := w) w.heap.size rfl (.tmp 95) (.tmp 97) 31 3 (.int .i64 0) 8 rfl Try.underlying31 info3 rfl (by decide) (by omega) (.slice A7 r c7) (st.2.map Int.ofNat) (c : Int) [.int .i64 (c : Int)] (fun _ => True) (fun _ => False) rfl ?hx rfl (fun _ hk => hk.elim) (fun _ _ => trivial) G3.out G4.out G4.out.size ?hl ?_; (case hl => rw [List.length_map, HRr.out]; omega); (case hx => rw [sz_set2]; rfl); intro v10 w10 ho hb hg hat; have GO := Aside0.mk ho; have GB := Aside0.mk hb; have GG := Aside0.mk hg; have GA := Aside0.mk hat; clear ho hb hg hat)
                have hg2 := (World.grownBy_alloc (wr.setCell ⟨tb, r, none⟩ (.slice AO L cO)) (Obj.cells #[Value.int .i64 (c : Int)] 3) none)
                have hty : ∀ q, (Value.slice A7 r c7).ownBlock = some q → ∃ cells, (wr.setCell ⟨tb, r, none⟩ (.slice AO L cO)).heap[q]? = some (.cells cells 3 (0, 0)) := fun q hq => Kd.R_typed G3.out q hq
                have H1 := Aside0.mk (G1.out.grown GG.out GF.out hty)
                have H2 := Aside0.mk (GF.out.after (fun i h x a b => G1.out.ok i h x a b) GA.out)
                have H3 := Aside0.mk (show Kd.R (Kd.int .i64) 3 w10 w.heap.size (fun _ => True) v10 ((gj zs (c + 1)).2.map Int.ofNat) by
                  rw [HGL.out, List.map_append]; exact GO.out)
                clear hg2 hty G1 G3 G4 GF GG GA GO
                go_wp2_with fail
                go_roundw
                case rel => exact ⟨c + 1, by omega, by go_num, ⟨_, H1.out, H2.out⟩, H3, GB⟩
                case measure => simp [intOf]; omega
        · have hkz : ¬ (k : Int) < (zs.length : Int) := by omega
          obtain rfl : k = zs.length := by omega
          have hgj : gj zs (c + 1) = st := by
            rw [HST.out]
            unfold refStep
            simp only []
            rw [if_neg]
            rw [HRr.out, firstNZ_eq hrk (by rw [HTL.out]; exact Nat.le_refl _) HZ.out (fun h => absurd h (by rw [HTL.out]; exact Nat.lt_irrefl _)), HTL.out]
            exact Nat.lt_irrefl _
          have HGJ := Aside0.mk hgj
          clear hgj
          go_wp2_with fail
          go_roundw
          case rel => exact ⟨c + 1, by omega, by go_num, ⟨by rw [HGJ.out]; exact HTT.out⟩, ⟨by rw [HGJ.out]; exact HP.out⟩, HB⟩
          case measure => simp [intOf]; omega
    · have hltz : ¬ (c : Int) < (many : Int) := by omega
      obtain rfl : c = many := by omega
      obtain ⟨hs, hT, _⟩ := HTT.out
      have hred := HRED.out c (by omega)
      have hTl : (gj zs c).1.length = zs.length := hred.good.len
      obtain ⟨hle, hCT⟩ := hT.C
      obtain ⟨A7, c7, e7, hle7, hC7⟩ := Kd.R_reads HP.out
      rw [List.length_map] at e7 hle7 hC7
      subst e7
      rw [hTl] at hle hCT
      have H1 := Aside0.mk hCT
      have H2 := Aside0.mk hC7
      have H3 := Aside0.mk hTl
      clear hCT hC7 hT hred hTl HTT HP
      go_wp2_with fail
      go_ret2
      exact ⟨TA, cap, A7, c7, by rw [H3.out]; rfl, by rw [H3.out]; exact hle, by rw [H3.out]; exact H1.out, hle7, H2.out, HB.out⟩
end Go.Proofs.Ytipdpfnjobfbpaa.H


/- signatoryref13.Rank. -/
namespace Go.Proofs.Ytipdpfnjobfbpaa.H
open Go.RowKit Go.Shelf Go.Proofs.YtipdpfnjobfbpaaW.PrintWords Go.Proofs.YtipdpfnjobfbpaaW.PrintLast Go.Proofs.YtipdpfnjobfbpaaW.PrintMore Go.Proofs.Ytipdpfnjobfbpaa.P SG SG.Lin
set_option linter.unusedVariables false
set_option linter.unusedSimpArgs false
set_option maxRecDepth 100000 in
set_option maxHeartbeats 4000000 in
theorem rRank_calls (A : Option Addr) (c : Nat) (zs : List (List Int)) (w : World) (hC : Kd.C kRows w A zs.length zs) (hc : zs.length ≤ c) :
    Calls Try.prog 29 #[.slice A zs.length c] w fun e w' => e = .returned (.tuple #[.int .i64 (rankAns zs).1, .int .i64 (rankAns zs).2]) ∧ Below w.heap.size w w' := by
  have HC := Aside0.mk hC
  clear hC
  obtain ⟨r1, hr1⟩ : ∃ r, (rankAns zs).1 = r := ⟨_, rfl⟩
  obtain ⟨r2, hr2⟩ : ∃ r, (rankAns zs).2 = r := ⟨_, rfl⟩
  rw [hr1, hr2]
  have HCK := Aside0.mk (check_run zs 301 (by omega))
  by_cases hz : checkP zs = 0
  · obtain ⟨h64, hch⟩ := checkP_zero hz
    obtain ⟨hll, hG⟩ := good_of_chk hch
    have ea : rankAns zs = (((rankP zs : Nat) : Int), 0) := by unfold rankAns; rw [if_neg (fun h => h hz)]
    rw [ea] at hr1 hr2
    simp only at hr1 hr2
    subst hr2
    have HR1 := Aside0.mk hr1
    have HLL := Aside0.mk hll
    have HG := Aside0.mk hG
    rw [hz] at HCK
    clear hr1 hz ea hch hll hG
    by_cases hN : zs.length = 0
    · have hNz : ((zs.length : Int) == 0) = true := by rw [beq_iff_eq]; omega
      have HR0 := Aside0.mk (show r1 = 0 by rw [← HR1.out]; unfold rankP; rw [if_pos hN]; rfl)
      clear hN
      go_enter Try.func29, Try.ntmps29
      go_wp2_with fail
      refine (signatoryref13_Check.calls 301 A c zs 0 w HC.out hc HCK.out).mono ?_
      rintro e w' ⟨rfl, hb⟩
      have HB := Aside0.mk hb.below
      clear hb
      go_wp2_with fail
      go_ret2
      exact ⟨by rw [HR0.out]; rfl, HB.out⟩
    · have hNz : ((zs.length : Int) == 0) = false := by rw [beq_eq_false_iff_ne]; omega
      have hNp : 0 < zs.length := by omega
      have hNpz : (0 : Int) < (zs.length : Int) := by omega
      have HRP := Aside0.mk (show rankP zs = (gj zs (zs.getD 0 []).length).2.length by unfold rankP widthP; rw [if_neg hN])
      clear hN
      go_enter Try.func29, Try.ntmps29
      go_wp2_with fail
      refine (signatoryref13_Check.calls 301 A c zs 0 w HC.out hc HCK.out).mono ?_
      rintro e w1 ⟨rfl, hb⟩
      have HB := Aside0.mk hb.below
      clear hb
      obtain ⟨ad, A3, c3, rfl, l3, _, _⟩ := at_row HC.out HB.out 0 hNp
      have hadd : (ad.add 0) = ad := by unfold Addr.add; simp
      rw [hadd] at l3
      have hL64 := HLL.out _ (getD_mem (d := []) hNp)
      generalize (zs.getD 0 []).length = L at *
      go_wp2_with fail
      refine (Reduced_calls (some ad) c zs L L w1 (Kd.C_below HC.out HB.out) hc HG.out (Nat.le_refl _) (by omega) (by omega)).mono ?_
      rintro e w2 ⟨A1, c1, A2, c2, rfl, _, _, _, _, hb⟩
      have HB2 := Aside0.mk (below_call HB.out hb)
      clear hb
      have hrr : (((gj zs L).2.length : Nat) : Int) = r1 := by rw [← HR1.out, HRP.out]
      have HRR := Aside0.mk hrr
      clear hrr
      go_wp2_with fail
      go_ret2
      exact ⟨by rw [← HRR.out]; rfl, HB2.out⟩
  · have hzz : (checkP zs == 0) = false := by simpa using hz
    have ea : rankAns zs = (0, checkP zs) := by unfold rankAns; rw [if_pos hz]
    rw [ea] at hr1 hr2
    simp only at hr1 hr2
    subst hr1
    rw [hr2] at HCK hzz
    have hnz : (r2 != 0) = true := by rw [bne_iff_ne]; intro h; rw [h] at hzz; cases hzz
    clear hr2 ea hz
    go_enter Try.func29, Try.ntmps29
    go_wp2_with fail
    refine (signatoryref13_Check.calls 301 A c zs r2 w HC.out hc HCK.out).mono ?_
    rintro e w' ⟨rfl, hb⟩
    have HB := Aside0.mk hb.below
    clear hb
    go_wp2_with fail
    go_ret2
    exact ⟨rfl, HB.out⟩
end Go.Proofs.Ytipdpfnjobfbpaa.H
namespace Go.Proofs.Ytipdpfnjobfbpaa.P
open Go.RowKit Go.Shelf Go.Proofs.YtipdpfnjobfbpaaW.PrintWords
def signatoryref13_Rank.f (l0 : List (List Int)) : Option (Int × Int) := some (H.rankAns l0)
theorem signatoryref13_Rank.calls (A0 : Option Addr) (c0 : Nat) (l0 : List (List Int)) (r1 : Int) (r2 : Int) (w : World) (hr0 : Kd.C (Kd.slice 3 (Kd.int .i64)) w A0 l0.length l0) (hc0 : l0.length ≤ c0) (h : signatoryref13_Rank.f l0 = some (r1, r2)) :
    Calls Try.prog 29 #[.slice A0 l0.length c0] w fun e w' => e = .returned (.tuple #[.int .i64 r1, .int .i64 r2]) ∧ Below w.heap.size w w' := by
  have h2 : H.rankAns l0 = (r1, r2) := Option.some.inj h
  have := H.rRank_calls A0 c0 l0 w hr0 hc0
  rw [h2] at this
  exact this
end Go.Proofs.Ytipdpfnjobfbpaa.P


