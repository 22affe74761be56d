/- slices.IndexFunc and slices.ContainsFunc at gates, for a closure that keeps an invariant. -/
import Derived.Test.YtipdpfnjobfbpaaHKit
namespace Go.Proofs.Ytipdpfnjobfbpaa.H
open Go.RowKit Go.Proofs.YtipdpfnjobfbpaaW.PrintWords Go.Proofs.YtipdpfnjobfbpaaW.PrintLast Go.Proofs.YtipdpfnjobfbpaaW.PrintMore Go.Proofs.Ytipdpfnjobfbpaa.P
set_option linter.unusedVariables false
set_option linter.unusedSimpArgs false

/-- The first index of which p tells true, or how many there are. -/
def firstOf (p : Nat → Bool) (n : Nat) : Nat := ((List.range n).findIdx p)
theorem firstOf_hit {p : Nat → Bool} {n k : Nat} (hk : k < n) (h : p k = true) (hb : ∀ j, j < k → p j = false) : firstOf p n = k := by
  unfold firstOf
  rw [List.findIdx_eq (by simpa using hk)]
  simp [h]
  exact hb
theorem firstOf_miss {p : Nat → Bool} {n : Nat} (hb : ∀ j, j < n → p j = false) : firstOf p n = n := by
  unfold firstOf
  have := List.findIdx_eq_length (p := p) (xs := List.range n)
  rw [this.2 (by simpa using hb)]; simp
theorem firstOf_le (p : Nat → Bool) (n : Nat) : firstOf p n ≤ n := by
  have := List.findIdx_le_length (p := p) (xs := List.range n)
  simpa [firstOf] using this
theorem firstOf_lt_all {α : Type} (q : α → Bool) (d : α) (zs : List α) : decide (firstOf (fun j => !q (zs.getD j d)) zs.length < zs.length) = !zs.all q := by
  cases h : zs.all q with
  | true =>
    rw [firstOf_miss (fun j hj => by
      have := List.all_eq_true.1 h (zs.getD j d) (by rw [List.getD_eq_getElem?_getD, List.getElem?_eq_getElem hj]; exact List.getElem_mem hj)
      simp only [this]; rfl)]
    simp
  | false =>
    simp only [Bool.not_false, decide_eq_true_eq]
    apply Nat.lt_of_not_le
    intro hle
    have : zs.all q = true := by
      rw [List.all_eq_true]
      intro x hx
      obtain ⟨j, hj, rfl⟩ := List.getElem_of_mem hx
      cases hq : q zs[j] with
      | true => rfl
      | false =>
        exfalso
        have h1 : firstOf (fun j => !q (zs.getD j d)) zs.length ≤ j := by
          unfold firstOf
          apply Nat.le_of_not_lt
          intro hlt
          have := List.not_of_lt_findIdx hlt
          simp [List.getElem?_eq_getElem hj, hq] at this
        omega
    rw [this] at h; cases h
theorem firstOf_before {p : Nat → Bool} {n i : Nat} (h : i < firstOf p n) : p i = false := by
  have h1 := List.not_of_lt_findIdx (p := p) (xs := List.range n) h
  simp only [List.getElem_range] at h1
  simpa using h1
theorem firstOf_at {p : Nat → Bool} {n : Nat} (h : firstOf p n < n) : p (firstOf p n) = true := by
  have h1 := List.findIdx_getElem (p := p) (xs := List.range n) (w := by simpa [firstOf] using h)
  simpa [firstOf] using h1
/-- slices.IndexFunc's answer. -/
def idxOf (p : Nat → Bool) (n : Nat) : Int := if firstOf p n < n then (firstOf p n : Int) else -1

set_option maxRecDepth 100000 in
set_option maxHeartbeats 2000000 in
theorem IndexFuncG (Inv : Nat → World → Prop) (g : Nat) (lb : Array Value) (eg : ∀ args w, (callFunc g args).run Try.prog w = .ok (.enter g args) w)
    (A : Option Addr) (c : Nat) (zs : List S24) (w0 w : World) (p : Nat → Bool) (hC : Kd.C k24 w0 A zs.length zs) (hbig : zs.length ≤ 9223372036854775807)
    (hI0 : Inv 0 w) (hIB : ∀ j W, Inv j W → Below w0.heap.size w0 W)
    (hp : ∀ j W, j < zs.length → (∀ i, i < j → p i = false) → Inv j W → ∀ A2 c2, RdG w0 (zs.getD j z24) A2 c2 → Calls Try.prog g (#[gv (zs.getD j z24) A2 c2] ++ lb) W fun e W' => e = .returned (.bool (p j)) ∧ Inv (j + 1) W') :
    Calls Try.prog 125 #[.slice A zs.length c, .func (.func g) #[] lb] w fun e W' => e = .returned (.int .i64 (idxOf p zs.length)) ∧ Inv (min (firstOf p zs.length + 1) zs.length) W' := by
  have hrow := fun (W : World) (hW : Below w0.heap.size w0 W) => at_gate0 hC hW
  have hu22 := Try.underlying22
  have hu24 := Try.underlying24
  have L0 := Aside0.mk hrow
  have L1 := Aside0.mk hp
  have L2 := Aside0.mk hIB
  have HI := Aside0.mk hI0
  clear hrow hp hIB hI0 hC
  go_enter Try.func125, Try.ntmps125
  go_wp2
  go_loopg [5, 8] zs.length (fun gg _ s8 wr => ∃ kk : Nat, kk ≤ zs.length ∧ zs.length - kk ≤ gg ∧ s8 = .int .i64 kk ∧ Aside0 (Inv kk wr) ∧ Aside0 (∀ j, j < kk → p j = false))
  case atStart => exact ⟨0, Nat.zero_le _, by omega, rfl, HI, ⟨fun j hj => absurd hj (Nat.not_lt_zero _)⟩⟩
  case round =>
    obtain ⟨kk, hkk, hg, rfl, BW, A0⟩ := hrel
    by_cases hlt : kk < zs.length
    · have hltz : (kk : Int) < (zs.length : Int) := by omega
      obtain ⟨ad, A2, c2, rfl, l0, l1, l2, hK⟩ := L0.out wr (L2.out _ _ BW.out) kk hlt
      have hcall := L1.out kk wr hlt A0.out BW.out A2 c2 hK
      unfold gv at hcall
      generalize zs.getD kk z24 = T at l0 l1 l2 hcall
      have hcall' := Aside0.mk hcall
      clear hcall hK
      cases hq : p kk with
      | true =>
        rw [hq] at hcall'
        have A1 := Aside0.mk hq
        clear hq
        go_wp2_with fail
        refine hcall'.out.mono ?_
        rintro e w' ⟨rfl, hb0⟩
        have hb' := Aside0.mk hb0
        clear hb0
        go_wp2_with fail
        go_ret
        have hf := firstOf_hit hlt A1.out A0.out
        refine ⟨?_, ?_⟩
        · rw [show idxOf p zs.length = (kk : Int) from by simp only [idxOf, hf, if_pos hlt]]; rfl
        · rw [hf, Nat.min_eq_left (by omega)]; exact hb'.out
      | false =>
        rw [hq] at hcall'
        have A1 := Aside0.mk hq
        clear hq
        go_wp2_with fail
        refine hcall'.out.mono ?_
        rintro e w' ⟨rfl, hb0⟩
        have hb' := Aside0.mk hb0
        clear hb0
        go_wp2_with fail
        go_roundg (zs.length - (kk + 1))
        case measure => omega
        case rel =>
          refine ⟨kk + 1, by omega, by omega, by go_num, hb', ⟨fun j hj => ?_⟩⟩
          by_cases e : j = kk
          · subst e; exact A1.out
          · exact A0.out j (by omega)
    · have hltz : ¬ (kk : Int) < (zs.length : Int) := by omega
      have : kk = zs.length := by omega
      subst this
      go_wp2
      go_ret
      have hf := firstOf_miss A0.out
      refine ⟨?_, ?_⟩
      · simp [idxOf, hf]
      · rw [hf, Nat.min_eq_right (by omega)]; exact BW.out

set_option maxRecDepth 100000 in
set_option maxHeartbeats 2000000 in
theorem ContainsFuncG (Inv : Nat → World → Prop) (g : Nat) (lb : Array Value) (eg : ∀ args w, (callFunc g args).run Try.prog w = .ok (.enter g args) w)
    (A : Option Addr) (c : Nat) (zs : List S24) (w0 w : World) (p : Nat → Bool) (hC : Kd.C k24 w0 A zs.length zs) (hbig : zs.length ≤ 9223372036854775807)
    (hI0 : Inv 0 w) (hIB : ∀ j W, Inv j W → Below w0.heap.size w0 W)
    (hp : ∀ j W, j < zs.length → (∀ i, i < j → p i = false) → Inv j W → ∀ A2 c2, RdG w0 (zs.getD j z24) A2 c2 → Calls Try.prog g (#[gv (zs.getD j z24) A2 c2] ++ lb) W fun e W' => e = .returned (.bool (p j)) ∧ Inv (j + 1) W') :
    Calls Try.prog 108 #[.slice A zs.length c, .func (.func g) #[] lb] w fun e W' => e = .returned (.bool (decide (firstOf p zs.length < zs.length))) ∧ Inv (min (firstOf p zs.length + 1) zs.length) W' := by
  have h0 : (0 ≤ idxOf p zs.length) = (firstOf p zs.length < zs.length) := by
    unfold idxOf; split <;> simp_all
  have H0 := Aside0.mk h0
  clear h0
  have hcall := Aside0.mk (IndexFuncG Inv g lb eg A c zs w0 w p hC hbig hI0 hIB hp)
  clear hp hIB hI0 hC
  go_enter Try.func108, Try.ntmps108
  go_wp2_with fail
  refine hcall.out.mono ?_
  rintro e w' ⟨rfl, hb0⟩
  have hb' := Aside0.mk hb0
  clear hb0
  go_wp2_with fail
  go_ret
  refine ⟨?_, hb'.out⟩
  simp only [← H0.out]
  rfl
end Go.Proofs.Ytipdpfnjobfbpaa.H
