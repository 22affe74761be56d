/- LNeed, LIdx, LClone, LCheck, LCopy, merged. -/
import Derived.Test.YtipdpfnjobfbpaaMBase
import Derived.Defers
import Derived.Recover
import Derived.Laws.Pointers
/- linear.need and linear.caught: the work ends by a panic; what it ended with is recovered. -/
namespace Go.Proofs.Ytipdpfnjobfbpaa.H
open Go.RowKit Go.Shelf Go.Proofs.YtipdpfnjobfbpaaW.PrintWords Go.Proofs.YtipdpfnjobfbpaaW.PrintLast Go.Proofs.YtipdpfnjobfbpaaW.PrintMore Go.Proofs.Ytipdpfnjobfbpaa.P
set_option linter.unusedVariables false
set_option linter.unusedSimpArgs false
def errI (e : Int) : Value := .iface 28 (.int .i64 e)
abbrev died (e : Int) : Ending := .panicked [{ v := errI e, recovered := false }]
set_option maxRecDepth 100000 in
theorem need_ok (e : Int) (w : World) : Calls Try.prog 73 #[.bool true, .int .i64 e] w fun x w' => (∃ v, x = .returned v) ∧ w' = w := by
  go_enter Try.func73, Try.ntmps73
  go_wp2_with fail
  refine bodyPost_end (results_none rfl _ _ _) rfl ?_
  exact ⟨⟨_, rfl⟩, rfl⟩
set_option maxRecDepth 100000 in
theorem need_no (e : Int) (w : World) : Calls Try.prog 73 #[.bool false, .int .i64 e] w fun x w' => x = died e ∧ w' = w := by
  go_enter Try.func73, Try.ntmps73
  go_wp2_with fail
  exact ⟨rfl, rfl, rfl⟩
set_option maxRecDepth 100000 in
theorem caught_idle (p : Addr) (w : World) : CallsD Try.prog 72 #[.pointer (some p)] .returning w fun e u' w' => (∃ v, e = .returned v) ∧ u' = .returning ∧ w' = w := by
  refine callsD_of_wpS Try.func72 rfl fun c₀ cs hu => ?_
  simp only [Try.ntmps72, List.size_toArray, List.length_cons, List.length_nil, Nat.reduceAdd, Nat.reduceSub, Array.replicate_succ, Array.replicate_zero, List.push_toArray, List.append_toArray, List.nil_append, List.cons_append]
  apply wpS_seq
  apply wpS_region
  simp [wpOpsS, go_sem, recoverD, hu, Exit.thenS]
  have HU := Aside0.mk hu
  clear hu
  refine wpS_of_wp ?_
  go_wp2_with fail
  exact ⟨rfl, _, by rw [← HU.out], ⟨_, results_none rfl _ _ _, ⟨_, rfl⟩, rfl, rfl⟩⟩
set_option maxRecDepth 100000 in
theorem caught_panicking (p : Addr) (e x : Int) (w : World) (hc : w.cell? p = some (.int .i64 x)) (hz : w.frozen? p = false) :
    CallsD Try.prog 72 #[.pointer (some p)] (.panicking [{ v := errI e, recovered := false }]) w fun r u' w' => (∃ v, r = .returned v) ∧ u' = .panicking [{ v := errI e, recovered := true }] ∧ w' = w.setCell p (.int .i64 e) := by
  refine callsD_of_wpS Try.func72 rfl fun c₀ cs hu => ?_
  simp only [Try.ntmps72, List.size_toArray, List.length_cons, List.length_nil, Nat.reduceAdd, Nat.reduceSub, Array.replicate_succ, Array.replicate_zero, List.push_toArray, List.append_toArray, List.nil_append, List.cons_append]
  apply wpS_seq
  apply wpS_region
  simp [wpOpsS, go_sem, recoverD, hu, Exit.thenS]
  have HU := Aside0.mk hu
  clear hu
  refine wpS_of_wp ?_
  unfold errI
  have hta : ∀ w, (Instr.typeAssert (Value.iface 28 (.int .i64 e)) 20 28 true).run Try.prog w = .ok (.tuple #[.int .i64 e, .bool true]) w := fun _ => by kernel_rfl
  go_wp2_with fail
  exact ⟨rfl, _, rfl, ⟨_, results_none rfl _ _ _, ⟨_, rfl⟩, rfl, rfl⟩⟩
end Go.Proofs.Ytipdpfnjobfbpaa.H


/- slices.IndexFunc and slices.ContainsFunc at whole numbers; slices.Clone. -/
namespace Go.Proofs.Ytipdpfnjobfbpaa.H
open Go.RowKit Go.Shelf Go.Proofs.YtipdpfnjobfbpaaW.PrintWords Go.Proofs.YtipdpfnjobfbpaaW.PrintLast Go.Proofs.YtipdpfnjobfbpaaW.PrintMore Go.Proofs.Ytipdpfnjobfbpaa.P
set_option linter.unusedVariables false
set_option linter.unusedSimpArgs false
def FoundI (q : Int → Bool) (zs : List Int) (w : World) (e : Ending) (w' : World) : Prop := ∃ k : Int, e = .returned (.int .i64 k) ∧ decide (0 ≤ k) = zs.any q ∧ Below w.heap.size w w'
theorem any_take {q : Int → Bool} {zs : List Int} {k : Nat} (h : k < zs.length) (h0 : (zs.take k).any q = false) : (zs.take (k + 1)).any q = q (zs.getD k 0) := by
  rw [List.take_succ_eq_append_getElem h, List.any_append, h0, List.getD_eq_getElem?_getD, List.getElem?_eq_getElem h]; simp
set_option maxRecDepth 100000 in
set_option maxHeartbeats 2000000 in
theorem IndexFuncI (q : Int → Bool) (g : Nat) (lb : Array Value) (eg : ∀ args w, (callFunc g args).run Try.prog w = .ok (.enter g args) w)
    (A : Option Addr) (c : Nat) (zs : List Int) (w : World) (hC : Kd.C (Kd.int .i64) w A zs.length zs) (hbig : zs.length ≤ 9223372036854775807)
    (hp : ∀ x W, Below w.heap.size w W → Calls Try.prog g (#[.int .i64 x] ++ lb) W fun e W' => e = .returned (.bool (q x)) ∧ Below W.heap.size W W') :
    Calls Try.prog 122 #[.slice A zs.length c, .func (.func g) #[] lb] w (FoundI q zs w) := by
  have hrow := fun (W : World) (hW : Below w.heap.size w W) => at_int hC hW
  have L0 := Aside0.mk hrow
  have L1 := Aside0.mk hp
  clear hrow hp hC
  have HB := Aside0.mk (Below.refl w.heap.size w)
  go_enter Try.func122, Try.ntmps122
  go_wp2
  go_loopg [5, 8] zs.length (fun gg _ s8 wr => ∃ kk : Nat, kk ≤ zs.length ∧ zs.length - kk ≤ gg ∧ s8 = .int .i64 kk ∧ Aside0 (Below w.heap.size w wr) ∧ Aside0 ((zs.take kk).any q = false))
  case atStart => exact ⟨0, Nat.zero_le _, by omega, rfl, HB, ⟨rfl⟩⟩
  case round =>
    clear HB
    obtain ⟨kk, hkk, hg, rfl, HB, A0⟩ := hrel
    by_cases hlt : kk < zs.length
    · have hltz : (kk : Int) < (zs.length : Int) := by omega
      obtain ⟨ad, rfl, l0⟩ := L0.out wr HB.out kk hlt
      have HT := Aside0.mk (any_take hlt A0.out)
      have HC := Aside0.mk (L1.out (zs.getD kk 0) wr HB.out)
      have HBR := Aside0.mk (show zs.take (kk + 1) ++ zs.drop (kk + 1) = zs from List.take_append_drop _ _)
      generalize zs.getD kk 0 = x at l0 HT HC
      cases hq : q x with
      | true =>
        rw [hq] at HC HT
        clear hq
        go_wp2_with fail
        refine HC.out.mono ?_
        rintro e w' ⟨rfl, hb0⟩
        have hb' := Aside0.mk hb0
        clear hb0
        go_wp2_with fail
        go_ret
        refine ⟨kk, rfl, ?_, below_call HB.out hb'.out⟩
        have : zs.any q = true := by rw [← HBR.out, List.any_append, HT.out]; rfl
        rw [this]; simp
      | false =>
        rw [hq] at HC HT
        clear hq
        go_wp2_with fail
        refine HC.out.mono ?_
        rintro e w' ⟨rfl, hb0⟩
        have hb' := Aside0.mk (below_call HB.out hb0)
        clear hb0
        go_wp2_with fail
        go_roundg (zs.length - (kk + 1))
        case measure => omega
        case rel => exact ⟨kk + 1, by omega, by omega, by go_num, hb', HT⟩
    · have hltz : ¬ (kk : Int) < (zs.length : Int) := by omega
      have : kk = zs.length := by omega
      subst this
      rw [List.take_length] at A0
      go_wp2
      go_ret
      refine ⟨-1, rfl, ?_, HB.out⟩
      rw [A0.out]; rfl
set_option maxRecDepth 100000 in
set_option maxHeartbeats 2000000 in
theorem ContainsFuncI (q : Int → Bool) (g : Nat) (lb : Array Value) (eg : ∀ args w, (callFunc g args).run Try.prog w = .ok (.enter g args) w)
    (A : Option Addr) (c : Nat) (zs : List Int) (w : World) (hC : Kd.C (Kd.int .i64) w A zs.length zs) (hbig : zs.length ≤ 9223372036854775807)
    (hp : ∀ x W, Below w.heap.size w W → Calls Try.prog g (#[.int .i64 x] ++ lb) W fun e W' => e = .returned (.bool (q x)) ∧ Below W.heap.size W W') :
    Calls Try.prog 100 #[.slice A zs.length c, .func (.func g) #[] lb] w fun e W' => e = .returned (.bool (zs.any q)) ∧ Below w.heap.size w W' := by
  have hcall := Aside0.mk (IndexFuncI q g lb eg A c zs w hC hbig hp)
  clear hp hC
  go_enter Try.func100, Try.ntmps100
  go_wp2_with fail
  refine hcall.out.mono ?_
  rintro e w' ⟨k, rfl, hk, hb0⟩
  have hb' := Aside0.mk hb0
  have HK := Aside0.mk hk
  clear hb0 hk
  go_wp2_with fail
  go_ret
  refine ⟨?_, hb'.out⟩
  rw [← HK.out]; rfl
/-- What is no number of the field. -/
def oddQ (x : Int) : Bool := decide (x < 0) || decide (x ≥ 1073741789)
theorem odd_enters : ∀ args w, (callFunc 115 args).run Try.prog w = .ok (.enter 115 args) w := enters_of Try.func115 (by kernel_rfl) rfl
set_option maxRecDepth 100000 in
theorem odd_calls (x : Int) (w : World) : Calls Try.prog 115 (#[.int .i64 x] ++ #[]) w fun e w' => e = .returned (.bool (oddQ x)) ∧ Below w.heap.size w w' := by
  show Calls Try.prog 115 #[.int .i64 x] w _
  obtain ⟨r, hr⟩ : ∃ r, oddQ x = r := ⟨_, rfl⟩
  rw [hr]
  unfold oddQ at hr
  by_cases h1 : x < 0
  · rw [decide_eq_true h1] at hr
    simp only [Bool.true_or] at hr
    subst hr
    go_enter Try.func115, Try.ntmps115
    go_wp2_with fail
    go_ret
    exact ⟨rfl, Below.refl _ _⟩
  · have h1' : 0 ≤ x := by omega
    rw [decide_eq_false h1] at hr
    simp only [Bool.false_or] at hr
    have hd : decide (x < 0) = false := by simpa using h1
    clear h1
    go_enter Try.func115, Try.ntmps115
    go_wp2_with fail
    go_ret
    exact ⟨by rw [← hr]; rfl, Below.refl _ _⟩
end Go.Proofs.Ytipdpfnjobfbpaa.H


/- slices.Clone at whole numbers, in the form in which its callers take it. -/
namespace Go.Proofs.Ytipdpfnjobfbpaa.P
open Go.RowKit Go.Shelf Go.Proofs.YtipdpfnjobfbpaaW.PrintWords Go.Proofs.YtipdpfnjobfbpaaW.PrintLast Go.Proofs.YtipdpfnjobfbpaaW.PrintMore
set_option linter.unusedVariables false
set_option linter.unusedSimpArgs false
def slices_Clone_int_int.f (l0 : List Int) : Option (List Int) := if l0.length < 17592186044416 then some l0 else none
set_option maxRecDepth 100000 in
set_option maxHeartbeats 2000000 in
theorem slices_Clone_int_int.calls (A0 : Option Addr) (c0 : Nat) (l0 : List Int) (r : List Int) (w : World) (hr0 : Kd.C (Kd.int .i64) w A0 l0.length l0) (hc0 : l0.length ≤ c0) (h : slices_Clone_int_int.f l0 = some r) :
    Calls Try.prog 111 #[.slice A0 l0.length c0] w fun e w' => ∃ v0_ : Value, e = .returned (v0_) ∧ Kd.R (Kd.int .i64) 3 w' w.heap.size (fun _ => True) v0_ r ∧ Below w.heap.size w w' := by
  unfold slices_Clone_int_int.f at h
  have hlt : l0.length < 17592186044416 := by
    apply Classical.byContradiction; intro hn; rw [if_neg hn] at h; cases h
  rw [if_pos hlt] at h
  cases h
  have HR := Aside0.mk hr0
  have HB := Aside0.mk (Below.refl w.heap.size w)
  have hlen0 : A0 = none → l0 = [] := fun e => by
    apply Classical.byContradiction
    intro hne
    obtain ⟨ad, h1, _⟩ := hr0.2.2 (List.length_pos_iff.2 hne)
    rw [e] at h1; cases h1
  clear hr0
  have heq := fun (w : World) => Lib.run_eql_slice_nil (P := Try.prog) w 31 3 A0 l0.length c0 0 0 Try.underlying31
  cases A0 with
  | none =>
    have h0 := hlen0 rfl
    subst h0
    clear hlen0 heq HR
    have heq := fun (w : World) => Lib.run_eql_slice_nil (P := Try.prog) w 31 3 none 0 c0 0 0 Try.underlying31
    show Calls Try.prog 111 #[.slice none 0 c0] w _
    go_enter Try.func111, Try.ntmps111
    go_wp2_with fail
    go_ret
    exact ⟨_, rfl, Kd.R_nil _ _ _ _ _, Below.refl _ _⟩
  | some ad =>
    clear hlen0
    go_enter Try.func111, Try.ntmps111
    go_wp2_with (first | ((with_reducible refine gate_dst (N := 5) rfl ?_); refine Kd.R_lit (Kd.int .i64) w.heap.size 3 ?hg (w0 := w) (N := 5) ?hd (xs := ([] : List Int)) (inner := []) (ok := fun _ => True) (okp := fun _ => True) ?hr ?hp (fun _ hk => hk) trivial (Below.refl _ _) (Nat.le_refl _) (by simp) ?_; (case hd => rfl); (case hg => rfl); (case hr => first | (go_simp; done) | (go_simp; rfl)); (case hp => exact (Reps.none _ _)); intro v1 w1 ho hb hg_ hnew_; have HO := Aside0.mk ho; have HB1 := Aside0.mk hb; clear ho hb hg_ hnew_) | (at_builtin; refine Kd.R_append_rows (Kd.int .i64) (w0 := w) w.heap.size rfl (.tmp 5) (.tmp 6) 31 3 (.int .i64 0) 8 rfl Try.underlying31 info3 rfl (by decide) (by omega) v1 [] l0 (some ad) _ _ (fun _ => True) (fun _ => False) rfl rfl HO.out (Kd.C_below HR.out HB1.out) (fun _ _ h => h) (fun _ hk => hk.elim) (fun _ _ => trivial) HB1.out HB1.out.size (by simp only [List.length_nil]; omega) ?_; intro v2 w2 ho hb hg hat; have HO2 := Aside0.mk ho; have HB2 := Aside0.mk hb; clear ho hb hg hat))
    go_ret
    exact ⟨_, rfl, HO2.out, HB2.out⟩
end Go.Proofs.Ytipdpfnjobfbpaa.P


/- linear.check, examine and Check: what they tell of rows and targets. -/
namespace Go.Proofs.Ytipdpfnjobfbpaa.H
open Go.RowKit Go.Shelf Go.Proofs.YtipdpfnjobfbpaaW.PrintWords Go.Proofs.YtipdpfnjobfbpaaW.PrintLast Go.Proofs.YtipdpfnjobfbpaaW.PrintMore Go.Proofs.Ytipdpfnjobfbpaa.P
set_option linter.unusedVariables false
set_option linter.unusedSimpArgs false
abbrev kRows : Kd (List Int) := Kd.slice 3 (Kd.int .i64)
theorem at_row {w W : World} {A : Option Addr} {zs : List (List Int)} (h : Kd.C kRows w A zs.length zs) (hb : Below w.heap.size w W) (i : Nat) (h1 : i < zs.length) : ∃ ad A2 c2, A = some ad ∧
    W.cell? (ad.add i) = some (.slice A2 (zs.getD i []).length c2) ∧ (zs.getD i []).length ≤ c2 ∧ Kd.C (Kd.int .i64) W A2 (zs.getD i []).length (zs.getD i []) := by
  obtain ⟨ad, c, e, _, hK, hc⟩ := Kd.C_get h ([] : List Int) (i : Int) (by omega) (by omega)
  obtain ⟨A2, c2, hcs, hle, hC⟩ := hK
  have e2 : ((i : Int)).toNat = i := by omega
  rw [e2] at hcs hle hC hc
  refine ⟨ad, A2, c2, e, pw_cell_below hb ?_, hle, Kd.C_below hC hb⟩
  have := hc 0 (.slice A2 (zs.getD i []).length c2) (by rw [hcs]; rfl)
  rw [show kRows.sz = 1 from rfl] at this
  simpa using this
def longR (x : List Int) : Bool := decide (64 < x.length)
def oddR (n : Nat) (x : List Int) : Bool := (x.length != n) || x.any oddQ
def chk (l : List (List Int)) : Int := if l.any longR then 2 else if l.any (oddR (l.getD 0 []).length) then 130 else 0
def ChkEnd (r : Int) (w : World) (e : Ending) (w' : World) : Prop := (r = 0 → ∃ v, e = .returned v) ∧ (r ≠ 0 → e = died r) ∧ Below w.heap.size w w'
theorem any_take_row {q : List Int → Bool} {zs : List (List Int)} {k : Nat} (h : k < zs.length) (h0 : (zs.take k).any q = false) : (zs.take (k + 1)).any q = q (zs.getD k []) := by
  rw [List.take_succ_eq_append_getElem h, List.any_append, h0, List.getD_eq_getElem?_getD, List.getElem?_eq_getElem h]; simp
theorem any_of_take {q : List Int → Bool} {zs : List (List Int)} {k : Nat} (h : (zs.take k).any q = true) : zs.any q = true := by
  rw [← List.take_append_drop k zs, List.any_append, h]; rfl

set_option maxRecDepth 100000 in
set_option maxHeartbeats 4000000 in
theorem check74_calls (A : Option Addr) (c : Nat) (zs : List (List Int)) (w : World) (hC : Kd.C kRows w A zs.length zs) (hc : zs.length ≤ c) :
    Calls Try.prog 74 #[.slice A zs.length c] w (ChkEnd (chk zs) w) := by
  have hbig : zs.length ≤ 9223372036854775807 := hC.2.1
  have L0 := Aside0.mk (fun (W : World) (hW : Below w.heap.size w W) => at_row hC hW)
  have HB := Aside0.mk (Below.refl w.heap.size w)
  clear hC
  go_enter Try.func74, Try.ntmps74
  go_wp2_with fail
  go_loopw [9] (fun v9 wr => ∃ k : Nat, k ≤ zs.length ∧ v9 = .int .i64 k ∧ Aside0 (Below w.heap.size w wr) ∧ Aside0 ((zs.take k).any longR = false)) (fun v9 _ => zs.length - (intOf v9).toNat)
  case atStart => exact ⟨0, Nat.zero_le _, rfl, HB, ⟨rfl⟩⟩
  case round =>
    clear HB
    obtain ⟨k, hk, rfl, HB, A0⟩ := hrel
    by_cases hlt : k < zs.length
    · have hltz : (k : Int) < (zs.length : Int) := by omega
      obtain ⟨ad, A2, c2, rfl, l0, hle, hC2⟩ := L0.out wr HB.out k hlt
      have HT := Aside0.mk (any_take_row hlt A0.out)
      have HLX := Aside0.mk (show longR (zs.getD k []) = decide (64 < (zs.getD k []).length) from rfl)
      generalize zs.getD k [] = x at l0 hle hC2 HT HLX
      clear hC2 hle
      by_cases hx : x.length ≤ 64
      · have hxz : decide ((x.length : Int) ≤ 64) = true := by rw [decide_eq_true_eq]; omega
        have HX := Aside0.mk hx
        clear hx
        go_wp2_with fail
        refine (need_ok 2 _).mono ?_
        rintro e w' ⟨⟨v, rfl⟩, rfl⟩
        go_wp2_with fail
        go_roundw
        case rel => exact ⟨k + 1, by omega, by go_num, HB, ⟨by rw [HT.out, HLX.out, decide_eq_false_iff_not]; have := HX.out; omega⟩⟩
        case measure => simp [intOf]; omega
      · have hxz : decide ((x.length : Int) ≤ 64) = false := by rw [decide_eq_false_iff_not]; omega
        have HX := Aside0.mk hx
        clear hx
        go_wp2_with fail
        refine (need_no 2 _).mono ?_
        rintro e w' ⟨rfl, rfl⟩
        have hany := any_of_take (q := longR) (zs := zs) (k := k + 1) (by rw [HT.out, HLX.out, decide_eq_true_eq]; have := HX.out; omega)
        have hch : chk zs = 2 := by unfold chk; rw [if_pos hany]
        refine ⟨rfl, ?_⟩
        rw [hch]
        exact ⟨fun h => absurd h (by decide), fun _ => rfl, HB.out⟩
    · have hltz : ¬ (k : Int) < (zs.length : Int) := by omega
      have hkn : zs.length = k := by omega
      have HLO := Aside0.mk (show zs.any longR = false by have := A0.out; rwa [← hkn, List.take_length] at this)
      clear A0 hlt hk hkn
      go_wp2_with fail
      have HB0 := HB
      go_loopw [20] (fun v20 wr => ∃ k : Nat, k ≤ zs.length ∧ v20 = .int .i64 k ∧ Aside0 (Below w.heap.size w wr) ∧ Aside0 ((zs.take k).any (oddR (zs.getD 0 []).length) = false)) (fun v20 _ => zs.length - (intOf v20).toNat)
      case atStart => exact ⟨0, Nat.zero_le _, rfl, HB0, ⟨rfl⟩⟩
      case round =>
        clear HB0 HB hltz
        obtain ⟨k, hk, rfl, HB, A0⟩ := hrel
        by_cases hlt : k < zs.length
        · have hltz : (k : Int) < (zs.length : Int) := by omega
          have h0z : 0 < zs.length := by omega
          obtain ⟨ad, A2, c2, rfl, l0, hle, hC2⟩ := L0.out wr HB.out k hlt
          obtain ⟨ad', A3, c3, e3, l3, hle3, hC3⟩ := L0.out wr HB.out 0 h0z
          cases e3
          have HT := Aside0.mk (any_take_row hlt A0.out)
          have HLX := Aside0.mk (show oddR (zs.getD 0 []).length (zs.getD k []) = (((zs.getD k []).length != (zs.getD 0 []).length) || (zs.getD k []).any oddQ) from rfl)
          generalize hx0 : zs.getD 0 [] = x0 at l3 hle3 hC3 HT HLX A0 ⊢
          generalize zs.getD k [] = x at l0 hle hC2 HT HLX
          have H00 := Aside0.mk hx0
          have HC2 := Aside0.mk hC2
          clear hx0 hC2 hC3 hle hle3
          have hadd : (ad.add 0) = ad := by unfold Addr.add; simp
          rw [hadd] at l3
          by_cases hx : x.length = x0.length
          · have hxz : ((x.length : Int) == (x0.length : Int)) = true := by rw [beq_iff_eq]; omega
            have HX := Aside0.mk hx
            clear hx
            cases hq : x.any oddQ with
            | false =>
              have HQ := Aside0.mk hq
              have HCF := Aside0.mk (fun (W : World) (hW : Below wr.heap.size wr W) => ContainsFuncI oddQ 115 #[] odd_enters A2 c2 x W (Kd.C_below HC2.out hW) HC2.out.2.1 (fun x W _ => odd_calls x W))
              rw [hq] at HCF
              clear hq
              go_wp2_with fail
              refine (HCF.out _ (Below.refl _ _)).mono ?_
              rintro e w' ⟨rfl, hb⟩
              have HB2 := Aside0.mk (below_call HB.out hb)
              clear hb
              go_wp2_with fail
              refine (need_ok 130 _).mono ?_
              rintro e w3 ⟨⟨v, rfl⟩, rfl⟩
              go_wp2_with fail
              go_roundw
              case rel => exact ⟨k + 1, by omega, by go_num, HB2, ⟨by rw [HT.out, HLX.out, HX.out, HQ.out]; simp⟩⟩
              case measure => simp [intOf]; omega
            | true =>
              have HQ := Aside0.mk hq
              have HCF := Aside0.mk (fun (W : World) (hW : Below wr.heap.size wr W) => ContainsFuncI oddQ 115 #[] odd_enters A2 c2 x W (Kd.C_below HC2.out hW) HC2.out.2.1 (fun x W _ => odd_calls x W))
              rw [hq] at HCF
              clear hq
              go_wp2_with fail
              refine (HCF.out _ (Below.refl _ _)).mono ?_
              rintro e w' ⟨rfl, hb⟩
              have HB2 := Aside0.mk (below_call HB.out hb)
              clear hb
              go_wp2_with fail
              refine (need_no 130 _).mono ?_
              rintro e w3 ⟨rfl, rfl⟩
              have hch : chk zs = 130 := by
                unfold chk
                rw [HLO.out, if_neg (by simp), H00.out, if_pos]
                exact any_of_take (k := k + 1) (by rw [HT.out, HLX.out, HQ.out]; simp)
              refine ⟨rfl, ?_⟩
              rw [hch]
              exact ⟨fun h => absurd h (by decide), fun _ => rfl, HB2.out⟩
          · have hxz : ((x.length : Int) == (x0.length : Int)) = false := by rw [beq_eq_false_iff_ne]; omega
            have HX := Aside0.mk hx
            clear hx
            go_wp2_with fail
            refine (need_no 130 _).mono ?_
            rintro e w3 ⟨rfl, rfl⟩
            have hch : chk zs = 130 := by
              unfold chk
              rw [HLO.out, if_neg (by simp), H00.out, if_pos]
              refine any_of_take (k := k + 1) (by rw [HT.out, HLX.out]; simp [HX.out])
            refine ⟨rfl, ?_⟩
            rw [hch]
            exact ⟨fun h => absurd h (by decide), fun _ => rfl, HB.out⟩
        · have hltz : ¬ (k : Int) < (zs.length : Int) := by omega
          have hkn : zs.length = k := by omega
          have HOD := Aside0.mk (show zs.any (oddR (zs.getD 0 []).length) = false by have := A0.out; rwa [← hkn, List.take_length] at this)
          clear A0 hlt hk hkn
          go_wp2_with fail
          refine bodyPost_end (results_none rfl _ _ _) rfl ?_
          have hch : chk zs = 0 := by unfold chk; rw [HLO.out, HOD.out]; simp
          rw [hch]
          exact ⟨fun _ => ⟨_, rfl⟩, fun h => absurd rfl h, HB.out⟩

theorem rows1 {W : World} {b : Nat} {A1 : Option Addr} {c1 : Nat} {t : List Int} (hb : W.heap[b]? = some (.cells #[.slice A1 t.length c1] 31 (0, 0))) (h : Kd.C (Kd.int .i64) W A1 t.length t) (hc : t.length ≤ c1) : Kd.C kRows W (some ⟨b, 0, none⟩) 1 [t] := by
  refine ⟨rfl, by omega, fun _ => ⟨⟨b, 0, none⟩, rfl, fun j p hj => ?_⟩⟩
  obtain rfl : j = 0 := by
    rcases j with _ | j
    · rfl
    · simp at hj
  obtain rfl : t = p := by simpa using hj
  refine ⟨[.slice A1 t.length c1], rfl, ⟨A1, c1, rfl, hc, h⟩, fun i u hu => ?_⟩
  rcases i with _ | i
  · rw [add_plain]
    have e : (0 * kRows.sz + 0) = 0 := by simp
    rw [e, blk_cell hb]; simpa using hu
  · simp at hu
/-- What examine tells. -/
def exam (l : List (List Int)) (t : List Int) : Int :=
  if 64 < l.length then 2 else if chk l ≠ 0 then chk l else if chk [t] ≠ 0 then chk [t] else if l.length = 0 ∨ (l.getD 0 []).length = t.length then 0 else 130
def checkP (l : List (List Int)) : Int := if 64 < l.length then 2 else chk l
set_option maxRecDepth 100000 in
set_option maxHeartbeats 4000000 in
theorem exam_calls (A : Option Addr) (c : Nat) (zs : List (List Int)) (A1 : Option Addr) (c1 : Nat) (t : List Int) (w : World) (hC : Kd.C kRows w A zs.length zs) (hc : zs.length ≤ c) (hC1 : Kd.C (Kd.int .i64) w A1 t.length t) (hc1 : t.length ≤ c1) :
    Calls Try.prog 76 #[.slice A zs.length c, .slice A1 t.length c1] w (ChkEnd (exam zs t) w) := by
  have HC := Aside0.mk hC
  have HC1 := Aside0.mk hC1
  clear hC hC1
  by_cases h64 : 64 < zs.length
  · have hd : decide ((zs.length : Int) ≤ 64) = false := by rw [decide_eq_false_iff_not]; omega
    have he : exam zs t = 2 := by unfold exam; rw [if_pos h64]
    rw [he]
    clear h64 he
    go_enter Try.func76, Try.ntmps76
    go_wp2_with fail
    refine (need_no 2 _).mono ?_
    rintro e w' ⟨rfl, rfl⟩
    exact ⟨rfl, fun h => absurd h (by decide), fun _ => rfl, Below.refl _ _⟩
  · have hd : decide ((zs.length : Int) ≤ 64) = true := by rw [decide_eq_true_eq]; omega
    have he : exam zs t = if chk zs ≠ 0 then chk zs else if chk [t] ≠ 0 then chk [t] else if zs.length = 0 ∨ (zs.getD 0 []).length = t.length then 0 else 130 := by unfold exam; rw [if_neg h64]
    obtain ⟨r, hr⟩ : ∃ r, exam zs t = r := ⟨_, rfl⟩
    rw [hr] at he ⊢
    have HE := Aside0.mk he
    clear h64 he hr
    go_enter Try.func76, Try.ntmps76
    go_wp2_with fail
    refine (need_ok 2 _).mono ?_
    rintro e w' ⟨⟨v, rfl⟩, rfl⟩
    go_wp2_with fail
    refine (check74_calls A c zs w' HC.out hc).mono ?_
    rintro e w2 ⟨h1, h2, hb2⟩
    by_cases hz : chk zs = 0
    · obtain ⟨v, rfl⟩ := h1 hz
      have HE2 := Aside0.mk (HE.out.trans (if_neg (fun h => h hz)))
      have HB2 := Aside0.mk hb2
      clear h1 h2 hb2 hz HE
      go_wp2_with fail
      have kt := blk_new w2 (Obj.cells #[.slice A1 t.length c1] 31)
      refine (check74_calls (some ⟨w2.heap.size, 0, none⟩) 1 [t] _ (rows1 kt (Kd.C_below HC1.out (below_alloc HB2.out _)) hc1) (Nat.le_refl _)).mono ?_
      rintro e w3 ⟨h1, h2, hb3⟩
      have hb3' := below_call (below_alloc HB2.out (Obj.cells #[.slice A1 t.length c1] 31)) hb3
      have HB3 := Aside0.mk hb3'
      by_cases hz2 : chk [t] = 0
      · obtain ⟨v, rfl⟩ := h1 hz2
        have HE3 := Aside0.mk (HE2.out.trans (if_neg (fun h => h hz2)))
        clear h1 h2 hb3 hz2 hb3' kt HE2
        by_cases hl : zs.length = 0
        · have hlz : ((zs.length : Int) == 0) = true := by rw [beq_iff_eq]; omega
          have HE4 := Aside0.mk (HE3.out.trans (if_pos (.inl hl)))
          clear hl HE3
          go_wp2_with fail
          refine (need_ok 130 _).mono ?_
          rintro e w4 ⟨⟨v, rfl⟩, rfl⟩
          go_wp2_with fail
          refine bodyPost_end (results_none rfl _ _ _) rfl ?_
          exact ⟨fun _ => ⟨_, rfl⟩, fun h => absurd HE4.out h, HB3.out⟩
        · have hlz : ((zs.length : Int) == 0) = false := by rw [beq_eq_false_iff_ne]; omega
          have hlz2 : (0 : Int) < (zs.length : Int) := by omega
          obtain ⟨ad, A3, c3, rfl, l3, _, _⟩ := at_row HC.out HB3.out 0 (by omega)
          have hadd : (ad.add 0) = ad := by unfold Addr.add; simp
          rw [hadd] at l3
          have HL := Aside0.mk hl
          clear hl
          by_cases hlen : (zs.getD 0 []).length = t.length
          · have hlz3 : (((zs.getD 0 []).length : Int) == (t.length : Int)) = true := by rw [beq_iff_eq]; omega
            have HE4 := Aside0.mk (HE3.out.trans (if_pos (.inr hlen)))
            generalize zs.getD 0 [] = x0 at l3 hlen hlz3
            clear hlen HE3
            go_wp2_with fail
            refine (need_ok 130 _).mono ?_
            rintro e w4 ⟨⟨v, rfl⟩, rfl⟩
            go_wp2_with fail
            refine bodyPost_end (results_none rfl _ _ _) rfl ?_
            exact ⟨fun _ => ⟨_, rfl⟩, fun h => absurd HE4.out h, HB3.out⟩
          · have hlz3 : (((zs.getD 0 []).length : Int) == (t.length : Int)) = false := by rw [beq_eq_false_iff_ne]; omega
            have HE4 := Aside0.mk (HE3.out.trans (if_neg (fun h => h.elim HL.out hlen)))
            generalize zs.getD 0 [] = x0 at l3 hlen hlz3
            clear hlen HE3
            go_wp2_with fail
            refine (need_no 130 _).mono ?_
            rintro e w4 ⟨rfl, rfl⟩
            exact ⟨rfl, fun h => absurd h (by rw [HE4.out]; decide), fun _ => by rw [HE4.out], HB3.out⟩
      · have he2 := h2 hz2
        subst he2
        have HE3 := HE2.out.trans (if_pos hz2)
        exact ⟨rfl, fun h => absurd h (by rw [HE3]; exact hz2), fun _ => by rw [HE3], HB3.out⟩
    · have he2 := h2 hz
      subst he2
      have HE3 := HE.out.trans (if_pos hz)
      exact ⟨rfl, fun h => absurd h (by rw [HE3]; exact hz), fun _ => by rw [HE3], hb2⟩
end Go.Proofs.Ytipdpfnjobfbpaa.H


/- linear.copyOf and linear.turned make tables of rows, each in a block of its own. -/
namespace Go.Proofs.Ytipdpfnjobfbpaa.H
open Go.RowKit Go.Shelf Go.Proofs.YtipdpfnjobfbpaaW.PrintWords Go.Proofs.YtipdpfnjobfbpaaW.PrintLast Go.Proofs.YtipdpfnjobfbpaaW.PrintMore Go.Proofs.Ytipdpfnjobfbpaa.P SG.Lin
set_option linter.unusedVariables false
set_option linter.unusedSimpArgs false

theorem reps_ints {W : World} {base : Nat} {ok : Nat → Prop} : ∀ {xs : List Int} {cs : List Value}, Reps ((Kd.int .i64).M W base ok) 1 xs cs → cs = nums .i64 xs := by
  intro xs cs h
  obtain ⟨hl, hr⟩ := h
  apply List.ext_getElem
  · simp [nums]; omega
  · intro i h1 h2
    have hi : i < xs.length := by simpa [nums] using h2
    have := hr i xs[i] (List.getElem?_eq_getElem hi)
    have e : (cs.drop (i * 1)).take 1 = [.int .i64 xs[i]] := this
    rw [Nat.mul_one] at e
    have e2 := congrArg (fun l => l[0]?) e
    simp [List.getElem?_take, List.getElem?_drop, h1] at e2
    simp [nums, e2]
/-- A row of whole numbers that is one's own, written out. -/
theorem R_rowO {W : World} {base : Nat} {ok : Nat → Prop} {v : Value} {xs : List Int} (h : Kd.R (Kd.int .i64) 3 W base ok v xs) (hp : 0 < xs.length) :
    ∃ g cap px, v = .slice (some ⟨g, 0, none⟩) xs.length cap ∧ xs.length ≤ cap ∧ base ≤ g ∧ g < W.heap.size ∧ W.heap[g]? = some (rowO xs px) ∧ ok g := by
  obtain ⟨h0, inner, ho, hr⟩ := h
  have hin := reps_ints hr
  rcases ho.2 with ⟨_, hz⟩ | ⟨g, cap, cur, rfl, hg, hh, hle, _, hsz, htk⟩
  · omega
  · refine ⟨g, cap, cur.toList.drop xs.length, rfl, hle, hg, blk_lt hh, ?_, h0 g (by simp [Value.ownBlock])⟩
    have e : cur.toList.take xs.length = nums .i64 xs := by
      have := htk
      rw [show xs.length * (Kd.int .i64).sz = xs.length from Nat.mul_one _] at this
      rw [this, hin]
    rw [hh]
    unfold rowO
    congr 2
    apply Array.ext'
    rw [← e]; simp
/-- A table that is one's own, written out. -/
theorem S_OT {W : World} {base : Nat} {ok : Nat → Prop} {v : Value} {T : Tab} {L : Nat} (h : Kd.S kRows 31 W base ok v T) (hN : 0 < T.length) (hL : 0 < L) (hw : ∀ x, x ∈ T → x.length = L) :
    ∃ tb cap hs b cp px, v = .slice (some ⟨tb, 0, none⟩) T.length cap ∧ T.length ≤ cap ∧ OT W base W.heap.size tb hs b cp px T L := by
  obtain ⟨f, h0, inner, ho, hr⟩ := h
  rw [List.length_zipIdx] at ho
  rcases ho.2 with ⟨_, hz⟩ | ⟨g, cap, cur, rfl, hg, hh, hle, _, hsz, htk⟩
  · omega
  · have hrow : ∀ i, ∃ q : Nat × Nat × List Value, i < T.length → cur[i]? = some (.slice (some ⟨q.1, 0, none⟩) L q.2.1) ∧ L ≤ q.2.1 ∧ W.heap[q.1]? = some (rowO (T.getD i []) q.2.2) ∧ base ≤ q.1 ∧ q.1 < W.heap.size ∧ f q.1 = i := by
      intro i
      by_cases hi : i < T.length
      · have hrep := hr.2 i (T[i], i) (Kd.zip_at (List.getElem?_eq_getElem hi))
        obtain ⟨u, hcs, hR⟩ := hrep
        have hTi : T.getD i [] = T[i] := by rw [List.getD_eq_getElem?_getD, List.getElem?_eq_getElem hi]; rfl
        have hli : (T[i]).length = L := hw _ (List.getElem_mem hi)
        obtain ⟨g2, cap2, px2, rfl, h1, h2, h3, h4, h5⟩ := R_rowO hR (by show 0 < (T[i]).length; omega)
        simp only at h1 h4
        refine ⟨⟨g2, cap2, px2⟩, fun _ => ⟨?_, by rw [← hli]; exact h1, by rw [hTi]; exact h4, h2, h3, h5.2⟩⟩
        have e : ((inner.drop (i * (Kd.tag f kRows).sz)).take (Kd.tag f kRows).sz) = [.slice (some ⟨g2, 0, none⟩) (T[i]).length cap2] := hcs
        rw [show (Kd.tag f kRows).sz = 1 from rfl, Nat.mul_one] at e
        have e2 := congrArg (fun l => l[0]?) e
        have hil : inner.length = T.length := by have := ho.1; rwa [show (Kd.tag f kRows).sz = 1 from rfl, Nat.mul_one] at this
        simp [List.getElem?_take, List.getElem?_drop] at e2
        rw [show (Kd.tag f kRows).sz = 1 from rfl, Nat.mul_one] at htk
        rw [← htk, List.getElem?_take, if_pos hi] at e2
        rw [← hli]
        simpa using e2
      · exact ⟨⟨0, 0, []⟩, fun h => absurd h hi⟩
    obtain ⟨F, hF⟩ := Classical.axiomOfChoice hrow
    refine ⟨g, cap, cur, fun i => (F i).1, fun i => (F i).2.1, fun i => (F i).2.2, rfl, hle, hh, fun i hi => (hF i hi).1, fun i hi => (hF i hi).2.2.1, fun i hi => (hF i hi).2.1, fun i hi => hw _ (getD_mem hi), fun i k hi hk e => ?_, ⟨hg, blk_lt hh⟩, fun i hi => ⟨(hF i hi).2.2.2.1, (hF i hi).2.2.2.2.1⟩⟩
    have e1 := (hF i hi).2.2.2.2.2
    have e2 := (hF k hk).2.2.2.2.2
    rw [show (F i).1 = (F k).1 from e] at e1; omega
theorem own_parts {W : World} {base n : Nat} {v : Value} {xs : List Value} (h : W.ownsRow base 31 1 v n xs) (hn : 0 < n) : ∃ tb cap hs, v = .slice (some ⟨tb, 0, none⟩) n cap ∧ base ≤ tb ∧ W.heap[tb]? = some (.cells hs 31 (0, 0)) ∧ n ≤ hs.size := by
  rcases h.2 with ⟨_, hz⟩ | ⟨g, cap, cur, rfl, hg, hh, hle, _, hsz, _⟩
  · omega
  · exact ⟨g, cap, cur, rfl, hg, hh, by omega⟩
theorem sz_set2 (W : World) (p : Addr) (v : Value) : (W.setCell p v).heap.size = W.heap.size := by
  show (W.heap.modify _ _).size = _; rw [Array.size_modify]
theorem OT.wider {W : World} {n0 n1 n2 tb : Nat} {hs : Array Value} {b cp : Nat → Nat} {px : Nat → List Value} {T : Tab} {L : Nat} (h : OT W n0 n1 tb hs b cp px T L) (hn : n1 ≤ n2) : OT W n0 n2 tb hs b cp px T L :=
  ⟨h.head, h.at_, h.row, h.cap, h.wide, h.inj, ⟨h.tbb.1, by have := h.tbb; omega⟩, fun i hi => ⟨(h.bb i hi).1, by have := h.bb i hi; omega⟩⟩
/-- A further row has been laid. -/
theorem OT.add {W : World} {n0 n1 n2 tb : Nat} {hs : Array Value} {b cp : Nat → Nat} {px : Nat → List Value} {zs : Tab} {L k g c2 : Nat} {p : List Value} (h : OT W n0 n1 tb hs b cp px (zs.take k) L) (hk : k < zs.length) (hhs : k < hs.size)
    (hx : (zs.getD k []).length = L) (hg : W.heap[g]? = some (rowO (zs.getD k []) p)) (hc : L ≤ c2) (h0 : n0 ≤ g) (h1 : n1 ≤ g) (h2 : g < n2) :
    OT (W.setCell ⟨tb, k, none⟩ (.slice (some ⟨g, 0, none⟩) L c2)) n0 n2 tb (hs.setIfInBounds k (.slice (some ⟨g, 0, none⟩) L c2)) (fun i => if i = k then g else b i) (fun i => if i = k then c2 else cp i) (fun i => if i = k then p else px i) (zs.take (k + 1)) L := by
  have hl : (zs.take k).length = k := by rw [List.length_take]; omega
  have hl1 : (zs.take (k + 1)).length = k + 1 := by rw [List.length_take]; omega
  have ht : ∀ i, i < k → (zs.take (k + 1)).getD i [] = (zs.take k).getD i [] := fun i hi => by
    rw [List.getD_eq_getElem?_getD, List.getElem?_take, if_pos (by omega), List.getD_eq_getElem?_getD, List.getElem?_take, if_pos hi]
  have htk : (zs.take (k + 1)).getD k [] = zs.getD k [] := by rw [List.getD_eq_getElem?_getD, List.getElem?_take, if_pos (by omega), ← List.getD_eq_getElem?_getD]
  have hgt : g ≠ tb := by have := h.tbb; omega
  have lt : ∀ i, i < (zs.take (k + 1)).length → i ≠ k → i < (zs.take k).length := fun i hi hne => by omega
  refine ⟨blk_set h.head k _, fun i hi => ?_, fun i hi => ?_, fun i hi => ?_, fun i hi => ?_, fun i j hi hj e => ?_, ⟨h.tbb.1, by have := h.tbb; omega⟩, fun i hi => ?_⟩
  · rw [Array.getElem?_setIfInBounds]
    by_cases e : i = k
    · subst e; simp [hhs]
    · rw [if_neg (fun e2 => e e2.symm), if_neg e, if_neg e]; exact h.at_ i (lt i hi e)
  · by_cases e : i = k
    · subst e; rw [if_pos rfl, if_pos rfl, htk]; exact blk_far hg hgt _
    · rw [if_neg e, if_neg e, ht i (by omega)]; exact blk_far (h.row i (lt i hi e)) (fun e2 => h.ne (lt i hi e) (by simpa using e2.symm)) _
  · by_cases e : i = k
    · rw [if_pos e]; exact hc
    · rw [if_neg e]; exact h.cap i (lt i hi e)
  · by_cases e : i = k
    · rw [e, htk]; exact hx
    · rw [ht i (by omega)]; exact h.wide i (lt i hi e)
  · by_cases e1 : i = k
    · by_cases e2 : j = k
      · omega
      · rw [if_pos e1, if_neg e2] at e
        have := (h.bb j (lt j hj e2)).2; omega
    · by_cases e2 : j = k
      · rw [if_neg e1, if_pos e2] at e
        have := (h.bb i (lt i hi e1)).2; omega
      · rw [if_neg e1, if_neg e2] at e
        exact h.inj i j (lt i hi e1) (lt j hj e2) e
  · by_cases e : i = k
    · rw [if_pos e]; exact ⟨h0, h2⟩
    · rw [if_neg e]; have := h.bb i (lt i hi e); exact ⟨this.1, by omega⟩
/-- A table has been made. -/
def TabOut (w : World) (T : Tab) (L : Nat) (e : Ending) (w' : World) : Prop := ∃ tb cap, e = .returned (.slice (some ⟨tb, 0, none⟩) T.length cap) ∧ (∃ hs b cp px, OT w' w.heap.size w'.heap.size tb hs b cp px T L) ∧ Below w.heap.size w w'
set_option maxRecDepth 100000 in
set_option maxHeartbeats 4000000 in
theorem copy_calls (A : Option Addr) (c : Nat) (zs : List (List Int)) (L : Nat) (w : World) (hC : Kd.C kRows w A zs.length zs) (hc : zs.length ≤ c) (hN0 : 0 < zs.length) (hN : zs.length ≤ 1000) (hL0 : 0 < L) (hL : L ≤ 1000) (hw : ∀ x, x ∈ zs → x.length = L) :
    Calls Try.prog 69 #[.slice A zs.length c] w (TabOut w zs L) := by
  have L0 := Aside0.mk (fun (W : World) (hW : Below w.heap.size w W) => at_row hC hW)
  have HW := Aside0.mk (fun i (hi : i < zs.length) => hw _ (getD_mem (d := []) hi))
  clear hC hw
  go_enter Try.func69, Try.ntmps69
  go_wp2_with ((with_reducible refine gate_dst (N := 8) rfl ?_); refine Kd.S_make kRows (w0 := w) w.heap.size 31 rfl (N := 8) rfl 80 _ _ rfl (zs.length : Int) rfl rfl Try.underlying80 (.slice none 0 0) 24 info31 rfl (by decide) (by omega) [] (ok := fun _ => True) (okp := fun _ => True) ⟨_, rfl, Kd.R_nil _ _ _ _ _⟩ (fun _ hk => hk) trivial (by omega) (by omega) (Below.refl _ _) (Nat.le_refl _) ?_; intro v1 w1 ho hb hg_ hnew_; have HO := Aside0.mk ho; have HB := Aside0.mk hb; clear ho hb hg_ hnew_; obtain ⟨inner, hown⟩ := Kd.S_own HO.out; rw [List.length_replicate, Int.toNat_natCast] at hown; obtain ⟨tb, cap, hs, ev, htb, hhs, hsz⟩ := own_parts hown hN0; subst ev; have HHS := Aside0.mk hhs; have HSZ := Aside0.mk hsz; have HTB := Aside0.mk htb; clear hown hhs hsz htb)
  have HO0 := Aside0.mk (show ∃ hs b cp px, OT w1 w.heap.size w1.heap.size tb hs b cp px (zs.take 0) L ∧ zs.length ≤ hs.size from
    ⟨hs, fun _ => 0, fun _ => 0, fun _ => [], ⟨HHS.out, by simp, by simp, by simp, by simp, by simp, ⟨HTB.out, blk_lt HHS.out⟩, by simp⟩, HSZ.out⟩)
  have HTBL := Aside0.mk (blk_lt HHS.out)
  clear HO HHS HSZ
  go_loopw [11] (fun v11 wr => ∃ k : Nat, k ≤ zs.length ∧ v11 = .int .i64 k ∧ Aside0 (∃ hs b cp px, OT wr w.heap.size wr.heap.size tb hs b cp px (zs.take k) L ∧ zs.length ≤ hs.size) ∧ Aside0 (Below w.heap.size w wr)) (fun v11 _ => zs.length - (intOf v11).toNat)
  case atStart => exact ⟨0, Nat.zero_le _, rfl, HO0, HB⟩
  case round =>
    clear HB HO0
    obtain ⟨k, hk, rfl, HO, HB⟩ := hrel
    by_cases hlt : k < zs.length
    · have hltz : (k : Int) < (zs.length : Int) := by omega
      obtain ⟨ad, A2, c2, rfl, l0, hle, hC2⟩ := L0.out wr HB.out k hlt
      obtain ⟨hs1, b1, cp1, px1, hot, hsz⟩ := HO.out
      have hkh : k < hs1.size := by omega
      have HKH := Aside0.mk hkh
      obtain ⟨u, hu⟩ : ∃ u, hs1[k]? = some u := ⟨_, Array.getElem?_eq_getElem hkh⟩
      have HU := Aside0.mk hu
      have HXL := Aside0.mk (HW.out k hlt)
      have HOT := Aside0.mk hot
      have HSZ := Aside0.mk hsz
      obtain ⟨x, hx⟩ : ∃ x, zs.getD k [] = x := ⟨_, rfl⟩
      rw [hx] at l0 hle hC2 HXL
      have HX := Aside0.mk hx
      have HC2 := Aside0.mk hC2
      have HLE := Aside0.mk hle
      clear hx hC2 hle hot hsz hu hkh
      go_wp2_with fail
      refine (slices_Clone_int_int.calls A2 c2 x x _ HC2.out HLE.out (by unfold slices_Clone_int_int.f; rw [if_pos (by have := HXL.out; omega)])).mono ?_
      rintro e w2 ⟨v2, rfl, hR2, hb2⟩
      obtain ⟨g, cap2, px2, rfl, hcap2, hg0, hg1, hg2, _⟩ := R_rowO hR2 (by have := HXL.out; omega)
      rw [HXL.out] at hcap2 ⊢
      have HB2 := Aside0.mk hb2
      have HG := Aside0.mk (And.intro hcap2 (And.intro hg0 (And.intro hg1 hg2)))
      have hot2 := HOT.out.below hb2
      have hcell := (blk_cell hot2.head k).trans HU.out
      have hfz := blk_frozen hot2.head k
      have HOT2 := Aside0.mk hot2
      clear hR2 hb2 hcap2 hg0 hg1 hg2 hot2
      go_wp2_with fail
      go_roundw
      case rel =>
        refine ⟨k + 1, by omega, by go_num, ⟨?_⟩, ⟨?_⟩⟩
        · obtain ⟨h1, h2, h3, h4⟩ := HG.out
          have hsz2 : (w2.setCell ⟨tb, k, none⟩ (.slice (some ⟨g, 0, none⟩) L cap2)).heap.size = w2.heap.size := sz_set2 _ _ _
          rw [hsz2]
          refine ⟨_, _, _, _, HOT2.out.add (n1 := wr.heap.size) hlt HKH.out (by rw [HX.out]; exact HXL.out) (by rw [HX.out]; exact h4) h1 (by have := HB.out.size; omega) h2 h3, by rw [Array.size_setIfInBounds]; exact HSZ.out⟩
        · exact below_set (below_call HB.out HB2.out) HTB.out
      case measure => simp [intOf]; omega
    · have hltz : ¬ (k : Int) < (zs.length : Int) := by omega
      have HK := Aside0.mk (show zs.take k = zs from List.take_of_length_le (by omega))
      clear hk hlt
      go_wp2_with fail
      go_ret
      refine ⟨tb, cap, rfl, ?_, HB.out⟩
      obtain ⟨hs1, b1, cp1, px1, hot, _⟩ := HO.out
      rw [HK.out] at hot
      exact ⟨_, _, _, _, hot⟩
end Go.Proofs.Ytipdpfnjobfbpaa.H


