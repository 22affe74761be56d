/- The closure of signatorylaw22.FormulasMonotone: whoever a right gate names is gathered in a word of bits. -/
import Derived.Test.YtipdpfnjobfbpaaHPure5
import Derived.Deep.RegionWith
import Derived.Deep.RegionLaw
namespace Go.Proofs.Ytipdpfnjobfbpaa.H
open Go.RowKit Go.Shelf Go.Proofs.YtipdpfnjobfbpaaW.PrintWords Go.Proofs.YtipdpfnjobfbpaaW.PrintLast Go.Proofs.YtipdpfnjobfbpaaW.PrintMore Go.Proofs.Ytipdpfnjobfbpaa.P
set_option linter.unusedVariables false
set_option linter.unusedSimpArgs false

/-- What the closure finds: the word, and the closure itself. -/
structure MonoInv (w0 : World) (bT bF : Nat) (acc : Nat) (W : World) : Prop where
  below : Below w0.heap.size w0 W
  word : W.heap[bT]? = some (.cells #[.int .u64 acc] 25 (0, 0))
  self : W.heap[bF]? = some (.cells #[.func (.func 23) #[] #[.pointer (some ⟨bT, 0, none⟩), .pointer (some ⟨bF, 0, none⟩)]] 33 (0, 0))
theorem MonoInv.alloc {w0 : World} {bT bF acc : Nat} {W : World} (h : MonoInv w0 bT bF acc W) (o : Obj) : MonoInv w0 bT bF acc (W.alloc o) :=
  ⟨below_alloc h.below o, blk_alloc h.word o, blk_alloc h.self o⟩
theorem MonoInv.set {w0 : World} {bT bF acc : Nat} {W : World} (h : MonoInv w0 bT bF acc W) (hb : w0.heap.size ≤ bT) (hne : bF ≠ bT) (x : Nat) : MonoInv w0 bT bF x (W.setCell ⟨bT, 0, none⟩ (.int .u64 x)) :=
  ⟨below_set h.below hb, by have := blk_set h.word 0 (.int .u64 x); simpa using this, blk_far h.self (p := ⟨bT, 0, none⟩) hne _⟩
theorem mono1_enters : ∀ args w, (callFunc 23 args).run Try.prog w = .ok (.enter 23 args) w := enters_of Try.func23 (by kernel_rfl) rfl
def MonoSays (w0 : World) (bT bF : Nat) (T : S24) : Prop :=
  ∀ (A : Option Addr) (c : Nat) (acc : Nat) (W : World), RdG w0 T A c → acc < 2 ^ 64 → MonoInv w0 bT bF acc W →
    Calls Try.prog 23 #[gv T A c, .pointer (some ⟨bT, 0, none⟩), .pointer (some ⟨bF, 0, none⟩)] W fun e W' => (∃ v, e = .returned v) ∧ MonoInv w0 bT bF (walkBits T acc) W'
theorem bits_or (m n : Nat) (hm : m < 2 ^ 64) (hn : n < 2 ^ 64) : Go.bits .or .u64 (m : Int) (n : Int) = ((m ||| n : Nat) : Int) := by
  show IntKind.u64.wrap (((BitVec.ofInt 64 (m : Int) ||| BitVec.ofInt 64 (n : Int)).toNat : Nat) : Int) = _
  rw [BitVec.ofInt_natCast, BitVec.ofInt_natCast, BitVec.toNat_or, BitVec.toNat_ofNat, BitVec.toNat_ofNat, Nat.mod_eq_of_lt hm, Nat.mod_eq_of_lt hn]
  have := Nat.or_lt_two_pow hm hn
  exact u64_wraps _ (by omega) (by omega)
theorem bits_and (m n : Nat) (hm : m < 2 ^ 64) (hn : n < 2 ^ 64) : Go.bits .and .u64 (m : Int) (n : Int) = ((m &&& n : Nat) : Int) := by
  show IntKind.u64.wrap (((BitVec.ofInt 64 (m : Int) &&& BitVec.ofInt 64 (n : Int)).toNat : Nat) : Int) = _
  rw [BitVec.ofInt_natCast, BitVec.ofInt_natCast, BitVec.toNat_and, BitVec.toNat_ofNat, BitVec.toNat_ofNat, Nat.mod_eq_of_lt hm, Nat.mod_eq_of_lt hn]
  have := Nat.lt_of_le_of_lt (Nat.and_le_right (n := m) (m := n)) hn
  exact u64_wraps _ (by omega) (by omega)

theorem MonoInv.drew {w0 : World} {bT bF acc : Nat} {W : World} (h : MonoInv w0 bT bF acc W) : MonoInv w0 bT bF acc W.drew := ⟨below_drew h.below, blk_drew h.word, blk_drew h.self⟩
theorem or_leaf (acc : Nat) (p : Int) (h0 : 0 ≤ p) (h1 : p < 64) (ha : acc < 2 ^ 64) : Go.bits BinOp.or IntKind.u64 (acc : Int) (IntKind.u64.wrap (2 ^ p.toNat)) = ((acc ||| 2 ^ p.toNat : Nat) : Int) := by
  have hp : 2 ^ p.toNat < 2 ^ 64 := Nat.pow_lt_pow_right (by omega) (by omega)
  have e : IntKind.u64.wrap (2 ^ p.toNat) = ((2 ^ p.toNat : Nat) : Int) := by
    rw [u64_wraps _ (by exact_mod_cast Nat.zero_le _) (by exact_mod_cast hp)]; norm_cast
  rw [e]
  exact bits_or _ _ ha hp
set_option maxRecDepth 100000 in
set_option maxHeartbeats 2000000 in
theorem mono_says (w0 : World) (bT bF : Nat) (hb : w0.heap.size ≤ bT) (hne : bF ≠ bT) (T : S24) : rightB T = true → MonoSays w0 bT bF T := by
  induction T using gate_ind with
  | _ T ih =>
  intro hr A c acc W hR ha hI
  have HR := Aside0.mk hR
  have HA := Aside0.mk ha
  have HRT := Aside0.mk hr
  have HNE := Aside0.mk hne
  have HBT := Aside0.mk hb
  have hu24 := Try.underlying24
  have eg := mono1_enters
  have HI := fun o => Aside0.mk (hI.alloc o)
  have hWT := Aside0.mk (blk_lt hI.word)
  have IH := Aside0.mk ih
  clear hI hR ha hr ih hb hne
  unfold gv
  by_cases h0 : 0 ≤ T.f0
  · have hlf := right_leaf HRT.out h0
    have hlt := hlf.1
    have hlen : (T.f2.length : Int) = 0 := by rw [hlf.2.2]; rfl
    have HW := Aside0.mk (show walkBits T acc = acc ||| 2 ^ T.f0.toNat by rw [walkBits_eq, hlf.2.2, if_pos h0]; rfl)
    rw [HW.out]
    clear hlf
    go_enter Try.func23, Try.ntmps23
    have hc0 := fun o => (blk_cell (HI o).out.word 0).trans rfl
    have hf0 := fun o => (blk_frozen (HI o).out.word 0)
    have hcd := fun o => (blk_cell (blk_drew (HI o).out.word) 0).trans rfl
    have hfd := fun o => (blk_frozen (blk_drew (HI o).out.word) 0)
    go_wp2_with fail
    have e0 := (blk_cell (blk_drew (blk_new W (Obj.cells #[Value.int .i64 T.f0, Value.int .i64 T.f1, Value.slice A T.f2.length c] 24))) 0).trans rfl
    have HOR := Aside0.mk (or_leaf acc T.f0 h0 hlt HA.out)
    go_region
    rw [HOR.out]
    have HI2 := Aside0.mk (((HI (Obj.cells #[Value.int .i64 T.f0, Value.int .i64 T.f1, Value.slice A T.f2.length c] 24)).out.set HBT.out HNE.out (acc ||| 2 ^ T.f0.toNat)).drew)
    have KE := Aside0.mk (blk_drew (blk_far (blk_new W (Obj.cells #[Value.int .i64 T.f0, Value.int .i64 T.f1, Value.slice A T.f2.length c] 24)) (p := ⟨bT, 0, none⟩) (by have := blk_lt (HI (Obj.cells #[] 24)).out.word; have h2 := hWT.out; show W.heap.size ≠ bT; omega) (Value.int .u64 ((acc ||| 2 ^ T.f0.toNat : Nat) : Int))))
    clear hc0 hf0 hcd hfd e0
    have e2 := (blk_cell KE.out 2).trans rfl
    go_wp2_with fail
    go_loopw [17] (fun v17 wr => v17 = .int .i64 0 ∧ Aside0 (MonoInv w0 bT bF (acc ||| 2 ^ T.f0.toNat) wr)) (fun _ _ => 0)
    case atStart => exact ⟨rfl, ⟨HI2.out⟩⟩
    case round =>
      obtain ⟨rfl, HIw⟩ := hrel
      go_wp2_with fail
      refine bodyPost_end (results_none rfl _ _ _) rfl ?_
      exact ⟨⟨_, rfl⟩, HIw.out⟩
  · have HW := Aside0.mk (show walkBits T acc = T.f2.foldl (fun a x => walkBits x a) acc by rw [walkBits_eq, if_neg h0])
    rw [HW.out]
    have hsub := (right_gate HRT.out h0).2.2.2
    have HSUB := Aside0.mk hsub
    clear hsub
    go_enter Try.func23, Try.ntmps23
    go_wp2_with fail
    go_loopw [17] (fun v17 wr => ∃ k : Nat, k ≤ T.f2.length ∧ v17 = .int .i64 k ∧ Aside0 (MonoInv w0 bT bF ((T.f2.take k).foldl (fun a x => walkBits x a) acc) wr) ∧ Aside0 ((T.f2.take k).foldl (fun a x => walkBits x a) acc < 2 ^ 64)) (fun v17 _ => T.f2.length - (intOf v17).toNat)
    case atStart => exact ⟨0, by omega, rfl, ⟨(HI _).out⟩, ⟨HA.out⟩⟩
    case round =>
      obtain ⟨k, hk, rfl, HIw, HAw⟩ := hrel
      by_cases hlt : k < T.f2.length
      · have hltz : (k : Int) < (T.f2.length : Int) := by omega
        have hL := HR.out.C.2.1
        obtain ⟨ad, A3, c3, rfl, l0, l1, l2, hRx⟩ := at_gate0 HR.out.C HIw.out.below k hlt
        have hx := Aside0.mk (getD_mem_gate hlt)
        have hdrop := Aside0.mk (show T.f2.take (k + 1) = T.f2.take k ++ [T.f2.getD k z24] from by rw [List.take_succ_eq_append_getElem hlt, List.getD_eq_getElem?_getD, List.getElem?_eq_getElem hlt]; rfl)
        have hRx' := Aside0.mk hRx
        clear hRx
        generalize T.f2.getD k z24 = x at l0 l1 l2 hx hdrop hRx'
        have s0 := fun o => (blk_cell (HIw.out.alloc o).self 0).trans rfl
        go_wp2_with fail
        refine (IH.out x hx.out (HSUB.out x hx.out) A3 c3 _ _ hRx'.out HAw.out (HIw.out.alloc _)).mono ?_
        rintro e w7 ⟨⟨v, rfl⟩, hI7⟩
        have HI7 := Aside0.mk hI7
        have HL7 := Aside0.mk (walkBits_lt x (HSUB.out x hx.out) _ HAw.out)
        clear hI7 l0 l1 l2 s0
        go_wp2_with fail
        go_roundw
        case rel => exact ⟨k + 1, by omega, by go_num, by rw [hdrop.out, List.foldl_append]; exact HI7, by rw [hdrop.out, List.foldl_append]; exact HL7⟩
        case measure => simp [intOf]; omega
      · obtain rfl : k = T.f2.length := by omega
        rw [List.take_length] at HIw
        go_wp2_with fail
        refine bodyPost_end (results_none rfl _ _ _) rfl ?_
        exact ⟨⟨_, rfl⟩, HIw.out⟩
end Go.Proofs.Ytipdpfnjobfbpaa.H
