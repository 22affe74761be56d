/- LSane, LForm2, merged. -/
import Derived.Test.YtipdpfnjobfbpaaMRun
/- signatorylaw13.sane: the chapter's examples, once for all worlds. -/
namespace Go.Proofs.Ytipdpfnjobfbpaa.H
open Go.RowKit Go.Shelf Go.Proofs.YtipdpfnjobfbpaaW.PrintWords Go.Proofs.YtipdpfnjobfbpaaW.PrintLast Go.Proofs.YtipdpfnjobfbpaaW.PrintMore Go.Proofs.Ytipdpfnjobfbpaa.P SG.Lin
set_option linter.unusedVariables false
set_option linter.unusedSimpArgs false
theorem alloc_at (w : World) (o : Obj) (k : Nat) (h : k = w.heap.size) : (w.alloc o).heap[k]? = some o := by subst h; exact blk_new w o
theorem C_row {W : World} {g : Nat} {x : List Int} (h : W.heap[g]? = some (rowO x [])) (hx : x.length ≤ 1000) : Kd.C (Kd.int .i64) W (some ⟨g, 0, none⟩) x.length x := by
  refine ⟨rfl, by omega, fun _ => ⟨_, rfl, fun j p hj => ?_⟩⟩
  have hjl : j < x.length := by
    rcases Nat.lt_or_ge j x.length with h | h
    · exact h
    · rw [List.getElem?_eq_none h] at hj; cases hj
  refine ⟨[.int .i64 p], rfl, rfl, fun i u hu => ?_⟩
  rcases i with _ | i
  · rw [show (Kd.int .i64).sz = 1 from rfl, Nat.mul_one, Nat.add_zero, add_plain, rowO_cell h hjl, List.getD_eq_getElem?_getD, hj]
    simpa using hu
  · simp at hu
theorem C_rows {W : World} {b : Nat} {outer : Array Value} {zs : List (List Int)} (hb : W.heap[b]? = some (.cells outer 31 (0, 0))) (hz : zs.length ≤ 1000)
    (h : ∀ (j : Nat) (p : List Int), zs[j]? = some p → ∃ (A : Option Addr) (c : Nat), outer[j]? = some (Value.slice A p.length c) ∧ p.length ≤ c ∧ Kd.C (Kd.int .i64) W A p.length p) : Kd.C kRows W (some ⟨b, 0, none⟩) zs.length zs := by
  refine ⟨rfl, by omega, fun _ => ⟨_, rfl, fun j p hj => ?_⟩⟩
  obtain ⟨A, c, h1, h2, h3⟩ := h j p hj
  refine ⟨[.slice A p.length c], rfl, ⟨A, c, rfl, h2, h3⟩, fun i u hu => ?_⟩
  rcases i with _ | i
  · rw [show kRows.sz = 1 from rfl, Nat.mul_one, Nat.add_zero, add_plain, blk_cell hb, h1]
    simpa using hu
  · simp at hu
theorem C_rows1 {W : World} {b g1 : Nat} {x1 : List Int} (hb : W.heap[b]? = some (.cells #[.slice (some ⟨g1, 0, none⟩) x1.length x1.length] 31 (0, 0))) (h1 : W.heap[g1]? = some (rowO x1 [])) (l1 : x1.length ≤ 1000) : Kd.C kRows W (some ⟨b, 0, none⟩) 1 [x1] := by
  refine C_rows (zs := [x1]) hb (by simp) (fun j p hj => ?_)
  rcases j with _ | j
  · cases hj; exact ⟨_, _, rfl, Nat.le_refl _, C_row h1 l1⟩
  · cases hj
theorem C_rows2 {W : World} {b g1 g2 : Nat} {x1 x2 : List Int} (hb : W.heap[b]? = some (.cells #[.slice (some ⟨g1, 0, none⟩) x1.length x1.length, .slice (some ⟨g2, 0, none⟩) x2.length x2.length] 31 (0, 0))) (h1 : W.heap[g1]? = some (rowO x1 [])) (h2 : W.heap[g2]? = some (rowO x2 [])) (l1 : x1.length ≤ 1000) (l2 : x2.length ≤ 1000) : Kd.C kRows W (some ⟨b, 0, none⟩) 2 [x1, x2] := by
  refine C_rows (zs := [x1, x2]) hb (by simp) (fun j p hj => ?_)
  rcases j with _ | _ | j
  · cases hj; exact ⟨_, _, rfl, Nat.le_refl _, C_row h1 l1⟩
  · cases hj; exact ⟨_, _, rfl, Nat.le_refl _, C_row h2 l2⟩
  · cases hj
theorem C_rows3 {W : World} {b g1 g2 g3 : Nat} {x1 x2 x3 : List Int} (hb : W.heap[b]? = some (.cells #[.slice (some ⟨g1, 0, none⟩) x1.length x1.length, .slice (some ⟨g2, 0, none⟩) x2.length x2.length, .slice (some ⟨g3, 0, none⟩) x3.length x3.length] 31 (0, 0))) (h1 : W.heap[g1]? = some (rowO x1 [])) (h2 : W.heap[g2]? = some (rowO x2 [])) (h3 : W.heap[g3]? = some (rowO x3 [])) (l1 : x1.length ≤ 1000) (l2 : x2.length ≤ 1000) (l3 : x3.length ≤ 1000) : Kd.C kRows W (some ⟨b, 0, none⟩) 3 [x1, x2, x3] := by
  refine C_rows (zs := [x1, x2, x3]) hb (by simp) (fun j p hj => ?_)
  rcases j with _ | _ | _ | j
  · cases hj; exact ⟨_, _, rfl, Nat.le_refl _, C_row h1 l1⟩
  · cases hj; exact ⟨_, _, rfl, Nat.le_refl _, C_row h2 l2⟩
  · cases hj; exact ⟨_, _, rfl, Nat.le_refl _, C_row h3 l3⟩
  · cases hj
theorem C_rowsA {W : World} {b n c : Nat} {A : Option Addr} {x : List Int} (hb : W.heap[b]? = some (.cells #[.slice A n c] 31 (0, 0))) (hn : x.length = n) (hc : n ≤ c) (h : Kd.C (Kd.int .i64) W A n x) : Kd.C kRows W (some ⟨b, 0, none⟩) 1 [x] := by
  subst hn
  refine C_rows (zs := [x]) hb (by simp) (fun j p hj => ?_)
  rcases j with _ | j
  · cases hj; exact ⟨_, _, rfl, hc, h⟩
  · cases hj
theorem C_nilR (W : World) : Kd.C kRows W none 0 [] := ⟨rfl, by decide, fun h => absurd h (by decide)⟩
theorem rank_lit {A : Option Addr} {c n : Nat} {W : World} (zs : List (List Int)) (r1 r2 : Int) (hn : zs.length = n) (hC : Kd.C kRows W A n zs) (hc : n ≤ c) (hr : rankAns zs = (r1, r2)) :
    Calls Try.prog 28 #[.slice A n c] W fun e w' => e = .returned (.tuple #[.int .i64 r1, .int .i64 r2]) ∧ Below W.heap.size W w' := by
  subst hn
  have := Rank_calls A c zs W hC hc
  rw [hr] at this
  exact this
theorem check_lit {A : Option Addr} {c n : Nat} {W : World} (zs : List (List Int)) (r : Int) (hn : zs.length = n) (hC : Kd.C kRows W A n zs) (hc : n ≤ c) (hr : checkP zs = r) :
    Calls Try.prog 30 #[.slice A n c] W fun e w' => e = .returned (.int .i64 r) ∧ Below W.heap.size W w' := by
  subst hn
  have := Check_calls A c zs W hC hc
  rw [hr] at this
  exact this
theorem comb_lit {A A1 : Option Addr} {c c1 n m : Nat} {W : World} (zs : List (List Int)) (t y : List Int) (b : Bool) (x : Int) (k : Nat) (hn : zs.length = n) (hm : t.length = m) (hk : y.length = k) (hC : Kd.C kRows W A n zs) (hc : n ≤ c) (hC1 : Kd.C (Kd.int .i64) W A1 m t) (hc1 : m ≤ c1) (hr : combAns zs t = (y, b, x)) :
    Calls Try.prog 32 #[.slice A n c, .slice A1 m c1] W fun e w' => (∃ A2 c2, e = .returned (.tuple #[.slice A2 k c2, .bool b, .int .i64 x]) ∧ k ≤ c2 ∧ Kd.C (Kd.int .i64) w' A2 k y) ∧ Below W.heap.size W w' := by
  subst hn hm hk
  have := Combine_calls A c zs A1 c1 t W hC hc hC1 hc1
  rw [hr] at this
  refine this.mono ?_
  rintro e w' ⟨v, rfl, hR, hb⟩
  obtain ⟨A2, c2, rfl, hle, hC2⟩ := Kd.R_reads hR
  exact ⟨⟨A2, c2, rfl, hle, hC2⟩, hb⟩
theorem sep_lit {A A1 : Option Addr} {c c1 n m : Nat} {W : World} (zs : List (List Int)) (t y : List Int) (b : Bool) (x : Int) (k : Nat) (hn : zs.length = n) (hm : t.length = m) (hk : y.length = k) (hC : Kd.C kRows W A n zs) (hc : n ≤ c) (hC1 : Kd.C (Kd.int .i64) W A1 m t) (hc1 : m ≤ c1) (hr : sepAns zs t = (y, b, x)) :
    Calls Try.prog 34 #[.slice A n c, .slice A1 m c1] W fun e w' => (∃ A2 c2, e = .returned (.tuple #[.slice A2 k c2, .bool b, .int .i64 x]) ∧ k ≤ c2 ∧ Kd.C (Kd.int .i64) w' A2 k y) ∧ Below W.heap.size W w' := by
  subst hn hm hk
  have := Separate_calls A c zs A1 c1 t W hC hc hC1 hc1
  rw [hr] at this
  refine this.mono ?_
  rintro e w' ⟨v, rfl, hR, hb⟩
  obtain ⟨A2, c2, rfl, hle, hC2⟩ := Kd.R_reads hR
  exact ⟨⟨A2, c2, rfl, hle, hC2⟩, hb⟩
theorem same_lit {A A1 : Option Addr} {c c1 n m : Nat} {W : World} (a b : List Int) (hn : a.length = n) (hm : b.length = m) (hC : Kd.C (Kd.int .i64) W A n a) (hc : n ≤ c) (hC1 : Kd.C (Kd.int .i64) W A1 m b) (hc1 : m ≤ c1) (hab : a = b) (hl : a.length ≤ 1000) :
    Calls Try.prog 36 #[.slice A n c, .slice A1 m c1] W fun e w' => e = .returned (.bool true) ∧ Below W.heap.size W w' := by
  subst hn hm
  refine (signatoryref13_SameInts.calls 1001 A c a A1 c1 b true W hC hc hC1 hc1 (by rw [same_run a b hl 1001 (by omega), decide_eq_true hab])).mono ?_
  rintro e w' ⟨rfl, hd⟩
  exact ⟨rfl, hd.below⟩
theorem at0 (w : World) (o o' : Obj) (k : Nat) (h : k = w.heap.size) (e : o = o') : (w.alloc o).heap[k]? = some o' := by subst e; exact alloc_at w o k h
theorem at1 (w : World) (o o' p : Obj) (k : Nat) (h : k = w.heap.size) (e : o = o') : ((w.alloc o).alloc p).heap[k]? = some o' := blk_alloc (at0 w o o' k h e) _
theorem at2_ (w : World) (o o' p q : Obj) (k : Nat) (h : k = w.heap.size) (e : o = o') : (((w.alloc o).alloc p).alloc q).heap[k]? = some o' := blk_alloc (at1 w o o' p k h e) _
theorem at3 (w : World) (o o' p q r : Obj) (k : Nat) (h : k = w.heap.size) (e : o = o') : ((((w.alloc o).alloc p).alloc q).alloc r).heap[k]? = some o' := blk_alloc (at2_ w o o' p q k h e) _
theorem at4 (w : World) (o o' p q r s : Obj) (k : Nat) (h : k = w.heap.size) (e : o = o') : (((((w.alloc o).alloc p).alloc q).alloc r).alloc s).heap[k]? = some o' := blk_alloc (at3 w o o' p q r k h e) _
set_option maxRecDepth 100000 in
set_option maxHeartbeats 4000000 in
theorem sane13_calls (w : World) : Calls Try.prog 26 #[] w fun e w' => e = .returned (.bool true) ∧ Below w.heap.size w w' := by
  have HB := Aside0.mk (Below.refl w.heap.size w)
  go_enter Try.func26, Try.ntmps26
  go_wp2_with fail
  refine (rank_lit [[1, 2], [2, 4], [0, 1]] 2 0 rfl (C_rows3 (x1 := [1, 2]) (x2 := [2, 4]) (x3 := [0, 1]) (by first | exact at0 _ _ _ _ (by simp only [World.size_alloc]) rfl | exact at1 _ _ _ _ _ (by simp only [World.size_alloc]) rfl | exact at2_ _ _ _ _ _ _ (by simp only [World.size_alloc]) rfl | exact at3 _ _ _ _ _ _ _ (by simp only [World.size_alloc]) rfl | exact at4 _ _ _ _ _ _ _ _ (by simp only [World.size_alloc]) rfl) (by first | exact at0 _ _ _ _ (by simp only [World.size_alloc]) rfl | exact at1 _ _ _ _ _ (by simp only [World.size_alloc]) rfl | exact at2_ _ _ _ _ _ _ (by simp only [World.size_alloc]) rfl | exact at3 _ _ _ _ _ _ _ (by simp only [World.size_alloc]) rfl | exact at4 _ _ _ _ _ _ _ _ (by simp only [World.size_alloc]) rfl) (by first | exact at0 _ _ _ _ (by simp only [World.size_alloc]) rfl | exact at1 _ _ _ _ _ (by simp only [World.size_alloc]) rfl | exact at2_ _ _ _ _ _ _ (by simp only [World.size_alloc]) rfl | exact at3 _ _ _ _ _ _ _ (by simp only [World.size_alloc]) rfl | exact at4 _ _ _ _ _ _ _ _ (by simp only [World.size_alloc]) rfl) (by first | exact at0 _ _ _ _ (by simp only [World.size_alloc]) rfl | exact at1 _ _ _ _ _ (by simp only [World.size_alloc]) rfl | exact at2_ _ _ _ _ _ _ (by simp only [World.size_alloc]) rfl | exact at3 _ _ _ _ _ _ _ (by simp only [World.size_alloc]) rfl | exact at4 _ _ _ _ _ _ _ _ (by simp only [World.size_alloc]) rfl) (by decide) (by decide) (by decide)) (by decide) (by kernel_rfl)).mono ?_
  rintro e w1 ⟨rfl, hb⟩
  have hst := below_call (show Below w.heap.size w _ by repeat (first | exact Below.refl _ _ | apply below_alloc)) hb
  replace HB := Aside0.mk (HB.out.trans (hst.mono HB.out.size))
  clear hst hb
  go_wp2_with fail
  refine (rank_lit [] 0 0 rfl (C_nilR _) (by decide) (by kernel_rfl)).mono ?_
  rintro e w2 ⟨rfl, hb⟩
  have hst := below_call (show Below w1.heap.size w1 _ by repeat (first | exact Below.refl _ _ | apply below_alloc)) hb
  replace HB := Aside0.mk (HB.out.trans (hst.mono HB.out.size))
  clear hst hb
  go_wp2_with fail
  refine (comb_lit [[1, 1], [0, 1]] [1, 0] [1, 1073741788] true 0 2 rfl rfl rfl (C_rows2 (x1 := [1, 1]) (x2 := [0, 1]) (by first | exact at0 _ _ _ _ (by simp only [World.size_alloc]) rfl | exact at1 _ _ _ _ _ (by simp only [World.size_alloc]) rfl | exact at2_ _ _ _ _ _ _ (by simp only [World.size_alloc]) rfl | exact at3 _ _ _ _ _ _ _ (by simp only [World.size_alloc]) rfl | exact at4 _ _ _ _ _ _ _ _ (by simp only [World.size_alloc]) rfl) (by first | exact at0 _ _ _ _ (by simp only [World.size_alloc]) rfl | exact at1 _ _ _ _ _ (by simp only [World.size_alloc]) rfl | exact at2_ _ _ _ _ _ _ (by simp only [World.size_alloc]) rfl | exact at3 _ _ _ _ _ _ _ (by simp only [World.size_alloc]) rfl | exact at4 _ _ _ _ _ _ _ _ (by simp only [World.size_alloc]) rfl) (by first | exact at0 _ _ _ _ (by simp only [World.size_alloc]) rfl | exact at1 _ _ _ _ _ (by simp only [World.size_alloc]) rfl | exact at2_ _ _ _ _ _ _ (by simp only [World.size_alloc]) rfl | exact at3 _ _ _ _ _ _ _ (by simp only [World.size_alloc]) rfl | exact at4 _ _ _ _ _ _ _ _ (by simp only [World.size_alloc]) rfl) (by decide) (by decide)) (by decide) (C_row (x := [1, 0]) (by first | exact at0 _ _ _ _ (by simp only [World.size_alloc]) rfl | exact at1 _ _ _ _ _ (by simp only [World.size_alloc]) rfl | exact at2_ _ _ _ _ _ _ (by simp only [World.size_alloc]) rfl | exact at3 _ _ _ _ _ _ _ (by simp only [World.size_alloc]) rfl | exact at4 _ _ _ _ _ _ _ _ (by simp only [World.size_alloc]) rfl) (by decide)) (by decide) (by kernel_rfl)).mono ?_
  rintro e w3 ⟨⟨A3, c3, rfl, hle3, hC3⟩, hb⟩
  have HK5 := Aside0.mk hC3
  have HK5L := Aside0.mk hle3
  clear hC3 hle3
  have hst := below_call (show Below w2.heap.size w2 _ by repeat (first | exact Below.refl _ _ | apply below_alloc)) hb
  replace HB := Aside0.mk (HB.out.trans (hst.mono HB.out.size))
  clear hst hb
  go_wp2_with fail
  refine (sep_lit [[1, 1]] [1, 0] [1, 1073741788] true 0 2 rfl rfl rfl (C_rows1 (x1 := [1, 1]) (by first | exact at0 _ _ _ _ (by simp only [World.size_alloc]) rfl | exact at1 _ _ _ _ _ (by simp only [World.size_alloc]) rfl | exact at2_ _ _ _ _ _ _ (by simp only [World.size_alloc]) rfl | exact at3 _ _ _ _ _ _ _ (by simp only [World.size_alloc]) rfl | exact at4 _ _ _ _ _ _ _ _ (by simp only [World.size_alloc]) rfl) (by first | exact at0 _ _ _ _ (by simp only [World.size_alloc]) rfl | exact at1 _ _ _ _ _ (by simp only [World.size_alloc]) rfl | exact at2_ _ _ _ _ _ _ (by simp only [World.size_alloc]) rfl | exact at3 _ _ _ _ _ _ _ (by simp only [World.size_alloc]) rfl | exact at4 _ _ _ _ _ _ _ _ (by simp only [World.size_alloc]) rfl) (by decide)) (by decide) (C_row (x := [1, 0]) (by first | exact at0 _ _ _ _ (by simp only [World.size_alloc]) rfl | exact at1 _ _ _ _ _ (by simp only [World.size_alloc]) rfl | exact at2_ _ _ _ _ _ _ (by simp only [World.size_alloc]) rfl | exact at3 _ _ _ _ _ _ _ (by simp only [World.size_alloc]) rfl | exact at4 _ _ _ _ _ _ _ _ (by simp only [World.size_alloc]) rfl) (by decide)) (by decide) (by kernel_rfl)).mono ?_
  rintro e w4 ⟨⟨A4, c4, rfl, hle4, hC4⟩, hb⟩
  have HK8 := Aside0.mk hC4
  have HK8L := Aside0.mk hle4
  clear hC4 hle4
  have hst := below_call (show Below w3.heap.size w3 _ by repeat (first | exact Below.refl _ _ | apply below_alloc)) hb
  replace HB := Aside0.mk (HB.out.trans (hst.mono HB.out.size))
  replace HK5 := Aside0.mk (Kd.C_below HK5.out hst)
  clear hst hb
  go_wp2_with fail
  refine (comb_lit [[1, 1]] [1, 0] [] false 0 0 rfl rfl rfl (C_rows1 (x1 := [1, 1]) (by first | exact at0 _ _ _ _ (by simp only [World.size_alloc]) rfl | exact at1 _ _ _ _ _ (by simp only [World.size_alloc]) rfl | exact at2_ _ _ _ _ _ _ (by simp only [World.size_alloc]) rfl | exact at3 _ _ _ _ _ _ _ (by simp only [World.size_alloc]) rfl | exact at4 _ _ _ _ _ _ _ _ (by simp only [World.size_alloc]) rfl) (by first | exact at0 _ _ _ _ (by simp only [World.size_alloc]) rfl | exact at1 _ _ _ _ _ (by simp only [World.size_alloc]) rfl | exact at2_ _ _ _ _ _ _ (by simp only [World.size_alloc]) rfl | exact at3 _ _ _ _ _ _ _ (by simp only [World.size_alloc]) rfl | exact at4 _ _ _ _ _ _ _ _ (by simp only [World.size_alloc]) rfl) (by decide)) (by decide) (C_row (x := [1, 0]) (by first | exact at0 _ _ _ _ (by simp only [World.size_alloc]) rfl | exact at1 _ _ _ _ _ (by simp only [World.size_alloc]) rfl | exact at2_ _ _ _ _ _ _ (by simp only [World.size_alloc]) rfl | exact at3 _ _ _ _ _ _ _ (by simp only [World.size_alloc]) rfl | exact at4 _ _ _ _ _ _ _ _ (by simp only [World.size_alloc]) rfl) (by decide)) (by decide) (by kernel_rfl)).mono ?_
  rintro e w5 ⟨⟨A5, c5, rfl, hle5, hC5⟩, hb⟩
  clear hC5 hle5
  have hst := below_call (show Below w4.heap.size w4 _ by repeat (first | exact Below.refl _ _ | apply below_alloc)) hb
  replace HB := Aside0.mk (HB.out.trans (hst.mono HB.out.size))
  replace HK5 := Aside0.mk (Kd.C_below HK5.out hst)
  replace HK8 := Aside0.mk (Kd.C_below HK8.out hst)
  clear hst hb
  go_wp2_with fail
  refine (sep_lit [[1, 1], [0, 1]] [1, 0] [] false 0 0 rfl rfl rfl (C_rows2 (x1 := [1, 1]) (x2 := [0, 1]) (by first | exact at0 _ _ _ _ (by simp only [World.size_alloc]) rfl | exact at1 _ _ _ _ _ (by simp only [World.size_alloc]) rfl | exact at2_ _ _ _ _ _ _ (by simp only [World.size_alloc]) rfl | exact at3 _ _ _ _ _ _ _ (by simp only [World.size_alloc]) rfl | exact at4 _ _ _ _ _ _ _ _ (by simp only [World.size_alloc]) rfl) (by first | exact at0 _ _ _ _ (by simp only [World.size_alloc]) rfl | exact at1 _ _ _ _ _ (by simp only [World.size_alloc]) rfl | exact at2_ _ _ _ _ _ _ (by simp only [World.size_alloc]) rfl | exact at3 _ _ _ _ _ _ _ (by simp only [World.size_alloc]) rfl | exact at4 _ _ _ _ _ _ _ _ (by simp only [World.size_alloc]) rfl) (by first | exact at0 _ _ _ _ (by simp only [World.size_alloc]) rfl | exact at1 _ _ _ _ _ (by simp only [World.size_alloc]) rfl | exact at2_ _ _ _ _ _ _ (by simp only [World.size_alloc]) rfl | exact at3 _ _ _ _ _ _ _ (by simp only [World.size_alloc]) rfl | exact at4 _ _ _ _ _ _ _ _ (by simp only [World.size_alloc]) rfl) (by decide) (by decide)) (by decide) (C_row (x := [1, 0]) (by first | exact at0 _ _ _ _ (by simp only [World.size_alloc]) rfl | exact at1 _ _ _ _ _ (by simp only [World.size_alloc]) rfl | exact at2_ _ _ _ _ _ _ (by simp only [World.size_alloc]) rfl | exact at3 _ _ _ _ _ _ _ (by simp only [World.size_alloc]) rfl | exact at4 _ _ _ _ _ _ _ _ (by simp only [World.size_alloc]) rfl) (by decide)) (by decide) (by kernel_rfl)).mono ?_
  rintro e w6 ⟨⟨A6, c6, rfl, hle6, hC6⟩, hb⟩
  clear hC6 hle6
  have hst := below_call (show Below w5.heap.size w5 _ by repeat (first | exact Below.refl _ _ | apply below_alloc)) hb
  replace HB := Aside0.mk (HB.out.trans (hst.mono HB.out.size))
  replace HK5 := Aside0.mk (Kd.C_below HK5.out hst)
  replace HK8 := Aside0.mk (Kd.C_below HK8.out hst)
  clear hst hb
  go_wp2_with fail
  refine (comb_lit [] [0, 0] [] true 0 0 rfl rfl rfl (C_nilR _) (by decide) (C_row (x := [0, 0]) (by first | exact at0 _ _ _ _ (by simp only [World.size_alloc]) rfl | exact at1 _ _ _ _ _ (by simp only [World.size_alloc]) rfl | exact at2_ _ _ _ _ _ _ (by simp only [World.size_alloc]) rfl | exact at3 _ _ _ _ _ _ _ (by simp only [World.size_alloc]) rfl | exact at4 _ _ _ _ _ _ _ _ (by simp only [World.size_alloc]) rfl) (by decide)) (by decide) (by kernel_rfl)).mono ?_
  rintro e w7 ⟨⟨A7, c7, rfl, hle7, hC7⟩, hb⟩
  clear hC7 hle7
  have hst := below_call (show Below w6.heap.size w6 _ by repeat (first | exact Below.refl _ _ | apply below_alloc)) hb
  replace HB := Aside0.mk (HB.out.trans (hst.mono HB.out.size))
  replace HK5 := Aside0.mk (Kd.C_below HK5.out hst)
  replace HK8 := Aside0.mk (Kd.C_below HK8.out hst)
  clear hst hb
  go_wp2_with fail
  refine (sep_lit [] [0, 2] [0, 536870895] true 0 2 rfl rfl rfl (C_nilR _) (by decide) (C_row (x := [0, 2]) (by first | exact at0 _ _ _ _ (by simp only [World.size_alloc]) rfl | exact at1 _ _ _ _ _ (by simp only [World.size_alloc]) rfl | exact at2_ _ _ _ _ _ _ (by simp only [World.size_alloc]) rfl | exact at3 _ _ _ _ _ _ _ (by simp only [World.size_alloc]) rfl | exact at4 _ _ _ _ _ _ _ _ (by simp only [World.size_alloc]) rfl) (by decide)) (by decide) (by kernel_rfl)).mono ?_
  rintro e w8 ⟨⟨A8, c8, rfl, hle8, hC8⟩, hb⟩
  have HK20 := Aside0.mk hC8
  have HK20L := Aside0.mk hle8
  clear hC8 hle8
  have hst := below_call (show Below w7.heap.size w7 _ by repeat (first | exact Below.refl _ _ | apply below_alloc)) hb
  replace HB := Aside0.mk (HB.out.trans (hst.mono HB.out.size))
  replace HK5 := Aside0.mk (Kd.C_below HK5.out hst)
  replace HK8 := Aside0.mk (Kd.C_below HK8.out hst)
  clear hst hb
  go_wp2_with fail
  refine (comb_lit [[1, 1], [2, 2], [0, 1]] [2, 3] [2, 0, 1] true 0 3 rfl rfl rfl (C_rows3 (x1 := [1, 1]) (x2 := [2, 2]) (x3 := [0, 1]) (by first | exact at0 _ _ _ _ (by simp only [World.size_alloc]) rfl | exact at1 _ _ _ _ _ (by simp only [World.size_alloc]) rfl | exact at2_ _ _ _ _ _ _ (by simp only [World.size_alloc]) rfl | exact at3 _ _ _ _ _ _ _ (by simp only [World.size_alloc]) rfl | exact at4 _ _ _ _ _ _ _ _ (by simp only [World.size_alloc]) rfl) (by first | exact at0 _ _ _ _ (by simp only [World.size_alloc]) rfl | exact at1 _ _ _ _ _ (by simp only [World.size_alloc]) rfl | exact at2_ _ _ _ _ _ _ (by simp only [World.size_alloc]) rfl | exact at3 _ _ _ _ _ _ _ (by simp only [World.size_alloc]) rfl | exact at4 _ _ _ _ _ _ _ _ (by simp only [World.size_alloc]) rfl) (by first | exact at0 _ _ _ _ (by simp only [World.size_alloc]) rfl | exact at1 _ _ _ _ _ (by simp only [World.size_alloc]) rfl | exact at2_ _ _ _ _ _ _ (by simp only [World.size_alloc]) rfl | exact at3 _ _ _ _ _ _ _ (by simp only [World.size_alloc]) rfl | exact at4 _ _ _ _ _ _ _ _ (by simp only [World.size_alloc]) rfl) (by first | exact at0 _ _ _ _ (by simp only [World.size_alloc]) rfl | exact at1 _ _ _ _ _ (by simp only [World.size_alloc]) rfl | exact at2_ _ _ _ _ _ _ (by simp only [World.size_alloc]) rfl | exact at3 _ _ _ _ _ _ _ (by simp only [World.size_alloc]) rfl | exact at4 _ _ _ _ _ _ _ _ (by simp only [World.size_alloc]) rfl) (by decide) (by decide) (by decide)) (by decide) (C_row (x := [2, 3]) (by first | exact at0 _ _ _ _ (by simp only [World.size_alloc]) rfl | exact at1 _ _ _ _ _ (by simp only [World.size_alloc]) rfl | exact at2_ _ _ _ _ _ _ (by simp only [World.size_alloc]) rfl | exact at3 _ _ _ _ _ _ _ (by simp only [World.size_alloc]) rfl | exact at4 _ _ _ _ _ _ _ _ (by simp only [World.size_alloc]) rfl) (by decide)) (by decide) (by kernel_rfl)).mono ?_
  rintro e w9 ⟨⟨A9, c9, rfl, hle9, hC9⟩, hb⟩
  have HK23 := Aside0.mk hC9
  have HK23L := Aside0.mk hle9
  clear hC9 hle9
  have hst := below_call (show Below w8.heap.size w8 _ by repeat (first | exact Below.refl _ _ | apply below_alloc)) hb
  replace HB := Aside0.mk (HB.out.trans (hst.mono HB.out.size))
  replace HK5 := Aside0.mk (Kd.C_below HK5.out hst)
  replace HK8 := Aside0.mk (Kd.C_below HK8.out hst)
  replace HK20 := Aside0.mk (Kd.C_below HK20.out hst)
  clear hst hb
  go_wp2_with fail
  refine (comb_lit [[1, 1]] [1] [] false 130 0 rfl rfl rfl (C_rows1 (x1 := [1, 1]) (by first | exact at0 _ _ _ _ (by simp only [World.size_alloc]) rfl | exact at1 _ _ _ _ _ (by simp only [World.size_alloc]) rfl | exact at2_ _ _ _ _ _ _ (by simp only [World.size_alloc]) rfl | exact at3 _ _ _ _ _ _ _ (by simp only [World.size_alloc]) rfl | exact at4 _ _ _ _ _ _ _ _ (by simp only [World.size_alloc]) rfl) (by first | exact at0 _ _ _ _ (by simp only [World.size_alloc]) rfl | exact at1 _ _ _ _ _ (by simp only [World.size_alloc]) rfl | exact at2_ _ _ _ _ _ _ (by simp only [World.size_alloc]) rfl | exact at3 _ _ _ _ _ _ _ (by simp only [World.size_alloc]) rfl | exact at4 _ _ _ _ _ _ _ _ (by simp only [World.size_alloc]) rfl) (by decide)) (by decide) (C_row (x := [1]) (by first | exact at0 _ _ _ _ (by simp only [World.size_alloc]) rfl | exact at1 _ _ _ _ _ (by simp only [World.size_alloc]) rfl | exact at2_ _ _ _ _ _ _ (by simp only [World.size_alloc]) rfl | exact at3 _ _ _ _ _ _ _ (by simp only [World.size_alloc]) rfl | exact at4 _ _ _ _ _ _ _ _ (by simp only [World.size_alloc]) rfl) (by decide)) (by decide) (by kernel_rfl)).mono ?_
  rintro e w10 ⟨⟨A10, c10, rfl, hle10, hC10⟩, hb⟩
  clear hC10 hle10
  have hst := below_call (show Below w9.heap.size w9 _ by repeat (first | exact Below.refl _ _ | apply below_alloc)) hb
  replace HB := Aside0.mk (HB.out.trans (hst.mono HB.out.size))
  replace HK5 := Aside0.mk (Kd.C_below HK5.out hst)
  replace HK8 := Aside0.mk (Kd.C_below HK8.out hst)
  replace HK20 := Aside0.mk (Kd.C_below HK20.out hst)
  replace HK23 := Aside0.mk (Kd.C_below HK23.out hst)
  clear hst hb
  go_wp2_with fail
  refine (sep_lit [] [1073741789] [] false 130 0 rfl rfl rfl (C_nilR _) (by decide) (C_row (x := [1073741789]) (by first | exact at0 _ _ _ _ (by simp only [World.size_alloc]) rfl | exact at1 _ _ _ _ _ (by simp only [World.size_alloc]) rfl | exact at2_ _ _ _ _ _ _ (by simp only [World.size_alloc]) rfl | exact at3 _ _ _ _ _ _ _ (by simp only [World.size_alloc]) rfl | exact at4 _ _ _ _ _ _ _ _ (by simp only [World.size_alloc]) rfl) (by decide)) (by decide) (by kernel_rfl)).mono ?_
  rintro e w11 ⟨⟨A11, c11, rfl, hle11, hC11⟩, hb⟩
  clear hC11 hle11
  have hst := below_call (show Below w10.heap.size w10 _ by repeat (first | exact Below.refl _ _ | apply below_alloc)) hb
  replace HB := Aside0.mk (HB.out.trans (hst.mono HB.out.size))
  replace HK5 := Aside0.mk (Kd.C_below HK5.out hst)
  replace HK8 := Aside0.mk (Kd.C_below HK8.out hst)
  replace HK20 := Aside0.mk (Kd.C_below HK20.out hst)
  replace HK23 := Aside0.mk (Kd.C_below HK23.out hst)
  clear hst hb
  go_wp2_with fail
  refine (same_lit [1, 1073741788] [1, 1073741788] rfl rfl (Kd.C_below HK5.out (by repeat (first | exact Below.refl _ _ | apply below_alloc))) HK5L.out (C_row (x := [1, 1073741788]) (by first | exact at0 _ _ _ _ (by simp only [World.size_alloc]) rfl | exact at1 _ _ _ _ _ (by simp only [World.size_alloc]) rfl | exact at2_ _ _ _ _ _ _ (by simp only [World.size_alloc]) rfl | exact at3 _ _ _ _ _ _ _ (by simp only [World.size_alloc]) rfl | exact at4 _ _ _ _ _ _ _ _ (by simp only [World.size_alloc]) rfl) (by decide)) (by decide) rfl (by decide)).mono ?_
  rintro e w12 ⟨rfl, hb⟩
  have hst := below_call (show Below w11.heap.size w11 _ by repeat (first | exact Below.refl _ _ | apply below_alloc)) hb
  replace HB := Aside0.mk (HB.out.trans (hst.mono HB.out.size))
  replace HK8 := Aside0.mk (Kd.C_below HK8.out hst)
  replace HK20 := Aside0.mk (Kd.C_below HK20.out hst)
  replace HK23 := Aside0.mk (Kd.C_below HK23.out hst)
  clear hst hb
  go_wp2_with fail
  refine (same_lit [1, 1073741788] [1, 1073741788] rfl rfl (Kd.C_below HK8.out (by repeat (first | exact Below.refl _ _ | apply below_alloc))) HK8L.out (C_row (x := [1, 1073741788]) (by first | exact at0 _ _ _ _ (by simp only [World.size_alloc]) rfl | exact at1 _ _ _ _ _ (by simp only [World.size_alloc]) rfl | exact at2_ _ _ _ _ _ _ (by simp only [World.size_alloc]) rfl | exact at3 _ _ _ _ _ _ _ (by simp only [World.size_alloc]) rfl | exact at4 _ _ _ _ _ _ _ _ (by simp only [World.size_alloc]) rfl) (by decide)) (by decide) rfl (by decide)).mono ?_
  rintro e w13 ⟨rfl, hb⟩
  have hst := below_call (show Below w12.heap.size w12 _ by repeat (first | exact Below.refl _ _ | apply below_alloc)) hb
  replace HB := Aside0.mk (HB.out.trans (hst.mono HB.out.size))
  replace HK20 := Aside0.mk (Kd.C_below HK20.out hst)
  replace HK23 := Aside0.mk (Kd.C_below HK23.out hst)
  clear hst hb
  go_wp2_with fail
  refine (same_lit [0, 536870895] [0, 536870895] rfl rfl (Kd.C_below HK20.out (by repeat (first | exact Below.refl _ _ | apply below_alloc))) HK20L.out (C_row (x := [0, 536870895]) (by first | exact at0 _ _ _ _ (by simp only [World.size_alloc]) rfl | exact at1 _ _ _ _ _ (by simp only [World.size_alloc]) rfl | exact at2_ _ _ _ _ _ _ (by simp only [World.size_alloc]) rfl | exact at3 _ _ _ _ _ _ _ (by simp only [World.size_alloc]) rfl | exact at4 _ _ _ _ _ _ _ _ (by simp only [World.size_alloc]) rfl) (by decide)) (by decide) rfl (by decide)).mono ?_
  rintro e w14 ⟨rfl, hb⟩
  have hst := below_call (show Below w13.heap.size w13 _ by repeat (first | exact Below.refl _ _ | apply below_alloc)) hb
  replace HB := Aside0.mk (HB.out.trans (hst.mono HB.out.size))
  replace HK23 := Aside0.mk (Kd.C_below HK23.out hst)
  clear hst hb
  go_wp2_with fail
  refine (same_lit [2, 0, 1] [2, 0, 1] rfl rfl (Kd.C_below HK23.out (by repeat (first | exact Below.refl _ _ | apply below_alloc))) HK23L.out (C_row (x := [2, 0, 1]) (by first | exact at0 _ _ _ _ (by simp only [World.size_alloc]) rfl | exact at1 _ _ _ _ _ (by simp only [World.size_alloc]) rfl | exact at2_ _ _ _ _ _ _ (by simp only [World.size_alloc]) rfl | exact at3 _ _ _ _ _ _ _ (by simp only [World.size_alloc]) rfl | exact at4 _ _ _ _ _ _ _ _ (by simp only [World.size_alloc]) rfl) (by decide)) (by decide) rfl (by decide)).mono ?_
  rintro e w15 ⟨rfl, hb⟩
  have hst := below_call (show Below w14.heap.size w14 _ by repeat (first | exact Below.refl _ _ | apply below_alloc)) hb
  replace HB := Aside0.mk (HB.out.trans (hst.mono HB.out.size))
  clear hst hb
  go_wp2_with fail
  refine (check_lit [] 0 rfl (C_nilR _) (by decide) (by kernel_rfl)).mono ?_
  rintro e w16 ⟨rfl, hb⟩
  have hst := below_call (show Below w15.heap.size w15 _ by repeat (first | exact Below.refl _ _ | apply below_alloc)) hb
  replace HB := Aside0.mk (HB.out.trans (hst.mono HB.out.size))
  clear hst hb
  go_wp2_with fail
  refine (check_lit [[1, 2], [3]] 130 rfl (C_rows2 (x1 := [1, 2]) (x2 := [3]) (by first | exact at0 _ _ _ _ (by simp only [World.size_alloc]) rfl | exact at1 _ _ _ _ _ (by simp only [World.size_alloc]) rfl | exact at2_ _ _ _ _ _ _ (by simp only [World.size_alloc]) rfl | exact at3 _ _ _ _ _ _ _ (by simp only [World.size_alloc]) rfl | exact at4 _ _ _ _ _ _ _ _ (by simp only [World.size_alloc]) rfl) (by first | exact at0 _ _ _ _ (by simp only [World.size_alloc]) rfl | exact at1 _ _ _ _ _ (by simp only [World.size_alloc]) rfl | exact at2_ _ _ _ _ _ _ (by simp only [World.size_alloc]) rfl | exact at3 _ _ _ _ _ _ _ (by simp only [World.size_alloc]) rfl | exact at4 _ _ _ _ _ _ _ _ (by simp only [World.size_alloc]) rfl) (by first | exact at0 _ _ _ _ (by simp only [World.size_alloc]) rfl | exact at1 _ _ _ _ _ (by simp only [World.size_alloc]) rfl | exact at2_ _ _ _ _ _ _ (by simp only [World.size_alloc]) rfl | exact at3 _ _ _ _ _ _ _ (by simp only [World.size_alloc]) rfl | exact at4 _ _ _ _ _ _ _ _ (by simp only [World.size_alloc]) rfl) (by decide) (by decide)) (by decide) (by kernel_rfl)).mono ?_
  rintro e w17 ⟨rfl, hb⟩
  have hst := below_call (show Below w16.heap.size w16 _ by repeat (first | exact Below.refl _ _ | apply below_alloc)) hb
  replace HB := Aside0.mk (HB.out.trans (hst.mono HB.out.size))
  clear hst hb
  go_wp2_with fail
  refine (check_lit [[-1]] 130 rfl (C_rows1 (x1 := [-1]) (by first | exact at0 _ _ _ _ (by simp only [World.size_alloc]) rfl | exact at1 _ _ _ _ _ (by simp only [World.size_alloc]) rfl | exact at2_ _ _ _ _ _ _ (by simp only [World.size_alloc]) rfl | exact at3 _ _ _ _ _ _ _ (by simp only [World.size_alloc]) rfl | exact at4 _ _ _ _ _ _ _ _ (by simp only [World.size_alloc]) rfl) (by first | exact at0 _ _ _ _ (by simp only [World.size_alloc]) rfl | exact at1 _ _ _ _ _ (by simp only [World.size_alloc]) rfl | exact at2_ _ _ _ _ _ _ (by simp only [World.size_alloc]) rfl | exact at3 _ _ _ _ _ _ _ (by simp only [World.size_alloc]) rfl | exact at4 _ _ _ _ _ _ _ _ (by simp only [World.size_alloc]) rfl) (by decide)) (by decide) (by kernel_rfl)).mono ?_
  rintro e w18 ⟨rfl, hb⟩
  have hst := below_call (show Below w17.heap.size w17 _ by repeat (first | exact Below.refl _ _ | apply below_alloc)) hb
  replace HB := Aside0.mk (HB.out.trans (hst.mono HB.out.size))
  clear hst hb
  go_wp2_with ((with_reducible refine gate_dst (N := 231) rfl ?_); refine gate_guard (by rfl) ?_; dsimp only; refine Kd.S_make kRows (w0 := w18) w18.heap.size 31 rfl (N := 231) rfl 40 _ _ rfl (65 : Int) rfl rfl Try.underlying40 (.slice none 0 0) 24 info31 rfl (by decide) (by omega) [] (ok := fun _ => True) (okp := fun _ => True) ⟨_, rfl, Kd.R_nil _ _ _ _ _⟩ (fun _ hk => hk) trivial (by omega) (by decide) (Below.refl _ _) (Nat.le_refl _) ?_; intro v1 wm ho hb hg_ hnew_; obtain ⟨Am, cm, em, hlem, hCm⟩ := Kd.S_reads ho; rw [List.length_replicate] at em hlem hCm; have em2 : v1 = .slice Am 65 cm := em; subst em2; have HCM := Aside0.mk (show Kd.C kRows wm Am 65 (List.replicate 65 []) from hCm); have HLEM := Aside0.mk (show 65 ≤ cm from hlem); replace HB := Aside0.mk (HB.out.trans (hb.mono HB.out.size)); clear ho hb hg_ hnew_ hCm hlem em)
  refine (check_lit (List.replicate 65 []) 2 List.length_replicate HCM.out HLEM.out (by kernel_rfl)).mono ?_
  rintro e w19 ⟨rfl, hb⟩
  have hst := below_call (show Below wm.heap.size wm _ by repeat (first | exact Below.refl _ _ | apply below_alloc)) hb
  replace HB := Aside0.mk (HB.out.trans (hst.mono HB.out.size))
  clear hst hb
  go_wp2_with ((with_reducible refine gate_dst (N := 236) rfl ?_); refine gate_guard (by rfl) ?_; dsimp only; refine Kd.R_make (Kd.int .i64) (w0 := w19) w19.heap.size 3 rfl (N := 236) rfl 31 _ _ rfl (65 : Int) rfl rfl Try.underlying31 (.int .i64 0) 8 info3 rfl (by decide) (by omega) 0 (ok := fun _ => True) (okp := fun _ => True) rfl (fun _ hk => hk) trivial (by omega) (by decide) (Below.refl _ _) (Nat.le_refl _) ?_; intro v1 wn ho hb hg_ hnew_; obtain ⟨An, cn, en, hlen, hCn⟩ := Kd.R_reads ho; rw [List.length_replicate] at en hlen hCn; have en2 : v1 = .slice An 65 cn := en; subst en2; have HCN := Aside0.mk (show Kd.C (Kd.int .i64) wn An 65 (List.replicate 65 0) from hCn); have HLEN := Aside0.mk (show 65 ≤ cn from hlen); replace HB := Aside0.mk (HB.out.trans (hb.mono HB.out.size)); clear ho hb hg_ hnew_ hCn hlen en)
  refine (check_lit [List.replicate 65 0] 2 rfl (C_rowsA (x := List.replicate 65 0) (by first | exact at0 _ _ _ _ (by simp only [World.size_alloc]) rfl | exact at1 _ _ _ _ _ (by simp only [World.size_alloc]) rfl | exact at2_ _ _ _ _ _ _ (by simp only [World.size_alloc]) rfl | exact at3 _ _ _ _ _ _ _ (by simp only [World.size_alloc]) rfl | exact at4 _ _ _ _ _ _ _ _ (by simp only [World.size_alloc]) rfl) List.length_replicate HLEN.out (Kd.C_below HCN.out (by repeat (first | exact Below.refl _ _ | apply below_alloc)))) (by decide) (by kernel_rfl)).mono ?_
  rintro e w20 ⟨rfl, hb⟩
  have hst := below_call (show Below wn.heap.size wn _ by repeat (first | exact Below.refl _ _ | apply below_alloc)) hb
  replace HB := Aside0.mk (HB.out.trans (hst.mono HB.out.size))
  clear hst hb
  go_wp2_with fail
  go_ret
  exact ⟨rfl, HB.out⟩
end Go.Proofs.Ytipdpfnjobfbpaa.H


/- signatorylaw13.sane, in the form in which its callers take it. -/
namespace Go.Proofs.Ytipdpfnjobfbpaa.P
open Go.RowKit Go.Shelf Go.Proofs.YtipdpfnjobfbpaaW.PrintWords Go.Proofs.YtipdpfnjobfbpaaW.PrintLast Go.Proofs.YtipdpfnjobfbpaaW.PrintMore
set_option linter.unusedVariables false
def signatorylaw13_sane.f : Option Bool := some true
theorem signatorylaw13_sane.calls (r : Bool) (w : World) (h : signatorylaw13_sane.f = some r) : Calls Try.prog 26 #[] w fun e w' => e = .returned (.bool r) ∧ Below w.heap.size w w' := by
  cases h
  exact H.sane13_calls w
end Go.Proofs.Ytipdpfnjobfbpaa.P


