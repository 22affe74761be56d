/- LReduce, merged. -/
import Derived.Test.YtipdpfnjobfbpaaMBase
/- (linear.table).reduce. -/
namespace Go.Proofs.Ytipdpfnjobfbpaa.H
open Go.RowKit Go.Shelf Go.Proofs.YtipdpfnjobfbpaaW.PrintWords Go.Proofs.YtipdpfnjobfbpaaW.PrintLast Go.Proofs.YtipdpfnjobfbpaaW.PrintMore Go.Proofs.Ytipdpfnjobfbpaa.P SG.Lin
set_option linter.unusedVariables false
set_option linter.unusedSimpArgs false
attribute [local go_sem] Oper.semAt_some

/-- What holds of the world when c columns are done. -/
structure RI (w : World) (n0 tb cpT N L : Nat) (T : Tab) (c : Nat) (v : Value) (ds : List Nat) (W : World) : Prop where
  ot : ∃ hs b cp px, OT W n0 w.heap.size tb hs b cp px (gj T c).1 L
  tbox : W.heap[w.heap.size]? = some (.cells #[.slice (some ⟨tb, 0, none⟩) N cpT] 80 (0, 0))
  piv : Kd.R (Kd.int .i64) 3 W w.heap.size (fun k => w.heap.size ≤ k) v ((gj T c).2.map Int.ofNat)
  marks : ∀ r, r ∈ ds → w.heap.size ≤ r ∧ W.heap[r]? = some (.deferred (some []))
  nodup : ds.Nodup
  below : Below n0 w W
theorem firstNZ_eq {T : Tab} {c r k : Nat} (h1 : r ≤ k) (h2 : k ≤ T.length) (h3 : ∀ i, r ≤ i → i < k → at2 T i c = 0) (h4 : k < T.length → at2 T k c ≠ 0) : firstNZ T c r = k := by
  obtain ⟨g1, g2, g3, g4⟩ := firstNZ_spec T c r
  rcases Nat.lt_trichotomy (firstNZ T c r) k with h | h | h
  · exact absurd (h3 _ g1 h) (g3 (by omega))
  · exact h
  · have := g4 (by omega)
    exact absurd (g2 k h1 h (by omega)) (h4 (by omega))
theorem gjStep_eq' {st : Tab × List Nat} {c : Nat} (hr : st.2.length ≤ st.1.length) : gjStep st c =
    if firstNZ st.1 c st.2.length < st.1.length then (elim (swp st.1 st.2.length (firstNZ st.1 c st.2.length)) st.2.length c, st.2 ++ [c]) else st := gjStep_eq hr
/-- What a region must reach that always ends normally. -/
def onlyN (K : Act → World → Prop) : Exit → Act → World → Prop
  | .normal, a, w => K a w
  | _, _, _ => False
theorem wp_onlyN {P : Program} {c : Code} {Q : Exit → Act → World → Prop} {a : Act} {w : World} (h : c.wp P (onlyN (Q .normal)) a w) : c.wp P Q a w :=
  wp_mono h (fun e a' w' h' => by cases e <;> first | exact h' | exact h'.elim)
def onlyEq (A : Act) (W' : World) : Exit → Act → World → Prop
  | .normal, a, w => a = A ∧ w = W'
  | _, _, _ => False
theorem wp_onlyEq {P : Program} {c : Code} {Q : Exit → Act → World → Prop} {a A : Act} {w W' : World} (h : c.wp P (onlyEq A W') a w) (k : Q .normal A W') : c.wp P Q a w :=
  wp_mono h (fun e a' w' h' => by cases e <;> first | (obtain ⟨rfl, rfl⟩ := h'; exact k) | exact h'.elim)
theorem sz_set (W : World) (p : Addr) (v : Value) : (W.setCell p v).heap.size = W.heap.size := by
  show (W.heap.modify _ _).size = _; rw [Array.size_modify]
/-- The row when k elements have been divided. -/
def spart (c k : Nat) (n : Int) (x : List Int) : List Int := x.mapIdx fun j a => if c ≤ j ∧ j < c + k then fmul a n else a
theorem spart_len (c k : Nat) (n : Int) (x : List Int) : (spart c k n x).length = x.length := List.length_mapIdx
theorem spart_at (c k : Nat) (n : Int) (x : List Int) {j : Nat} (hj : j < x.length) : (spart c k n x).getD j 0 = if c ≤ j ∧ j < c + k then fmul (x.getD j 0) n else x.getD j 0 := by
  unfold spart; rw [getD_mapIdx _ _ _ _ 0 hj]
theorem spart_zero (c : Nat) (n : Int) (x : List Int) : spart c 0 n x = x := by
  refine list_ext_getD (spart_len _ _ _ _) fun j hj => ?_
  rw [spart_len] at hj
  rw [spart_at _ _ _ _ hj, if_neg (by omega)]
theorem spart_step (c k : Nat) (n : Int) (x : List Int) (h : c + k < x.length) : (spart c k n x).set (c + k) (fmul (x.getD (c + k) 0) n) = spart c (k + 1) n x := by
  refine list_ext_getD (by rw [List.length_set, spart_len, spart_len]) fun j hj => ?_
  rw [List.length_set, spart_len] at hj
  rw [getD_set' _ _ _ _ _ (by rw [spart_len]; exact h), spart_at _ _ _ _ hj, spart_at _ _ _ _ hj]
  by_cases e : c + k = j
  · subst e; rw [if_pos rfl, if_pos ⟨by omega, by omega⟩]
  · rw [if_neg e]
    by_cases e2 : c ≤ j ∧ j < c + k
    · rw [if_pos e2, if_pos ⟨e2.1, by omega⟩]
    · rw [if_neg e2, if_neg (fun h => e2 ⟨h.1, by omega⟩)]
theorem spart_all (c : Nat) (n : Int) (x : List Int) {k : Nat} (hk : x.length = c + k) : spart c k n x = scaleFrom c n x := by
  refine list_ext_getD (by rw [spart_len, scale_len]) fun j hj => ?_
  rw [spart_len] at hj
  rw [spart_at _ _ _ _ hj, scale_at _ _ _ _ hj]
  by_cases e : c ≤ j
  · rw [if_pos ⟨e, by omega⟩, if_pos e]
  · rw [if_neg (fun h => e h.1), if_neg e]
/-- What is known beside the table, in the midst of a round. -/
structure RK (w : World) (n0 tb cpT N r br : Nat) (v : Value) (piv : List Int) (ds : List Nat) (W : World) : Prop where
  tbox : W.heap[w.heap.size]? = some (.cells #[.slice (some ⟨tb, 0, none⟩) N cpT] 80 (0, 0))
  rbox : W.heap[br]? = some (.cells #[.int .i64 r] 3 (0, 0))
  brw : w.heap.size < br
  piv : Kd.R (Kd.int .i64) 3 W w.heap.size (fun k => w.heap.size ≤ k) v piv
  marks : ∀ q, q ∈ ds → w.heap.size ≤ q ∧ W.heap[q]? = some (.deferred (some []))
  nodup : ds.Nodup
  below : Below n0 w W
theorem RK.grown {w W W' : World} {n0 tb cpT N r br g : Nat} {v : Value} {piv : List Int} {ds : List Nat} (h : RK w n0 tb cpT N r br v piv ds W) (hg : W.grownBy W' (some g)) (h0 : n0 ≤ g) (h1 : g < w.heap.size) : RK w n0 tb cpT N r br v piv ds W' := by
  have hbr := h.brw
  have hsz := h.below.size
  exact ⟨blk_grown h.tbox hg (fun e => by injection e with e; omega), blk_grown h.rbox hg (fun e => by injection e with e; omega), hbr, Kd.R_grown h.piv hg (fun k hk e => by injection e with e; omega),
    fun q hq => ⟨(h.marks q hq).1, blk_grown (h.marks q hq).2 hg (fun e => by injection e with e; have := (h.marks q hq).1; omega)⟩, h.nodup, h.below.grown hg (by have := blk_lt h.tbox; omega) (fun k e => by injection e with e; omega)⟩
theorem RK.below' {w W W' : World} {n0 tb cpT N r br : Nat} {v : Value} {piv : List Int} {ds : List Nat} (h : RK w n0 tb cpT N r br v piv ds W) (hb : Below W.heap.size W W') (hn : n0 ≤ W.heap.size) : RK w n0 tb cpT N r br v piv ds W' :=
  ⟨blk_below h.tbox hb, blk_below h.rbox hb, h.brw, Kd.R_below h.piv hb, fun q hq => ⟨(h.marks q hq).1, blk_below (h.marks q hq).2 hb⟩, h.nodup, h.below.trans (hb.mono hn)⟩
theorem RK.set {w W : World} {n0 tb cpT N r br g : Nat} {v : Value} {piv : List Int} {ds : List Nat} (h : RK w n0 tb cpT N r br v piv ds W) (h0 : n0 ≤ g) (h1 : g < w.heap.size) (j : Nat) (u : Value) : RK w n0 tb cpT N r br v piv ds (W.setCell ⟨g, j, none⟩ u) :=
  h.grown (grown_set (World.grownBy.refl W _) j u) h0 h1
theorem RK.push {w W : World} {n0 tb cpT N r br D : Nat} {v : Value} {piv : List Int} {ds : List Nat} (h : RK w n0 tb cpT N r br v piv ds W) (h0 : w.heap.size ≤ D) (hD : W.heap[D]? = some (.deferred (some []))) (hn : D ∉ ds) : RK w n0 tb cpT N r br v piv (D :: ds) W :=
  ⟨h.tbox, h.rbox, h.brw, h.piv, fun q hq => by
    rcases List.mem_cons.1 hq with rfl | hq
    · exact ⟨h0, hD⟩
    · exact h.marks q hq, List.nodup_cons.2 ⟨hn, h.nodup⟩, h.below⟩
/-- The table when the rows ahead of row i have been cleared. -/
def cpart (c r i : Nat) (y : List Int) (T : Tab) : Tab := T.mapIdx fun j z => if j < i ∧ j ≠ r then clearFrom c y z else z
theorem cpart_len (c r i : Nat) (y : List Int) (T : Tab) : (cpart c r i y T).length = T.length := List.length_mapIdx
theorem cpart_at (c r i : Nat) (y : List Int) {T : Tab} {j : Nat} (hj : j < T.length) : (cpart c r i y T).getD j [] = if j < i ∧ j ≠ r then clearFrom c y (T.getD j []) else T.getD j [] := by
  unfold cpart; rw [getD_mapIdx _ _ _ _ [] hj]
theorem tab_ext {a b : Tab} (hl : a.length = b.length) (h : ∀ i, i < a.length → a.getD i [] = b.getD i []) : a = b := by
  apply List.ext_getElem hl
  intro i h1 h2
  have := h i h1
  rwa [List.getD_eq_getElem?_getD, List.getElem?_eq_getElem h1, List.getD_eq_getElem?_getD, List.getElem?_eq_getElem h2] at this
theorem cpart_zero (c r : Nat) (y : List Int) (T : Tab) : cpart c r 0 y T = T := by
  refine tab_ext (cpart_len _ _ _ _ _) fun j hj => ?_
  rw [cpart_len] at hj
  rw [cpart_at _ _ _ _ hj, if_neg (fun h => by omega)]
theorem cpart_skip {c r i : Nat} {y : List Int} {T : Tab} (h : i = r) : cpart c r (i + 1) y T = cpart c r i y T := by
  refine tab_ext (by rw [cpart_len, cpart_len]) fun j hj => ?_
  rw [cpart_len] at hj
  rw [cpart_at _ _ _ _ hj, cpart_at _ _ _ _ hj]
  by_cases e : j < i ∧ j ≠ r
  · rw [if_pos e, if_pos ⟨by omega, e.2⟩]
  · rw [if_neg e, if_neg (fun k => e ⟨by omega, k.2⟩)]
theorem cpart_step {c r i : Nat} {y : List Int} {T : Tab} (hi : i < T.length) (h : i ≠ r) : (cpart c r i y T).set i (clearFrom c y ((cpart c r i y T).getD i [])) = cpart c r (i + 1) y T := by
  refine tab_ext (by rw [List.length_set, cpart_len, cpart_len]) fun j hj => ?_
  rw [List.length_set, cpart_len] at hj
  rw [getD_set' _ _ _ _ _ (by rw [cpart_len]; exact hi), cpart_at _ _ _ _ hj, cpart_at _ _ _ _ hj, cpart_at _ _ _ _ hi]
  by_cases e : i = j
  · subst e; rw [if_pos rfl, if_neg (fun k => by omega), if_pos ⟨by omega, h⟩]
  · rw [if_neg e]
    by_cases e2 : j < i ∧ j ≠ r
    · rw [if_pos e2, if_pos ⟨by omega, e2.2⟩]
    · rw [if_neg e2, if_neg (fun k => e2 ⟨by omega, k.2⟩)]
theorem elim_eq {T2 : Tab} {r c N : Nat} (hN : T2.length ≤ N) : elim T2 r c = cpart c r N (scaleFrom c (finv ((T2.getD r []).getD c 0)) (T2.getD r [])) (T2.set r (scaleFrom c (finv ((T2.getD r []).getD c 0)) (T2.getD r []))) := by
  unfold elim cpart
  simp only []
  apply List.ext_getElem
  · simp
  · intro i h1 h2
    rw [List.getElem_mapIdx, List.getElem_mapIdx]
    have hi : i < N := by simp at h1; omega
    by_cases e : i = r
    · rw [if_pos e, if_neg (fun k => k.2 e)]
    · rw [if_neg e, if_pos ⟨hi, e⟩]
theorem OT.belowN {W W' : World} {n0 n1 tb B : Nat} {hs : Array Value} {b cp : Nat → Nat} {px : Nat → List Value} {T : Tab} {L : Nat} (h : OT W n0 n1 tb hs b cp px T L) (hB : n1 ≤ B) (hb : Below B W W') : OT W' n0 n1 tb hs b cp px T L :=
  ⟨(hb.block _ (by have := h.tbb; omega)).trans h.head, h.at_, fun i hi => (hb.block _ (by have := h.bb i hi; omega)).trans (h.row i hi), h.cap, h.wide, h.inj, h.tbb, h.bb⟩
def mark (r : Nat) : Deferred := { target := .collected r, args := #[] }
def swapT.T9 : Bool × List (List Nat × List Nat) := (true, [([], []), ([], []), ([], []), ([], []), ([], []), ([], []), ([4, 5], [4, 5]), ([6], [6]), ([], []), ([], []), ([8, 9], [8, 9]), ([10], [10]), ([0, 1, 0, 1, 4, 5, 6, 7, 11], [0, 1]), ([12, 7, 0, 1, 4, 5, 6, 7, 11], [7, 12]), ([2, 3, 0, 1, 2, 3, 4, 5, 6, 7, 8, 9, 10, 11, 12, 13], [2, 3]), ([14, 11, 13, 0, 1, 2, 3, 4, 5, 6, 7, 8, 9, 10, 11, 12, 13], [11, 14])])
def swapT.B9 : List Nat := [0, 0, 0, 0, 0, 0, 48, 112, 0, 0, 768, 1792, 4083, 8179, 16383, 32767]
theorem swapT.tab9 : rtab .any (opsOf Try.f70 9) = swapT.T9 := by kernel_rfl
theorem swapT.bits9 : waitsOk swapT.T9.2 swapT.B9 = true := by kernel_rfl

theorem R_quiet {W W' : World} {B base e : Nat} {ok : Nat → Prop} {v : Value} {xs : List Int} (h : Kd.R (Kd.int .i64) e W base ok v xs) (hq : Quiet B W W') : Kd.R (Kd.int .i64) e W' base ok v xs :=
  Kd.R_mono (Kd.R_move (Kd.R_bound h) (fun k hk => by
    obtain ⟨_, _, _, q, _, cells, hc⟩ := hk
    rw [hq.cells hc, hc])) (fun _ hk => hk.1)
/-- A function leaves with nothing but marks. -/
theorem leaves_marks {F : Fence} {n B : Nat} {P : Program} {fn : Func} {tmps : Array Value} {R : Ending → World → Prop} (J : World → Prop) (hJ : ∀ W W', J W → Quiet B W W' → J W')
    (hend : ∀ W, J W → ∃ v, (results fn tmps).run P W = .ok v W ∧ R (.returned v) W) : ∀ (ds : List Nat) (W : World), (∀ q, q ∈ ds → B ≤ q ∧ W.heap[q]? = some (.deferred (some []))) → ds.Nodup → J W → LeavesInM F n P fn tmps R (ds.map mark) .returning W
  | [], W, _, _, h => hend W h
  | q :: ds, W, hq, hn, h => by
    have h1 := hq q List.mem_cons_self
    refine ⟨by simp, .inl ⟨q, _, rfl, run_takeDeferred h1.2, ?_⟩⟩
    refine leaves_marks J hJ hend ds _ (fun q' hq' => ?_) (List.nodup_cons.1 hn).2 (hJ _ _ h (Quiet.put h1.1 h1.2 rfl _))
    have h2 := hq q' (List.mem_cons_of_mem _ hq')
    exact ⟨h2.1, (World.putObj_heap_other (fun e => (List.nodup_cons.1 hn).1 (by rw [← e]; exact hq'))).trans h2.2⟩

set_option maxRecDepth 100000 in
set_option maxHeartbeats 8000000 in
theorem reduce_calls (w : World) (n0 tb cpT N L many : Nat) (hs : Array Value) (b cp : Nat → Nat) (px : Nat → List Value) (T : Tab) (hG : SG.Lin.Good T N L) (hO : OT w n0 w.heap.size tb hs b cp px T L)
    (hn0 : n0 ≤ w.heap.size) (hm : many ≤ L) (hN : N ≤ 1000) (hL : L ≤ 1000) :
    Calls Try.prog 70 #[.slice (some ⟨tb, 0, none⟩) N cpT, .int .i64 many] w fun e w' => ∃ v, e = .returned v ∧ Kd.R (Kd.int .i64) 3 w' w.heap.size (fun k => w.heap.size ≤ k) v ((gj T many).2.map Int.ofNat) ∧
      (∃ hs b cp px, OT w' n0 w.heap.size tb hs b cp px (gj T many).1 L) ∧ Below n0 w w' := by
  have HG := Aside0.mk hG
  have HO := Aside0.mk hO
  clear hG hO
  refine (callsIn_wide (n := 3)).1 ?_
  refine callsIn_of_wp_marks Try.func70 rfl trivial ?_ rfl
  refine wpIn_wide.2 ?_
  simp only [Try.ntmps70, List.size_toArray, List.length_cons, List.length_nil, Nat.reduceAdd, Nat.reduceSub, Array.replicate_succ, Array.replicate_zero, List.push_toArray, List.append_toArray, List.nil_append, List.cons_append]
  go_wp2_with fail
  have HR0 := Aside0.mk (show RI w n0 tb cpT N L T 0 (.slice none 0 0) [] (w.alloc (.cells #[.slice (some ⟨tb, 0, none⟩) N cpT] 80)) from
    ⟨⟨hs, b, cp, px, HO.out.below (below_alloc (Below.refl _ _) _)⟩, blk_new _ _, Kd.R_nil _ _ _ _ _, (fun _ h => by cases h), List.nodup_nil, (below_alloc (Below.refl w.heap.size w) _).mono hn0⟩)
  clear HO
  refine wp_loop (fun a' wr => ∃ (ds : List Nat) (u4 u5 u6 u7 u8 u9 u10 u11 u12 u14 u15 u16 u17 u18 u19 u20 u21 u22 u23 u24 u25 u26 u27 u28 u29 u30 u31 u32 u33 u34 u35 u36 u37 u38 u39 u40 u41 u42 u43 u44 u45 u46 u47 u48 u49 u50 u51 u52 u53 u54 u55 u56 u57 u58 u59 u60 u61 u62 u63 u64 u65 u66 u67 u68 u69 u70 u71 u72 u73 u74 u75 u76 u77 u78 u79 u80 u81 u82 u83 u84 u85 u86 u87 u88 u89 u90 u91 u92 u93 u94 u95 u96 u97 u98 u99 u100 : Value), (∃ (c : Nat), c ≤ many ∧ u14 = .int .i64 c ∧ Aside0 (RI w n0 tb cpT N L T c u4 ds wr)) ∧ a' = { tmps := #[Value.slice (some { block := tb, off := 0 }) N cpT, Value.int IntKind.i64 ↑many, Value.pointer (some { block := w.heap.size, off := 0 }), undef, u4, u5, u6, u7, u8, u9, u10, u11, u12, Value.int IntKind.i64 ↑many, u14, u15, u16, u17, u18, u19, u20, u21, u22, u23, u24, u25, u26, u27, u28, u29, u30, u31, u32, u33, u34, u35, u36, u37, u38, u39, u40, u41, u42, u43, u44, u45, u46, u47, u48, u49, u50, u51, u52, u53, u54, u55, u56, u57, u58, u59, u60, u61, u62, u63, u64, u65, u66, u67, u68, u69, u70, u71, u72, u73, u74, u75, u76, u77, u78, u79, u80, u81, u82, u83, u84, u85, u86, u87, u88, u89, u90, u91, u92, u93, u94, u95, u96, u97, u98, u99, u100, undef], defers := ds.map mark }) (fun a' _ => many - (intOf (a'.tmps.getD 14 undef)).toNat) ?atStart ?round
  case atStart =>
    refine ⟨[], ?_⟩
    (repeat apply Exists.intro)
    exact ⟨⟨0, Nat.zero_le _, rfl, HR0⟩, rfl⟩
  case round =>
    clear HR0
    intro a' wr hinv
    obtain ⟨ds, hinv⟩ := hinv
    obtain ⟨u4, hinv⟩ := hinv
    obtain ⟨u5, hinv⟩ := hinv
    obtain ⟨u6, hinv⟩ := hinv
    obtain ⟨u7, hinv⟩ := hinv
    obtain ⟨u8, hinv⟩ := hinv
    obtain ⟨u9, hinv⟩ := hinv
    obtain ⟨u10, hinv⟩ := hinv
    obtain ⟨u11, hinv⟩ := hinv
    obtain ⟨u12, hinv⟩ := hinv
    obtain ⟨u14, hinv⟩ := hinv
    obtain ⟨u15, hinv⟩ := hinv
    obtain ⟨u16, hinv⟩ := hinv
    obtain ⟨u17, hinv⟩ := hinv
    obtain ⟨u18, hinv⟩ := hinv
    obtain ⟨u19, hinv⟩ := hinv
    obtain ⟨u20, hinv⟩ := hinv
    obtain ⟨u21, hinv⟩ := hinv
    obtain ⟨u22, hinv⟩ := hinv
    obtain ⟨u23, hinv⟩ := hinv
    obtain ⟨u24, hinv⟩ := hinv
    obtain ⟨u25, hinv⟩ := hinv
    obtain ⟨u26, hinv⟩ := hinv
    obtain ⟨u27, hinv⟩ := hinv
    obtain ⟨u28, hinv⟩ := hinv
    obtain ⟨u29, hinv⟩ := hinv
    obtain ⟨u30, hinv⟩ := hinv
    obtain ⟨u31, hinv⟩ := hinv
    obtain ⟨u32, hinv⟩ := hinv
    obtain ⟨u33, hinv⟩ := hinv
    obtain ⟨u34, hinv⟩ := hinv
    obtain ⟨u35, hinv⟩ := hinv
    obtain ⟨u36, hinv⟩ := hinv
    obtain ⟨u37, hinv⟩ := hinv
    obtain ⟨u38, hinv⟩ := hinv
    obtain ⟨u39, hinv⟩ := hinv
    obtain ⟨u40, hinv⟩ := hinv
    obtain ⟨u41, hinv⟩ := hinv
    obtain ⟨u42, hinv⟩ := hinv
    obtain ⟨u43, hinv⟩ := hinv
    obtain ⟨u44, hinv⟩ := hinv
    obtain ⟨u45, hinv⟩ := hinv
    obtain ⟨u46, hinv⟩ := hinv
    obtain ⟨u47, hinv⟩ := hinv
    obtain ⟨u48, hinv⟩ := hinv
    obtain ⟨u49, hinv⟩ := hinv
    obtain ⟨u50, hinv⟩ := hinv
    obtain ⟨u51, hinv⟩ := hinv
    obtain ⟨u52, hinv⟩ := hinv
    obtain ⟨u53, hinv⟩ := hinv
    obtain ⟨u54, hinv⟩ := hinv
    obtain ⟨u55, hinv⟩ := hinv
    obtain ⟨u56, hinv⟩ := hinv
    obtain ⟨u57, hinv⟩ := hinv
    obtain ⟨u58, hinv⟩ := hinv
    obtain ⟨u59, hinv⟩ := hinv
    obtain ⟨u60, hinv⟩ := hinv
    obtain ⟨u61, hinv⟩ := hinv
    obtain ⟨u62, hinv⟩ := hinv
    obtain ⟨u63, hinv⟩ := hinv
    obtain ⟨u64, hinv⟩ := hinv
    obtain ⟨u65, hinv⟩ := hinv
    obtain ⟨u66, hinv⟩ := hinv
    obtain ⟨u67, hinv⟩ := hinv
    obtain ⟨u68, hinv⟩ := hinv
    obtain ⟨u69, hinv⟩ := hinv
    obtain ⟨u70, hinv⟩ := hinv
    obtain ⟨u71, hinv⟩ := hinv
    obtain ⟨u72, hinv⟩ := hinv
    obtain ⟨u73, hinv⟩ := hinv
    obtain ⟨u74, hinv⟩ := hinv
    obtain ⟨u75, hinv⟩ := hinv
    obtain ⟨u76, hinv⟩ := hinv
    obtain ⟨u77, hinv⟩ := hinv
    obtain ⟨u78, hinv⟩ := hinv
    obtain ⟨u79, hinv⟩ := hinv
    obtain ⟨u80, hinv⟩ := hinv
    obtain ⟨u81, hinv⟩ := hinv
    obtain ⟨u82, hinv⟩ := hinv
    obtain ⟨u83, hinv⟩ := hinv
    obtain ⟨u84, hinv⟩ := hinv
    obtain ⟨u85, hinv⟩ := hinv
    obtain ⟨u86, hinv⟩ := hinv
    obtain ⟨u87, hinv⟩ := hinv
    obtain ⟨u88, hinv⟩ := hinv
    obtain ⟨u89, hinv⟩ := hinv
    obtain ⟨u90, hinv⟩ := hinv
    obtain ⟨u91, hinv⟩ := hinv
    obtain ⟨u92, hinv⟩ := hinv
    obtain ⟨u93, hinv⟩ := hinv
    obtain ⟨u94, hinv⟩ := hinv
    obtain ⟨u95, hinv⟩ := hinv
    obtain ⟨u96, hinv⟩ := hinv
    obtain ⟨u97, hinv⟩ := hinv
    obtain ⟨u98, hinv⟩ := hinv
    obtain ⟨u99, hinv⟩ := hinv
    obtain ⟨u100, hinv⟩ := hinv
    obtain ⟨⟨c, hc, h14, HR⟩, ha⟩ := hinv
    subst h14
    subst ha
    dsimp only
    by_cases hlt : c < many
    · have hltz : (c : Int) < (many : Int) := by omega
      -- what is at hand
      have HRD := Aside0.mk (gj_red HG.out c (by omega))
      have HST := Aside0.mk (gj_succ T c)
      have hR := HR.out
      clear HR
      obtain ⟨⟨hs1, b1, cp1, px1, hot⟩, htb, hpv, hmk, hnd, hbl⟩ := hR
      obtain ⟨A4, c4, e4, hc4, hC4⟩ := Kd.R_reads hpv
      rw [List.length_map] at e4 hc4
      subst e4
      have HPV := Aside0.mk hpv
      have HTB := Aside0.mk htb
      have HMK := Aside0.mk hmk
      have HND := Aside0.mk hnd
      have HBL := Aside0.mk hbl
      have HOT := Aside0.mk hot
      have hlen := HRD.out.good.len
      have hple := HRD.out.shape.le
      have hqt := (blk_cell htb 0).trans rfl
      have hszw := hbl.size
      have hltw := blk_lt htb
      clear hpv hC4 hmk hnd hbl hot htb
      obtain ⟨r, hr⟩ : ∃ r, (gj T c).2.length = r := ⟨_, rfl⟩
      rw [hr] at hple hc4 ⊢
      have HRr := Aside0.mk hr
      clear hr
      have HLEN := Aside0.mk hlen
      clear hlen
      go_wp2_with fail
      obtain ⟨w2, hw2⟩ : ∃ w2, wr.alloc (.cells #[.int .i64 r] 3) = w2 := ⟨_, rfl⟩
      obtain ⟨br, hbr⟩ : ∃ br, wr.heap.size = br := ⟨_, rfl⟩
      have hb2 : Below wr.heap.size wr w2 := by rw [← hw2]; exact below_alloc (Below.refl _ _) _
      have HB2 := Aside0.mk hb2
      have hbox := blk_new wr (Obj.cells #[.int .i64 r] 3)
      rw [hw2, hbr] at hbox
      rw [hw2, hbr]
      have HOT2 := Aside0.mk (HOT.out.below hb2)
      have htb2 := blk_below HTB.out hb2
      have hqt2 := (blk_cell htb2 0).trans rfl
      have hqr2 := (blk_cell hbox 0).trans rfl
      have HBOX := Aside0.mk hbox
      have HTB2 := Aside0.mk htb2
      have hbrw : w.heap.size < br := by omega
      have hszb : br + 1 = w2.heap.size := by rw [← hw2, ← hbr]; simp
      have HSZ := Aside0.mk hszb
      have HW2 := Aside0.mk hw2
      have HBR := Aside0.mk hbr
      clear hw2 hbr hbox htb2 hb2 hqt hszb
      have HCT := Aside0.mk (fun i (hi : i < N) => HOT2.out.cell (i := i) (by rw [HLEN.out]; exact hi))
      have HC2 := Aside0.mk (fun i (hi : i < N) => HOT2.out.cell2 (i := i) (j := c) (by rw [HLEN.out]; exact hi) (by omega))
      go_loop [7] (fun v7 => ∃ k : Nat, r ≤ k ∧ k ≤ N ∧ v7 = .int .i64 k ∧ Aside0 (∀ i, r ≤ i → i < k → at2 (gj T c).1 i c = 0)) (fun v7 => N - (intOf v7).toNat)
      case atStart => exact ⟨r, Nat.le_refl _, hple, rfl, ⟨fun i h1 h2 => by omega⟩⟩
      case round =>
        obtain ⟨k, hrk, hkN, rfl, HZ⟩ := hrel
        by_cases hk : k < N
        · have hkz : (k : Int) < (N : Int) := by omega
          have hczL : (c : Int) < (L : Int) := by omega
          have hct := HCT.out k hk
          have hcc := HC2.out k hk
          by_cases h0 : at2 (gj T c).1 k c = 0
          · have HZ2 := Aside0.mk (show ∀ i, r ≤ i → i < k + 1 → at2 (gj T c).1 i c = 0 from fun i h1 h2 => by
              by_cases e : i = k
              · rw [e]; exact h0
              · exact HZ.out i h1 (by omega))
            rw [h0] at hcc
            clear h0
            go_wp2_with fail
            go_round
            case rel => exact ⟨k + 1, by omega, by omega, by go_num, HZ2⟩
            case measure => simp [intOf]; omega
          · have h0b : (at2 (gj T c).1 k c == 0) = false := by simpa using h0
            have H0 := Aside0.mk h0
            clear h0
            have hkb : ((k : Int) == (N : Int)) = false := by rw [beq_eq_false_iff_ne]; omega
            go_wp2_with fail
            have hrN : r < N := by omega
            have hrz : (r : Int) < (N : Int) := by omega
            have hcr := HCT.out r hrN
            have hfr := blk_frozen HOT2.out.head r
            have hfk := blk_frozen HOT2.out.head k
            have HHZ := Aside0.mk (firstNZ_eq (T := (gj T c).1) (c := c) hrk (by rw [HLEN.out]; omega) HZ.out (fun _ => H0.out))
            clear hcc
            obtain ⟨val, hval⟩ : ∃ val, (w2.setCell ⟨tb, r, none⟩ (.slice (some ⟨b1 k, 0, none⟩) L (cp1 k))).cell? ⟨tb, k, none⟩ = some val := by
              rw [blk_cell (blk_set HOT2.out.head r _)]
              have hk1 : k < hs1.size := (Array.getElem?_eq_some_iff.1 (HOT2.out.at_ k (by rw [HLEN.out]; exact hk))).1
              exact ⟨_, Array.getElem?_eq_getElem (by rw [Array.size_setIfInBounds]; exact hk1)⟩
            have hfz2 : (w2.setCell ⟨tb, r, none⟩ (.slice (some ⟨b1 k, 0, none⟩) L (cp1 k))).frozen? ⟨tb, k, none⟩ = false := blk_frozen (blk_set HOT2.out.head r _) k
            have hne1 : w.heap.size ≠ tb := by have := HOT2.out.tbb; omega
            have hne2 : br ≠ tb := by have := HOT2.out.tbb; omega
            have hqt3 := (blk_cell (blk_far HTB2.out (p := ⟨tb, r, none⟩) hne1 (.slice (some ⟨b1 k, 0, none⟩) L (cp1 k))) 0).trans rfl
            have hqr3 := (blk_cell (blk_far HBOX.out (p := ⟨tb, r, none⟩) hne2 (.slice (some ⟨b1 k, 0, none⟩) L (cp1 k))) 0).trans rfl
            apply wp_onlyEq
            case h =>
              refine start_ (n := 16) (S := fun w' => w'.cell? ⟨w.heap.size, 0, none⟩ = some (.slice (some ⟨tb, 0, none⟩) N cpT) ∧ w'.cell? ⟨br, 0, none⟩ = some (.int .i64 r))
                (ds := [15]) (Array.replicate 16 false) (by kernel_rfl) rfl rfl ⟨hqt2, hqr2⟩ (fun hHeld => ?_)
              refine with_tabW swapT.tab9 swapT.bits9 (fun HT_ HW_ => ?_)
              refine pure_ (i := 3) (N := some 43) (v := ?_) (a' := ?_) #[false, false, false, true, false, false, false, false, false, false, false, false, false, false, false, false] rfl rfl (any_of HT_.out (by kernel_rfl)) (fun _ _ _ h => h) (Or.inl ⟨by rfl, ?_⟩) ?_ ?_
              rotate_left
              · intro w'
                go_simp
                with_reducible rfl
              rotate_left
              · simp only [Act.put, List.setIfInBounds_toArray, List.set_cons_zero, List.set_cons_succ, i64_w, i32_w]
                rfl
              refine pure_ (i := 5) (N := some 45) (v := ?_) (a' := ?_) #[false, false, false, true, false, true, false, false, false, false, false, false, false, false, false, false] rfl rfl (any_of HT_.out (by kernel_rfl)) (fun _ _ _ h => h) (Or.inl ⟨by rfl, ?_⟩) ?_ ?_
              rotate_left
              · intro w'
                go_simp
                with_reducible rfl
              rotate_left
              · simp only [Act.put, List.setIfInBounds_toArray, List.set_cons_zero, List.set_cons_succ, i64_w, i32_w]
                rfl
              refine take_ (i := 0) (N := some 40) (v := ?_) (a' := ?_) #[true, false, false, true, false, true, false, false, false, false, false, false, false, false, false, false] rfl rfl (take_ofW HT_.out HW_.out (by kernel_rfl)) (fun _ _ _ h => h) (Or.inl ⟨by rfl, ?_⟩) hHeld ?_ ?_
              rotate_left
              · rintro w' ⟨s0, s1⟩
                go_simp
                with_reducible rfl
              rotate_left
              · simp only [Act.put, List.setIfInBounds_toArray, List.set_cons_zero, List.set_cons_succ, i64_w, i32_w]
                rfl
              refine take_ (i := 1) (N := some 41) (v := ?_) (a' := ?_) #[true, true, false, true, false, true, false, false, false, false, false, false, false, false, false, false] rfl rfl (take_ofW HT_.out HW_.out (by kernel_rfl)) (fun _ _ _ h => h) (Or.inl ⟨by rfl, ?_⟩) hHeld ?_ ?_
              rotate_left
              · rintro w' ⟨s0, s1⟩
                go_simp
                with_reducible rfl
              rotate_left
              · simp only [Act.put, List.setIfInBounds_toArray, List.set_cons_zero, List.set_cons_succ, i64_w, i32_w]
                rfl
              refine take_ (i := 2) (N := some 42) (v := ?_) (a' := ?_) #[true, true, true, true, false, true, false, false, false, false, false, false, false, false, false, false] rfl rfl (take_ofW HT_.out HW_.out (by kernel_rfl)) (fun _ _ _ h => h) (Or.inl ⟨by rfl, ?_⟩) hHeld ?_ ?_
              rotate_left
              · rintro w' ⟨s0, s1⟩
                go_simp
                with_reducible rfl
              rotate_left
              · simp only [Act.put, List.setIfInBounds_toArray, List.set_cons_zero, List.set_cons_succ, i64_w, i32_w]
                rfl
              refine take_ (i := 4) (N := some 44) (v := ?_) (a' := ?_) #[true, true, true, true, true, true, false, false, false, false, false, false, false, false, false, false] rfl rfl (take_ofW HT_.out HW_.out (by kernel_rfl)) (fun _ _ _ h => h) (Or.inl ⟨by rfl, ?_⟩) hHeld ?_ ?_
              rotate_left
              · rintro w' ⟨s0, s1⟩
                go_simp
                with_reducible rfl
              rotate_left
              · simp only [Act.put, List.setIfInBounds_toArray, List.set_cons_zero, List.set_cons_succ, i64_w, i32_w]
                rfl
              refine take_ (i := 8) (N := some 48) (v := ?_) (a' := ?_) #[true, true, true, true, true, true, false, false, true, false, false, false, false, false, false, false] rfl rfl (take_ofW HT_.out HW_.out (by kernel_rfl)) (fun _ _ _ h => h) (Or.inl ⟨by rfl, ?_⟩) hHeld ?_ ?_
              rotate_left
              · rintro w' ⟨s0, s1⟩
                go_simp
                with_reducible rfl
              rotate_left
              · simp only [Act.put, List.setIfInBounds_toArray, List.set_cons_zero, List.set_cons_succ, i64_w, i32_w]
                rfl
              refine take_ (i := 9) (N := some 49) (v := ?_) (a' := ?_) #[true, true, true, true, true, true, false, false, true, true, false, false, false, false, false, false] rfl rfl (take_ofW HT_.out HW_.out (by kernel_rfl)) (fun _ _ _ h => h) (Or.inl ⟨by rfl, ?_⟩) hHeld ?_ ?_
              rotate_left
              · rintro w' ⟨s0, s1⟩
                go_simp
                with_reducible rfl
              rotate_left
              · simp only [Act.put, List.setIfInBounds_toArray, List.set_cons_zero, List.set_cons_succ, i64_w, i32_w]
                rfl
              refine pure_ (i := 6) (N := some 46) (v := ?_) (a' := ?_) #[true, true, true, true, true, true, true, false, true, true, false, false, false, false, false, false] rfl rfl (any_of HT_.out (by kernel_rfl)) (fun _ _ _ h => h) (Or.inl ⟨by rfl, ?_⟩) ?_ ?_
              rotate_left
              · intro w'
                go_simp
                with_reducible rfl
              rotate_left
              · simp only [Act.put, List.setIfInBounds_toArray, List.set_cons_zero, List.set_cons_succ, i64_w, i32_w]
                rfl
              refine pure_ (i := 10) (N := some 50) (v := ?_) (a' := ?_) #[true, true, true, true, true, true, true, false, true, true, true, false, false, false, false, false] rfl rfl (any_of HT_.out (by kernel_rfl)) (fun _ _ _ h => h) (Or.inl ⟨by rfl, ?_⟩) ?_ ?_
              rotate_left
              · intro w'
                go_simp
                with_reducible rfl
              rotate_left
              · simp only [Act.put, List.setIfInBounds_toArray, List.set_cons_zero, List.set_cons_succ, i64_w, i32_w]
                rfl
              refine two_ (i := 7) (j := 11) (Ni := some 47) (Nj := some 51) #[true, true, true, true, true, true, true, true, true, true, true, false, false, false, false, false] #[true, true, true, true, true, true, true, false, true, true, true, true, false, false, false, false] rfl rfl rfl rfl (two_of HT_.out (by kernel_rfl)) (by decide) (by decide) (fun K hK => ?_) (fun K hK => ?_)
              · refine value_ (v := .slice (some ⟨b1 k, 0, none⟩) L (cp1 k)) (w1 := w2.drew) (by rfl) rfl (by go_simp) ?_
                refine hK.out _ _ hHeld (fun hHeld => ?_)
                clear hK K
                refine norm_ (a' := ?_) ?_ ?_
                rotate_left
                · show Act.put _ (some 47) _ = _
                  simp only [Act.put, List.setIfInBounds_toArray, List.set_cons_zero, List.set_cons_succ, i64_w, i32_w]
                  rfl
                refine one_ (i := 11) (N := some 51) #[true, true, true, true, true, true, true, true, true, true, true, true, false, false, false, false] rfl rfl (one_of HT_.out (by kernel_rfl)) (by decide) (fun K hK => ?_)
                refine value_ (v := .slice (some ⟨b1 r, 0, none⟩) L (cp1 r)) (w1 := w2.drew) (by rfl) rfl (by go_simp) ?_
                refine hK.out _ _ hHeld (fun hHeld => ?_)
                clear hK K
                refine norm_ (a' := ?_) ?_ ?_
                rotate_left
                · show Act.put _ (some 51) _ = _
                  simp only [Act.put, List.setIfInBounds_toArray, List.set_cons_zero, List.set_cons_succ, i64_w, i32_w]
                  rfl
                refine pure_ (i := 12) (N := some 52) (v := ?_) (a' := ?_) #[true, true, true, true, true, true, true, true, true, true, true, true, true, false, false, false] rfl rfl (any_of HT_.out (by kernel_rfl)) (fun _ _ _ h => h) (Or.inl ⟨by rfl, ?_⟩) ?_ ?_
                rotate_left
                · intro w'
                  go_simp
                  with_reducible rfl
                rotate_left
                · simp only [Act.put, List.setIfInBounds_toArray, List.set_cons_zero, List.set_cons_succ, i64_w, i32_w]
                  rfl
                refine one_ (i := 13) (N := none) #[true, true, true, true, true, true, true, true, true, true, true, true, true, true, false, false] rfl rfl (one_of HT_.out (by kernel_rfl)) (by decide) (fun K hK => ?_)
                refine skip_ (w1 := ?_) (by rfl) rfl ?_ ?_
                rotate_left
                · go_simp
                  rfl
                refine hK.out _ _ ⟨hqt3, hqr3⟩ (fun hHeld => ?_)
                clear hK K
                refine pure_ (i := 14) (N := some 53) (v := ?_) (a' := ?_) #[true, true, true, true, true, true, true, true, true, true, true, true, true, true, true, false] rfl rfl (any_of HT_.out (by kernel_rfl)) (fun _ _ _ h => h) (Or.inl ⟨by rfl, ?_⟩) ?_ ?_
                rotate_left
                · intro w'
                  go_simp
                  with_reducible rfl
                rotate_left
                · simp only [Act.put, List.setIfInBounds_toArray, List.set_cons_zero, List.set_cons_succ, i64_w, i32_w]
                  rfl
                refine last_ (i := 15) (N := none) #[true, true, true, true, true, true, true, true, true, true, true, true, true, true, true, true] rfl rfl (one_of HT_.out (by kernel_rfl)) (by decide) (fun K hK => ?_)
                refine skip_ (w1 := ?_) (by rfl) rfl ?_ ?_
                rotate_left
                · go_simp
                  rfl
                refine hK.out _ _ ?_
                clear hK K
                refine done_ (done_of HT_.out (by kernel_rfl)) ?_
                exact ⟨rfl, rfl⟩
              · refine value_ (v := .slice (some ⟨b1 r, 0, none⟩) L (cp1 r)) (w1 := w2.drew) (by rfl) rfl (by go_simp) ?_
                refine hK.out _ _ hHeld (fun hHeld => ?_)
                clear hK K
                refine norm_ (a' := ?_) ?_ ?_
                rotate_left
                · show Act.put _ (some 51) _ = _
                  simp only [Act.put, List.setIfInBounds_toArray, List.set_cons_zero, List.set_cons_succ, i64_w, i32_w]
                  rfl
                refine one_ (i := 7) (N := some 47) #[true, true, true, true, true, true, true, true, true, true, true, true, false, false, false, false] rfl rfl (one_of HT_.out (by kernel_rfl)) (by decide) (fun K hK => ?_)
                refine value_ (v := .slice (some ⟨b1 k, 0, none⟩) L (cp1 k)) (w1 := w2.drew) (by rfl) rfl (by go_simp) ?_
                refine hK.out _ _ hHeld (fun hHeld => ?_)
                clear hK K
                refine norm_ (a' := ?_) ?_ ?_
                rotate_left
                · show Act.put _ (some 47) _ = _
                  simp only [Act.put, List.setIfInBounds_toArray, List.set_cons_zero, List.set_cons_succ, i64_w, i32_w]
                  rfl
                refine pure_ (i := 12) (N := some 52) (v := ?_) (a' := ?_) #[true, true, true, true, true, true, true, true, true, true, true, true, true, false, false, false] rfl rfl (any_of HT_.out (by kernel_rfl)) (fun _ _ _ h => h) (Or.inl ⟨by rfl, ?_⟩) ?_ ?_
                rotate_left
                · intro w'
                  go_simp
                  with_reducible rfl
                rotate_left
                · simp only [Act.put, List.setIfInBounds_toArray, List.set_cons_zero, List.set_cons_succ, i64_w, i32_w]
                  rfl
                refine one_ (i := 13) (N := none) #[true, true, true, true, true, true, true, true, true, true, true, true, true, true, false, false] rfl rfl (one_of HT_.out (by kernel_rfl)) (by decide) (fun K hK => ?_)
                refine skip_ (w1 := ?_) (by rfl) rfl ?_ ?_
                rotate_left
                · go_simp
                  rfl
                refine hK.out _ _ ⟨hqt3, hqr3⟩ (fun hHeld => ?_)
                clear hK K
                refine pure_ (i := 14) (N := some 53) (v := ?_) (a' := ?_) #[true, true, true, true, true, true, true, true, true, true, true, true, true, true, true, false] rfl rfl (any_of HT_.out (by kernel_rfl)) (fun _ _ _ h => h) (Or.inl ⟨by rfl, ?_⟩) ?_ ?_
                rotate_left
                · intro w'
                  go_simp
                  with_reducible rfl
                rotate_left
                · simp only [Act.put, List.setIfInBounds_toArray, List.set_cons_zero, List.set_cons_succ, i64_w, i32_w]
                  rfl
                refine last_ (i := 15) (N := none) #[true, true, true, true, true, true, true, true, true, true, true, true, true, true, true, true] rfl rfl (one_of HT_.out (by kernel_rfl)) (by decide) (fun K hK => ?_)
                refine skip_ (w1 := ?_) (by rfl) rfl ?_ ?_
                rotate_left
                · go_simp
                  rfl
                refine hK.out _ _ ?_
                clear hK K
                refine done_ (done_of HT_.out (by kernel_rfl)) ?_
                exact ⟨rfl, rfl⟩
            case k =>
              have hT2 : (swp (gj T c).1 r k).length = N := by rw [swp_len]; exact HLEN.out
              have hrl : r < (gj T c).1.length := by rw [HLEN.out]; exact hrN
              have hkl : k < (gj T c).1.length := by rw [HLEN.out]; exact hk
              have hot3 := (HOT2.out.swap hrl hkl).quiet (B := 0) (Quiet.of_below (below_drew (Below.refl _ _)))
              have hrk3 : RK w n0 tb cpT N r br (.slice A4 r c4) ((gj T c).2.map Int.ofNat) ds
                  ((w2.setCell ⟨tb, r, none⟩ (.slice (some ⟨b1 k, 0, none⟩) L (cp1 k))).setCell ⟨tb, k, none⟩ (.slice (some ⟨b1 r, 0, none⟩) L (cp1 r))).drew := by
                have htb := HOT2.out.tbb
                have h2 : RK w n0 tb cpT N r br (.slice A4 r c4) ((gj T c).2.map Int.ofNat) ds w2 :=
                  ⟨HTB2.out, HBOX.out, hbrw, by have := Kd.R_below HPV.out HB2.out; rw [HRr.out] at this; exact this, fun q hq => ⟨(HMK.out q hq).1, blk_below (HMK.out q hq).2 HB2.out⟩, HND.out, HBL.out.trans (HB2.out.mono (by omega))⟩
                exact ((h2.set htb.1 htb.2 r _).set htb.1 htb.2 k _).below' (below_drew (Below.refl _ _)) (by have := HOT2.out.tbb; have := blk_lt HTB2.out; rw [sz_set, sz_set]; omega)
              obtain ⟨w3, hw3⟩ : ∃ w3, ((w2.setCell ⟨tb, r, none⟩ (.slice (some ⟨b1 k, 0, none⟩) L (cp1 k))).setCell ⟨tb, k, none⟩ (.slice (some ⟨b1 r, 0, none⟩) L (cp1 r))).drew = w3 := ⟨_, rfl⟩
              rw [hw3] at hot3 hrk3 ⊢
              clear hw3
              have hak : at2 (swp (gj T c).1 r k) r c = at2 (gj T c).1 k c := by unfold at2; rw [swp_at _ hrl hkl, if_pos rfl]
              have HA0 := Aside0.mk (show at2 (swp (gj T c).1 r k) r c ≠ 0 by rw [hak]; exact H0.out)
              have HGS := Aside0.mk (show gj T (c + 1) = (elim (swp (gj T c).1 r k) r c, (gj T c).2 ++ [c]) by
                rw [HST.out, gjStep_eq' (by rw [HRr.out, HLEN.out]; exact hple), HRr.out, HHZ.out, if_pos hkl])
              have HGD := Aside0.mk (swp_good HRD.out.good hrN hk)
              clear hak
              obtain ⟨T2, hT2e⟩ : ∃ T2, swp (gj T c).1 r k = T2 := ⟨_, rfl⟩
              rw [hT2e] at hot3 hT2 HA0 HGS HGD
              clear hT2e
              generalize hb2 : exch b1 r k = b2 at hot3
              generalize hcp2 : exch cp1 r k = cp2 at hot3
              generalize hpx2 : exchp px1 r k = px2 at hot3
              clear hb2 hcp2 hpx2
              have HOT3 := Aside0.mk hot3
              have HRK3 := Aside0.mk hrk3
              have HL2 := Aside0.mk hT2
              have q3t := (blk_cell hrk3.tbox 0).trans rfl
              have q3r := (blk_cell hrk3.rbox 0).trans rfl
              have q3h := hot3.cell (i := r) (by rw [hT2]; exact hrN)
              have q3c := hot3.cell2 (i := r) (j := c) (by rw [hT2]; exact hrN) (by omega)
              have hcL : (c : Int) < (L : Int) := by omega
              clear hot3 hrk3 hT2 hrl hkl hqt3 hqr3 hval hfz2 hcr hct hqt2 hqr2 hfr hfk h0b hkb HCT HC2 HZ HOT2 HOT HTB HBOX HTB2 HMK HBL HPV HND HB2 HW2
              obtain ⟨a0, ha0⟩ : ∃ a0, at2 T2 r c = a0 := ⟨_, rfl⟩
              rw [ha0] at q3c
              have HA0e := Aside0.mk ha0
              clear ha0
              obtain ⟨iv, hiv⟩ : ∃ iv, finv a0 = iv := ⟨_, rfl⟩
              have HIV := Aside0.mk (show finv (at2 T2 r c) = iv by rw [HA0e.out]; exact hiv)
              go_wp2_with fail
              refine (inv_some a0 _ (by
                have h1 := HGD.out.at r c
                have h2 := HA0.out
                rw [HA0e.out] at h1 h2
                unfold InF at h1; omega)).mono ?_
              rw [hiv]
              clear hiv
              rintro e w4 ⟨rfl, hd4⟩
              have HB4 := Aside0.mk hd4.below
              have q4t := pw_cell_below HB4.out q3t
              have q4r := pw_cell_below HB4.out q3r
              have q4h := pw_cell_below HB4.out q3h
              have q5t := fun o => pw_cell_below (below_alloc (Below.refl w4.heap.size w4) o) q4t
              have q5r := fun o => pw_cell_below (below_alloc (Below.refl w4.heap.size w4) o) q4r
              have q5h := fun o => pw_cell_below (below_alloc (Below.refl w4.heap.size w4) o) q4h
              clear hd4 q3t q3r q3h q3c q4t q4r q4h
              go_wp2_with fail
              refine (after_calls _ c _ rfl (some ⟨b2 r, 0, none⟩) L (cp2 r) rfl).mono ?_
              rintro e w' ⟨rfl, rfl⟩
              simp only [World.size_alloc]
              have hb6 : Below w4.heap.size w4 (((w4.alloc (Obj.cells #[Value.int IntKind.i64 iv] 3)).alloc (Obj.cells #[Value.slice (some { block := b2 r, off := 0 }) L (cp2 r)] 31)).alloc (Obj.cells #[Value.int IntKind.i64 c] 3)) :=
                below_alloc (below_alloc (below_alloc (Below.refl _ _) _) _) _
              have kn := blk_alloc (blk_alloc (blk_new w4 (Obj.cells #[Value.int IntKind.i64 iv] 3)) (Obj.cells #[Value.slice (some { block := b2 r, off := 0 }) L (cp2 r)] 31)) (Obj.cells #[Value.int IntKind.i64 c] 3)
              have kr := blk_alloc (blk_new (w4.alloc (Obj.cells #[Value.int IntKind.i64 iv] 3)) (Obj.cells #[Value.slice (some { block := b2 r, off := 0 }) L (cp2 r)] 31)) (Obj.cells #[Value.int IntKind.i64 c] 3)
              have kc := blk_new ((w4.alloc (Obj.cells #[Value.int IntKind.i64 iv] 3)).alloc (Obj.cells #[Value.slice (some { block := b2 r, off := 0 }) L (cp2 r)] 31)) (Obj.cells #[Value.int IntKind.i64 c] 3)
              simp only [World.size_alloc] at kr kc
              go_wp2_with fail
              generalize hw6 : (((w4.alloc (Obj.cells #[Value.int IntKind.i64 iv] 3)).alloc (Obj.cells #[Value.slice (some { block := b2 r, off := 0 }) L (cp2 r)] 31)).alloc (Obj.cells #[Value.int IntKind.i64 c] 3)) = w6 at hb6 kn kr kc ⊢
              have hs6 : w6.heap.size = w4.heap.size + 1 + 1 + 1 := by rw [← hw6]; simp
              clear hw6
              have HS6 := Aside0.mk hs6
              have hot6 := (HOT3.out.below HB4.out).below hb6
              have hszn : n0 ≤ w4.heap.size := by have h1 := HB4.out.size; have h2 := HRK3.out.below.size; omega
              have hrk6 := (HRK3.out.below' HB4.out (by have h2 := HRK3.out.below.size; omega)).below' hb6 hszn
              have HOT6 := Aside0.mk hot6
              have HRK6 := Aside0.mk hrk6
              have hr2 : r < T2.length := by rw [HL2.out]; exact hrN
              have hsw : w.heap.size ≤ w4.heap.size := by have h1 := HB4.out.size; have h2 := HRK3.out.below.size; omega
              have hbb2 := hot6.bb r hr2
              have hx0 := hot6.row r hr2
              have hxl := hot6.wide r hr2
              obtain ⟨x, hx⟩ : ∃ x, T2.getD r [] = x := ⟨_, rfl⟩
              rw [hx] at hx0 hxl
              have HX0 := Aside0.mk hx
              have hLcp := hot6.cap r hr2
              have KN := Aside0.mk kn
              have KR := Aside0.mk kr
              have KC := Aside0.mk kc
              have HB6 := Aside0.mk hb6
              have HHD := Aside0.mk (hot6.cell hr2)
              have hnetb := hot6.ne hr2
              have ht6 := hrk6.tbox
              have hr6 := hrk6.rbox
              have hbrw6 := hrk6.brw
              have HT6 := Aside0.mk ht6
              have HR6 := Aside0.mk hr6
              clear kn kr kc hb6 hot6 hrk6 hx q5t q5r q5h HRK3 HOT3 ht6 hr6
              refine wpIn_wide.1 (wpIn_rangeFunc_cnt (F := Fence.wide) (n := 3) rfl (by omega) (gf := 126) (lb := #[.pointer (some ⟨w4.heap.size + 1 + 1, 0, none⟩), .pointer (some ⟨w4.heap.size + 1, 0, none⟩)]) rfl trivial after1_enters (encs := aenc) (fun _ => rfl) (N := L - c)
                (AfterGd (b2 r) c) (fun _ W => AfterPre (w4.heap.size + 1 + 1) (w4.heap.size + 1) (b2 r) L (cp2 r) c W) ?seq (fun q W => w6.grownBy W (some (b2 r)) ∧ W.heap[b2 r]? = some (rowO (spart c q iv x) (px2 r)))
                (fun q W W' h hq => ⟨grown_quiet h.1 (Nat.le_refl _) hq, hq.cells h.2⟩) ?pre ?gd ⟨World.grownBy.refl _ _, by rw [spart_zero]; exact hx0⟩
                (fun x => { tmps := #[Value.slice (some { block := tb, off := 0 }) N cpT, Value.int IntKind.i64 ↑many, Value.pointer (some { block := w.heap.size, off := 0 }), undef, Value.slice A4 r c4, Value.int IntKind.i64 ↑c, Value.pointer (some { block := br, off := 0 }), Value.int IntKind.i64 ↑k, Value.pointer (some { block := w4.heap.size, off := 0 }), Value.int IntKind.i64 0, .int .i64 x.1, .int .i64 x.2, u12, Value.int IntKind.i64 ↑many, Value.int IntKind.i64 ↑c, Value.bool true, Value.int IntKind.i64 ↑c, Value.slice A4 r c4, Value.int IntKind.i64 ↑r, Value.int IntKind.i64 ↑r, Value.int IntKind.i64 ↑k, Value.slice (some { block := tb, off := 0 }) N cpT, Value.int IntKind.i64 ↑N, Value.bool true, Value.bool true, Value.slice (some { block := tb, off := 0 }) N cpT, Value.int IntKind.i64 ↑k, Value.pointer (some { block := tb, off := k }), Value.slice (some { block := b1 k, off := 0 }) L (cp1 k), Value.int IntKind.i64 ↑c, Value.pointer (some { block := b1 k, off := c }), Value.int IntKind.i64 (at2 (gj T c).fst k c), Value.bool false, Value.bool false, u34, u35, Value.int IntKind.i64 ↑k, Value.slice (some { block := tb, off := 0 }) N cpT, Value.int IntKind.i64 ↑N, Value.bool false, Value.slice (some { block := tb, off := 0 }) N cpT, Value.int IntKind.i64 ↑r, Value.slice (some { block := tb, off := 0 }) N cpT, Value.int IntKind.i64 ↑k, Value.slice (some { block := tb, off := 0 }) N cpT, Value.int IntKind.i64 ↑k, Value.pointer (some { block := tb, off := k }), Value.slice (some { block := b1 k, off := 0 }) L (cp1 k), Value.slice (some { block := tb, off := 0 }) N cpT, Value.int IntKind.i64 ↑r, Value.pointer (some { block := tb, off := r }), Value.slice (some { block := b1 r, off := 0 }) L (cp1 r), Value.pointer (some { block := tb, off := r }), Value.pointer (some { block := tb, off := k }), Value.tuple #[Value.int IntKind.i64 iv, Value.int IntKind.i64 0], Value.slice (some { block := tb, off := 0 }) N cpT, Value.int IntKind.i64 ↑r, Value.pointer (some { block := tb, off := r }), Value.slice (some { block := b2 r, off := 0 }) L (cp2 r), Value.int IntKind.i64 ↑c, Value.pointer (some { block := b2 r, off := c }), Value.int IntKind.i64 a0, Value.tuple #[Value.int IntKind.i64 iv, Value.int IntKind.i64 0], Value.int IntKind.i64 iv, Value.int IntKind.i64 0, Value.slice (some { block := tb, off := 0 }) N cpT, Value.int IntKind.i64 ↑r, Value.pointer (some { block := tb, off := r }), Value.slice (some { block := b2 r, off := 0 }) L (cp2 r), Value.int IntKind.i64 ↑c, Value.func (Fn.func 126) #[] #[Value.pointer (some { block := w4.heap.size + 1 + 1, off := 0 }), Value.pointer (some { block := w4.heap.size + 1, off := 0 })], .int .i64 x.1, .int .i64 x.2, u73, u74, u75, u76, u77, u78, u79, u80, u81, u82, u83, u84, u85, u86, u87, u88, u89, u90, u91, u92, u93, u94, u95, u96, u97, u98, u99, u100, undef], defers := [] }) ?assign ?body ?done)
              case seq => exact fun l J W hst hpre hY h0 => after1_seq 3 _ _ (b2 r) L (cp2 r) c (by omega) (by omega) hLcp l J W hst hpre hY h0
              case pre =>
                rintro q W ⟨hg, hrow⟩
                exact ⟨blk_grown KC.out hg (fun e => by injection e with e; omega), blk_grown KR.out hg (fun e => by injection e with e; omega), fun j hj => ⟨_, rowO_cell hrow (by rw [spart_len]; omega)⟩⟩
              case gd =>
                rintro q z W W' ⟨h1, h2⟩ hq
                refine ⟨h1, ?_⟩
                rcases hq.block (b2 r) (World.block_lt_of_cell? W _ h2) with h3 | ⟨_, o, ho, hc⟩
                · rw [World.cell?_of_block h3]; exact h2
                · exfalso
                  unfold World.cell? at h2
                  simp only [ho] at h2
                  cases o <;> simp [Obj.isCells] at hc h2
              case assign =>
                intro l z W' K hK
                gi_wp2
                simpa [aenc] using hK
              case body =>
                rintro l q ⟨j, v⟩ W ⟨hg, hrow⟩ hq ⟨hj, hv⟩
                simp only at hj hv
                subst hj
                have hv2 := rowO_cell hrow (j := c + q) (by rw [spart_len]; omega)
                rw [hv, spart_at _ _ _ _ (by omega), if_neg (by omega)] at hv2
                obtain rfl : v = x.getD (c + q) 0 := by simpa using hv2
                clear hv2 hv
                have HG7 := Aside0.mk hg
                have HRW := Aside0.mk hrow
                have hcx := rowO_cell hrow (j := c + q) (by rw [spart_len]; omega)
                have q0 := (blk_cell (blk_grown HT6.out hg (fun e => by injection e with e; omega)) 0).trans rfl
                have q1 := (blk_cell (blk_grown HR6.out hg (fun e => by injection e with e; omega)) 0).trans rfl
                have q2 := (World.cell?_of_block (a := ⟨tb, r, none⟩) (hg.block tb (World.block_lt_of_cell? _ _ HHD.out) (fun e => hnetb (by injection e)))).trans HHD.out
                have q3 := (blk_cell (blk_grown KN.out hg (fun e => by injection e with e; omega)) 0).trans rfl
                have hfz := blk_frozen hrow (c + q)
                have hjz : ((c + q : Nat) : Int) < (L : Int) := by omega
                obtain ⟨j, hj⟩ : ∃ j, j = c + q := ⟨_, rfl⟩
                rw [← hj] at hfz hjz hcx ⊢
                generalize hv : x.getD j 0 = v
                have HV := Aside0.mk hv
                have HJ := Aside0.mk hj
                generalize hcx0 : (spart c q iv x).getD j 0 = av at hcx
                clear hcx0 hv hj hg hrow
                gi_wp2_with fail
                refine startIn_ (S := fun w' => w'.cell? ⟨w.heap.size, 0, none⟩ = some (.slice (some ⟨tb, 0, none⟩) N cpT) ∧ w'.cell? ⟨br, 0, none⟩ = some (.int .i64 r) ∧
                  w'.cell? ⟨tb, r, none⟩ = some (.slice (some ⟨b2 r, 0, none⟩) L (cp2 r)) ∧ w'.cell? ⟨w4.heap.size, 0, none⟩ = some (.int .i64 iv) ∧ (w'.frozen? ⟨b2 r, j, none⟩ = false ∧ w'.cell? ⟨b2 r, j, none⟩ = some (.int .i64 av)))
                  (ds := [9]) (n := 10) (Array.replicate 10 false) (by kernel_rfl) (by kernel_rfl) (fun ⟨_, _, h⟩ => h) rfl rfl ⟨q0, q1, q2, q3, hfz, hcx⟩ (fun hHeld => ?_)
                refine pure_ (i := 4) (N := some 77) (v := ?_) (a' := ?_) #[false, false, false, false, true, false, false, false, false, false] rfl rfl (by kernel_rfl) (fun _ _ _ h => h) (Or.inl ⟨by rfl, ?_⟩) ?_ ?_
                rotate_left
                · intro w'
                  go_simp
                  with_reducible rfl
                rotate_left
                · simp only [Act.put, List.setIfInBounds_toArray, List.set_cons_zero, List.set_cons_succ, i64_w, i32_w]
                  rfl
                refine pure_ (i := 5) (N := some 78) (v := ?_) (a' := ?_) #[false, false, false, false, true, true, false, false, false, false] rfl rfl (by kernel_rfl) (fun _ _ _ h => h) (Or.inl ⟨by rfl, ?_⟩) ?_ ?_
                rotate_left
                · intro w'
                  go_simp
                  with_reducible rfl
                rotate_left
                · simp only [Act.put, List.setIfInBounds_toArray, List.set_cons_zero, List.set_cons_succ, i64_w, i32_w]
                  rfl
                refine take_ (i := 0) (N := some 73) (v := ?_) (a' := ?_) #[true, false, false, false, true, true, false, false, false, false] rfl rfl (by kernel_rfl) (fun _ _ _ h => h) (Or.inl ⟨by rfl, ?_⟩) hHeld ?_ ?_
                rotate_left
                · rintro w' ⟨s0, s1, s2, s3, s4⟩
                  go_simp
                  with_reducible rfl
                rotate_left
                · simp only [Act.put, List.setIfInBounds_toArray, List.set_cons_zero, List.set_cons_succ, i64_w, i32_w]
                  rfl
                refine take_ (i := 1) (N := some 74) (v := ?_) (a' := ?_) #[true, true, false, false, true, true, false, false, false, false] rfl rfl (by kernel_rfl) (fun _ _ _ h => h) (Or.inl ⟨by rfl, ?_⟩) hHeld ?_ ?_
                rotate_left
                · rintro w' ⟨s0, s1, s2, s3, s4⟩
                  go_simp
                  with_reducible rfl
                rotate_left
                · simp only [Act.put, List.setIfInBounds_toArray, List.set_cons_zero, List.set_cons_succ, i64_w, i32_w]
                  rfl
                refine take_ (i := 2) (N := some 75) (v := ?_) (a' := ?_) #[true, true, true, false, true, true, false, false, false, false] rfl rfl (by kernel_rfl) (fun _ _ _ h => h) (Or.inl ⟨by rfl, ?_⟩) hHeld ?_ ?_
                rotate_left
                · rintro w' ⟨s0, s1, s2, s3, s4⟩
                  go_simp
                  with_reducible rfl
                rotate_left
                · simp only [Act.put, List.setIfInBounds_toArray, List.set_cons_zero, List.set_cons_succ, i64_w, i32_w]
                  rfl
                refine take_ (i := 3) (N := some 76) (v := ?_) (a' := ?_) #[true, true, true, true, true, true, false, false, false, false] rfl rfl (by kernel_rfl) (fun _ _ _ h => h) (Or.inl ⟨by rfl, ?_⟩) hHeld ?_ ?_
                rotate_left
                · rintro w' ⟨s0, s1, s2, s3, s4⟩
                  go_simp
                  with_reducible rfl
                rotate_left
                · simp only [Act.put, List.setIfInBounds_toArray, List.set_cons_zero, List.set_cons_succ, i64_w, i32_w]
                  rfl
                refine take_ (i := 6) (N := some 79) (v := ?_) (a' := ?_) #[true, true, true, true, true, true, true, false, false, false] rfl rfl (by kernel_rfl) (fun _ _ _ h => h) (Or.inl ⟨by rfl, ?_⟩) hHeld ?_ ?_
                rotate_left
                · rintro w' ⟨s0, s1, s2, s3, s4⟩
                  go_simp
                  with_reducible rfl
                rotate_left
                · simp only [Act.put, List.setIfInBounds_toArray, List.set_cons_zero, List.set_cons_succ, i64_w, i32_w]
                  rfl
                refine one_ (i := 7) (N := some 80) #[true, true, true, true, true, true, true, true, false, false] rfl rfl (by kernel_rfl) (by decide) (fun K hK => ?_)
                refine goes_ Try.func41 (by kernel_rfl) rfl #[.int .i64 v, .int .i64 iv] (by rfl) rfl rfl (by (try simp only [List.map_toArray, List.map_cons, List.map_nil]); first | done | rfl) ?_
                with_reducible refine (Mul_calls v iv _).mono ?_
                rintro e w' ⟨rfl, ⟨nd, rfl⟩⟩
                refine ⟨_, rfl, ?_⟩
                refine hK.out _ _ ⟨hHeld.1, hHeld.2.1, hHeld.2.2.1, hHeld.2.2.2.1, hHeld.2.2.2.2⟩ (fun hHeld => ?_)
                clear hK K
                refine norm_ (a' := ?_) ?_ ?_
                rotate_left
                · show Act.put _ (some 80) _ = _
                  simp only [Act.put, List.setIfInBounds_toArray, List.set_cons_zero, List.set_cons_succ, i64_w, i32_w]
                  rfl
                refine pure_ (i := 8) (N := some 81) (v := ?_) (a' := ?_) #[true, true, true, true, true, true, true, true, true, false] rfl rfl (by kernel_rfl) (fun _ _ _ h => h) (Or.inl ⟨by rfl, ?_⟩) ?_ ?_
                rotate_left
                · intro w'
                  go_simp
                  with_reducible rfl
                rotate_left
                · simp only [Act.put, List.setIfInBounds_toArray, List.set_cons_zero, List.set_cons_succ, i64_w, i32_w]
                  rfl
                refine last_ (i := 9) (N := none) #[true, true, true, true, true, true, true, true, true, true] rfl rfl (by kernel_rfl) (by decide) (fun K hK => ?_)
                refine skip_ (w1 := ?_) (by rfl) rfl ?_ ?_
                rotate_left
                · go_simp
                  rfl
                refine hK.out _ _ ?_
                clear hK K
                refine done_ (by kernel_rfl) ?_
                have hb : Below W.heap.size W (W.drewN (1 + nd)) := pw_below_drewN (Below.refl _ W) _
                refine ⟨(KeepsOthers.of_grownBy (grown_of_below hb none) (fun _ _ e => by cases e)).trans (KeepsOthers.setCell _ _ _), grown_set (grown_below HG7.out hb) _ _, ?_⟩
                have := rowO_set (blk_below HRW.out hb) (j := j) (by rw [spart_len]; have := HJ.out; omega) (fmul v iv)
                rw [← HV.out] at this ⊢
                rw [HJ.out] at this ⊢
                rw [spart_step _ _ _ _ (by omega)] at this
                exact this
              case done =>
                rintro W7 ⟨hg7, hrow7⟩ hD7
                rw [spart_all c iv x (by omega)] at hrow7
                have hylen : (scaleFrom c iv x).length = L := by rw [scale_len]; exact hxl
                have HOT7 := Aside0.mk (HOT6.out.put hr2 hylen hg7 hrow7)
                have hrk7 := HRK6.out.grown hg7 hbb2.1 hbb2.2
                have HRK7 := Aside0.mk (hrk7.push (by have := hg7.size; have := HS6.out; omega) hD7 (fun h => by
                  have := blk_lt (HRK6.out.marks _ h).2
                  omega))
                have hyE : scaleFrom c (finv ((T2.getD r []).getD c 0)) (T2.getD r []) = scaleFrom c iv x := by
                  have := HIV.out
                  unfold at2 at this
                  rw [this, HX0.out]
                have HEL := Aside0.mk (show elim T2 r c = cpart c r N (scaleFrom c iv x) (T2.set r (scaleFrom c iv x)) by
                  rw [← hyE]; exact elim_eq (by rw [HL2.out]; exact Nat.le_refl _))
                obtain ⟨y, hy⟩ : ∃ y, scaleFrom c iv x = y := ⟨_, rfl⟩
                rw [hy] at HOT7 HEL hylen
                have HYT := Aside0.mk (show (T2.set r y).getD r [] = y by rw [getD_set' _ _ _ _ _ hr2, if_pos rfl])
                have HL3 := Aside0.mk (show (T2.set r y).length = N by rw [List.length_set]; exact HL2.out)
                obtain ⟨T3, hT3⟩ : ∃ T3, T2.set r y = T3 := ⟨_, rfl⟩
                rw [hT3] at HOT7 HEL HYT HL3
                obtain ⟨D, hD⟩ : ∃ D, w6.heap.size = D := ⟨_, rfl⟩
                rw [hD] at HRK7 ⊢
                have HHD2 := Aside0.mk hD
                have HYL := Aside0.mk hylen
                clear hT3 hy hyE hD hD7 hrow7 hg7 hrk7 HRK6 HOT6 HHD hx0 KN KR KC HT6 HR6 hylen hbrw6
                have q7t := (blk_cell HRK7.out.tbox 0).trans rfl
                have HC0 := Aside0.mk (show ∃ hs b cp px, OT W7 n0 w.heap.size tb hs b cp px (cpart c r 0 y T3) L from ⟨_, _, _, _, by rw [cpart_zero]; exact HOT7.out⟩)
                clear HOT7
                go_wp2_with fail
                go_loopw [84] (fun v84 W => ∃ i : Nat, i ≤ N ∧ v84 = .int .i64 i ∧ Aside0 (∃ hs b cp px, OT W n0 w.heap.size tb hs b cp px (cpart c r i y T3) L) ∧ Aside0 (RK w n0 tb cpT N r br (.slice A4 r c4) ((gj T c).2.map Int.ofNat) (D :: ds) W)) (fun v84 _ => N - (intOf v84).toNat)
                case atStart => exact ⟨0, Nat.zero_le _, rfl, HC0, HRK7⟩
                case round =>
                  clear HC0 HRK7 q7t
                  obtain ⟨i, hi, rfl, HC, HRK⟩ := hrel
                  have q8r := (blk_cell HRK.out.rbox 0).trans rfl
                  have q8t := (blk_cell HRK.out.tbox 0).trans rfl
                  by_cases hiN : i < N
                  · have hiz : (i : Int) < (N : Int) := by omega
                    by_cases hir : i = r
                    · have HE := Aside0.mk (show cpart c r (i + 1) y T3 = cpart c r i y T3 from cpart_skip hir)
                      have hirz : ((i : Int) != (r : Int)) = false := by rw [hir]; simp
                      have HI := Aside0.mk hir
                      clear hir
                      go_wp2_with fail
                      go_roundw
                      case rel => exact ⟨i + 1, by omega, by go_num, by rw [HE.out]; exact HC, HRK⟩
                      case measure => simp [intOf]; omega
                    · have hirz : ((i : Int) != (r : Int)) = true := by rw [bne_iff_ne]; omega
                      have HI := Aside0.mk hir
                      clear hir
                      go_wp2_with fail
                      obtain ⟨hs8, b8, cp8, px8, hot8⟩ := HC.out
                      have hl8 : (cpart c r i y T3).length = N := by rw [cpart_len]; exact HL3.out
                      have hi8 : i < (cpart c r i y T3).length := by rw [hl8]; exact hiN
                      have hr8 : r < (cpart c r i y T3).length := by rw [hl8]; exact hrN
                      refine (clear_calls _ tb N cpT hs8 i r c L (b8 i) (b8 r) (cp8 i) (cp8 r) ((cpart c r i y T3).getD i []) y (px8 i) (px8 r) hN hL hiN hrN (by omega) (hot8.cap r hr8) hot8.head (hot8.at_ i hi8) (hot8.at_ r hr8) (hot8.row i hi8)
                        (by have := hot8.row r hr8; rw [cpart_at _ _ _ _ (by rw [HL3.out]; exact hrN), if_neg (fun h => h.2 rfl), HYT.out] at this; exact this) (hot8.wide i hi8) HYL.out (fun e => HI.out (hot8.inj i r hi8 hr8 e))).mono ?_
                      rintro e w9 ⟨⟨v9, rfl⟩, hg9, hrow9⟩
                      have HC9 := Aside0.mk (show ∃ hs b cp px, OT w9 n0 w.heap.size tb hs b cp px (cpart c r (i + 1) y T3) L from
                        ⟨_, _, _, _, by rw [← cpart_step (by rw [HL3.out]; exact hiN) HI.out]; exact hot8.put hi8 (by rw [clear_len]; exact hot8.wide i hi8) hg9 hrow9⟩)
                      have HRK9 := Aside0.mk (HRK.out.grown hg9 (hot8.bb i hi8).1 (hot8.bb i hi8).2)
                      clear hg9 hrow9 hot8
                      go_wp2_with fail
                      go_roundw
                      case rel => exact ⟨i + 1, by omega, by go_num, HC9, HRK9⟩
                      case measure => simp [intOf]; omega
                  · have hiN2 : N = i := by omega
                    subst hiN2
                    have hiz : ¬ (N : Int) < (N : Int) := by omega
                    have HPI := Aside0.mk HRK.out.piv
                    have hszr : w.heap.size ≤ wr.heap.size := by have := blk_lt HRK.out.tbox; omega
                    have HSR := Aside0.mk hszr
                    have HPL := Aside0.mk (show ((gj T c).2.map Int.ofNat).length = r by rw [List.length_map]; exact HRr.out)
                    clear hszr
                    go_wp2_with (at_builtin; refine Kd.R_append (Kd.int .i64) (w0 := wr) w.heap.size rfl (.tmp 96) (.tmp 98) 31 3 (.int .i64 0) 8 rfl Try.underlying31 info3 rfl (by decide) (by omega) (.slice A4 r c4) ((gj T c).2.map Int.ofNat) (c : Int) [.int .i64 c] (fun k_ => w.heap.size ≤ k_) (fun _ => False) rfl rfl rfl (fun _ hk => hk.elim) (fun k hk => Nat.le_trans HSR.out hk) HPI.out (Below.refl _ _) HSR.out (by have := HPL.out; omega) ?_; intro v1 w1 ho hb hg hat; have HO1 := Aside0.mk ho; have HB1 := Aside0.mk hb; have HG1 := Aside0.mk hg; clear ho hb hg hat)
                    refine ⟨⟨D :: ds, ?_⟩, ?_⟩
                    · (repeat apply Exists.intro)
                      refine ⟨⟨c + 1, hlt, by go_num, ⟨?_⟩⟩, rfl⟩
                      obtain ⟨hs8, b8, cp8, px8, hot8⟩ := HC.out
                      rw [← HEL.out] at hot8
                      have hT1 : (gj T (c + 1)).1 = elim T2 r c := by rw [HGS.out]
                      have hP1 : (gj T (c + 1)).2.map Int.ofNat = (gj T c).2.map Int.ofNat ++ [(c : Int)] := by rw [HGS.out]; simp
                      refine ⟨⟨hs8, b8, cp8, px8, by rw [hT1]; exact hot8.belowN (Nat.le_refl _) HB1.out⟩, ?_, by rw [hP1]; exact HO1.out, ?_, HRK.out.nodup, HRK.out.below.trans (HB1.out.mono hn0)⟩
                      · exact blk_grown HRK.out.tbox HG1.out (Kd.R_ne HPI.out HRK.out.tbox (by decide))
                      · intro q hq
                        have hm := HRK.out.marks q hq
                        refine ⟨hm.1, blk_grown hm.2 HG1.out (fun e => ?_)⟩
                        obtain ⟨cells, hcl⟩ := Kd.R_typed HPI.out q e.symm
                        rw [hm.2] at hcl; cases hcl
                    · simp [intOf]; omega
        · obtain rfl : k = N := by omega
          have HF := Aside0.mk (firstNZ_eq (T := (gj T c).1) (c := c) hrk (by rw [HLEN.out]; exact Nat.le_refl _) HZ.out (fun h => absurd h (by rw [HLEN.out]; exact Nat.lt_irrefl _)))
          have hkz : ¬ (k : Int) < (k : Int) := by omega
          go_wp2_with fail
          refine ⟨⟨ds, ?_⟩, ?_⟩
          · (repeat apply Exists.intro)
            refine ⟨⟨c + 1, hlt, by go_num, ⟨?_⟩⟩, rfl⟩
            have hst : gj T (c + 1) = gj T c := by
              rw [HST.out, gjStep_eq' (by rw [HRr.out, HLEN.out]; exact hrk), HRr.out, HF.out, if_neg (by rw [HLEN.out]; exact Nat.lt_irrefl _)]
            refine ⟨⟨hs1, b1, cp1, px1, by rw [hst]; exact HOT2.out⟩, HTB2.out, ?_, fun q hq => ⟨(HMK.out q hq).1, blk_below (HMK.out q hq).2 HB2.out⟩, HND.out, HBL.out.trans (HB2.out.mono (by omega))⟩
            rw [hst, ← HRr.out]
            exact Kd.R_below HPV.out HB2.out
          · simp [intOf]; omega
    · obtain rfl : c = many := by omega
      have hltz : ¬ (c : Int) < (c : Int) := by omega
      go_wp2_with fail
      refine leaves_marks (B := w.heap.size) (fun W => Kd.R (Kd.int .i64) 3 W w.heap.size (fun k => w.heap.size ≤ k) u4 ((gj T c).2.map Int.ofNat) ∧ (∃ hs b cp px, OT W n0 w.heap.size tb hs b cp px (gj T c).1 L) ∧ Below n0 w W)
        (fun W W' h hq => ⟨R_quiet h.1 hq, (let ⟨a1, a2, a3, a4, h4⟩ := h.2.1; ⟨a1, a2, a3, a4, h4.quiet hq⟩), h.2.2.trans (hq.below hn0 (by have := h.2.2.size; omega))⟩) ?_ ds wr HR.out.marks HR.out.nodup ⟨HR.out.piv, HR.out.ot, HR.out.below⟩
      intro W h
      refine ⟨u4, ?_, u4, rfl, h⟩
      exact results_tmp (t := 4) rfl _ _ _
end Go.Proofs.Ytipdpfnjobfbpaa.H


