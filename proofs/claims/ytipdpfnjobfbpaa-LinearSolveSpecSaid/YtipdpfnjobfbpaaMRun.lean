/- LRun, LGood, merged. -/
import Derived.Test.YtipdpfnjobfbpaaMLaw13
import Derived.Test.YtipdpfnjobfbpaaMSolve
import Derived.Test.YtipdpfnjobfbpaaMLin
/- What the printed summaries of the reference's and the law's small functions compute. -/
namespace Go.Proofs.Ytipdpfnjobfbpaa.H
open Go.RowKit Go.Proofs.YtipdpfnjobfbpaaW.PrintWords Go.Proofs.YtipdpfnjobfbpaaW.PrintLast Go.Proofs.YtipdpfnjobfbpaaW.PrintMore Go.Proofs.Ytipdpfnjobfbpaa.P SG SG.Lin
set_option linter.unusedVariables false
theorem add_run (a b : Int) : ∀ k, 4 ≤ k → field_Add.f k a b = some (fadd a b) := by
  intro k hk
  induction k with
  | zero => omega
  | succ k ih =>
    rcases Nat.lt_or_ge k 4 with h | h
    · obtain rfl : k = 3 := by omega
      exact Add_f a b
    · exact field_Add.mono a b k _ (ih h)
theorem numbers_loop (xs : List Int) (hx : xs.length ≤ 1000) : ∀ (d i k : Nat), i + d = xs.length → d < k → (xs.take i).any oddQ = false → signatoryref13_Numbers.l0 k xs (i : Int) = some (!xs.any oddQ) := by
  intro d
  induction d with
  | zero =>
    intro i k hi hk h0
    obtain ⟨k, rfl⟩ : ∃ q, k = q + 1 := ⟨k - 1, by omega⟩
    unfold signatoryref13_Numbers.l0
    rw [if_neg (by omega)]
    rw [show i = xs.length by omega, List.take_length] at h0
    rw [h0]; rfl
  | succ d ih =>
    intro i k hi hk h0
    obtain ⟨k, rfl⟩ : ∃ q, k = q + 1 := ⟨k - 1, by omega⟩
    have hil : i < xs.length := by omega
    unfold signatoryref13_Numbers.l0
    unfold rd
    rw [if_pos (by omega), if_pos (by omega), Int.toNat_natCast, wrap_nat (by omega)]
    have e : xs.take (i + 1) = xs.take i ++ [xs.getD i 0] := by
      rw [List.take_add_one, List.getElem?_eq_getElem hil, List.getD_eq_getElem?_getD, List.getElem?_eq_getElem hil]; rfl
    have e2 : (xs.take (i + 1)).any oddQ = oddQ (xs.getD i 0) := by rw [e, List.any_append, h0]; simp
    by_cases ho : oddQ (xs.getD i 0) = true
    · have ha : xs.any oddQ = true := by
        rw [List.any_eq_true]; exact ⟨_, getD_mem hil, ho⟩
      rw [ha]
      unfold oddQ at ho
      rw [Bool.or_eq_true, decide_eq_true_eq, decide_eq_true_eq] at ho
      by_cases h1 : xs.getD i 0 < 0
      · rw [if_pos h1]; rfl
      · rw [if_neg h1, if_pos (by omega)]; rfl
    · have ho' : oddQ (xs.getD i 0) = false := by simpa using ho
      have hq := ho'
      unfold oddQ at hq
      rw [Bool.or_eq_false_iff, decide_eq_false_iff_not, decide_eq_false_iff_not] at hq
      rw [if_neg hq.1, if_neg (by omega)]
      exact ih (i + 1) k (by omega) (by omega) (by rw [e2, ho'])
theorem numbers_run (xs : List Int) (hx : xs.length ≤ 1000) (k : Nat) (hk : xs.length < k) : signatoryref13_Numbers.f k xs = some (!xs.any oddQ) :=
  numbers_loop xs hx xs.length 0 k (by omega) hk rfl
theorem check_loop1 (zs : List (List Int)) (hz : zs.length ≤ 64) (hw : ∀ x, x ∈ zs → x.length ≤ 64) : ∀ (d i k : Nat), i + d = zs.length → d + 66 < k → (zs.take i).any (oddR (zs.getD 0 []).length) = false →
    signatoryref13_Check.l1 k zs (i : Int) = some (if zs.any (oddR (zs.getD 0 []).length) then 130 else 0) := by
  intro d
  induction d with
  | zero =>
    intro i k hi hk h0
    obtain ⟨k, rfl⟩ : ∃ q, k = q + 1 := ⟨k - 1, by omega⟩
    unfold signatoryref13_Check.l1
    rw [if_neg (by omega)]
    rw [show i = zs.length by omega, List.take_length] at h0
    rw [h0]; rfl
  | succ d ih =>
    intro i k hi hk h0
    obtain ⟨k, rfl⟩ : ∃ q, k = q + 1 := ⟨k - 1, by omega⟩
    have hil : i < zs.length := by omega
    unfold signatoryref13_Check.l1
    unfold rd_L2
    rw [if_pos (by omega), if_pos (by omega), if_pos (by omega), Int.toNat_natCast, wrap_nat (by omega), show (0 : Int).toNat = 0 from rfl]
    have hx := hw _ (getD_mem (d := []) hil)
    have e2 := any_take_row (q := oddR (zs.getD 0 []).length) hil h0
    have hany : oddR (zs.getD 0 []).length (zs.getD i []) = true → zs.any (oddR (zs.getD 0 []).length) = true := fun h => by
      rw [List.any_eq_true]; exact ⟨_, getD_mem hil, h⟩
    by_cases hl : (zs.getD i []).length = (zs.getD 0 []).length
    · rw [if_pos (by omega), numbers_run _ (by omega) k (by omega)]
      show (if (!(zs.getD i []).any oddQ) = true then _ else _) = _
      by_cases ho : (zs.getD i []).any oddQ = true
      · rw [ho, if_neg (by decide), hany (by unfold oddR; rw [ho, Bool.or_true]), if_pos rfl]
      · have ho' : (zs.getD i []).any oddQ = false := by simpa using ho
        rw [ho', if_pos (by decide)]
        refine ih (i + 1) k (by omega) (by omega) ?_
        rw [e2]; unfold oddR; rw [ho', Bool.or_false]; simpa using hl
    · rw [if_neg (by omega), hany (by unfold oddR; rw [Bool.or_eq_true]; left; simpa using hl), if_pos rfl]
theorem check_loop0 (zs : List (List Int)) (hz : zs.length ≤ 64) : ∀ (d i k : Nat), i + d = zs.length → d + 200 < k → (zs.take i).any longR = false →
    signatoryref13_Check.l0 k zs (i : Int) = some (chk zs) := by
  intro d
  induction d with
  | zero =>
    intro i k hi hk h0
    obtain ⟨k, rfl⟩ : ∃ q, k = q + 1 := ⟨k - 1, by omega⟩
    unfold signatoryref13_Check.l0
    rw [if_neg (by omega)]
    rw [show i = zs.length by omega, List.take_length] at h0
    have := check_loop1 zs hz (fun x hx => by
      rw [List.any_eq_false] at h0
      have := h0 x hx
      unfold longR at this; rw [decide_eq_true_eq] at this; omega) zs.length 0 k (by omega) (by omega) rfl
    rw [show ((0 : Nat) : Int) = 0 from rfl] at this
    rw [this]
    unfold chk
    rw [h0]; rfl
  | succ d ih =>
    intro i k hi hk h0
    obtain ⟨k, rfl⟩ : ∃ q, k = q + 1 := ⟨k - 1, by omega⟩
    have hil : i < zs.length := by omega
    unfold signatoryref13_Check.l0
    unfold rd_L2
    rw [if_pos (by omega), if_pos (by omega), Int.toNat_natCast, wrap_nat (by omega)]
    have e2 := any_take_row (q := longR) hil h0
    by_cases hl : 64 < (zs.getD i []).length
    · rw [if_pos (by omega)]
      unfold chk
      rw [if_pos]
      rw [List.any_eq_true]; exact ⟨_, getD_mem hil, by unfold longR; rw [decide_eq_true_eq]; exact hl⟩
    · rw [if_neg (by omega)]
      exact ih (i + 1) k (by omega) (by omega) (by rw [e2]; unfold longR; rw [decide_eq_false_iff_not]; exact hl)
theorem check_run (zs : List (List Int)) (k : Nat) (hk : 300 < k) : signatoryref13_Check.f k zs = some (checkP zs) := by
  unfold signatoryref13_Check.f checkP
  by_cases h : 64 < zs.length
  · rw [if_pos (by omega), if_pos h]
  · rw [if_neg (by omega), if_neg h]
    exact check_loop0 zs (by omega) zs.length 0 k (by omega) (by omega) rfl
def errP (zs : List (List Int)) (t : List Int) : Int :=
  if checkP zs = 0 then (if 64 < t.length then 2 else if t.any oddQ then 130 else if zs.length = 0 ∨ (zs.getD 0 []).length = t.length then 0 else 130) else checkP zs
theorem error_run (zs : List (List Int)) (t : List Int) (k : Nat) (hk : 300 < k) : signatoryref13_Error.f k zs t = some (errP zs t) := by
  unfold signatoryref13_Error.f errP
  rw [check_run zs k hk]
  show (if checkP zs = 0 then _ else _) = _
  by_cases h : checkP zs = 0
  · rw [if_pos h, if_pos h]
    by_cases h1 : 64 < t.length
    · rw [if_pos (by omega), if_pos h1]
    · rw [if_neg (by omega), if_neg h1, numbers_run t (by omega) k (by omega)]
      show (if (!t.any oddQ) = true then _ else _) = _
      by_cases h2 : t.any oddQ = true
      · rw [h2]; rfl
      · have h2' : t.any oddQ = false := by simpa using h2
        rw [h2', if_pos (by decide), if_neg (show ¬ (false = true) by decide)]
        unfold rd_L2
        rw [show (0 : Int).toNat = 0 from rfl]
        by_cases h3 : zs.length = 0
        · rw [if_neg (by omega), if_pos (.inl h3)]
        · rw [if_pos (by omega), if_pos (by omega)]
          by_cases h4 : (zs.getD 0 []).length = t.length
          · rw [if_pos (by omega), if_pos (.inr h4)]
          · rw [if_neg (by omega), if_neg (by omega)]
  · rw [if_neg h, if_neg h]
theorem err_exam (zs : List (List Int)) (t : List Int) : exam zs t = errP zs t := by
  unfold exam errP checkP
  by_cases h : 64 < zs.length
  · rw [if_pos h, if_neg (by rw [if_pos h]; decide), if_pos h]
  · rw [if_neg h, if_neg h]
    by_cases h2 : chk zs = 0
    · rw [if_neg (fun q => q h2), if_pos h2]
      have e : chk [t] = if 64 < t.length then 2 else if t.any oddQ then 130 else 0 := by
        unfold chk longR
        by_cases h3 : 64 < t.length
        · rw [if_pos (by simp [h3]), if_pos h3]
        · rw [if_neg (by simp [h3]), if_neg h3]
          have : ([t] : List (List Int)).any (oddR (([t] : List (List Int)).getD 0 []).length) = t.any oddQ := by
            show (oddR t.length t || false) = _
            unfold oddR
            rw [Bool.or_false]; simp
          rw [this]
      rw [e]
      by_cases h3 : 64 < t.length
      · simp [h3]
      · by_cases h4 : t.any oddQ = true
        · simp [h3, h4]
        · simp only [if_neg h3, if_neg h4, ne_eq, not_true_eq_false, if_false]
    · rw [if_pos h2, if_neg h2]
theorem same_loop (a b : List Int) (ha : a.length ≤ 1000) (hab : a.length = b.length) : ∀ (d i k : Nat), i + d = a.length → d < k → a.take i = b.take i → signatoryref13_SameInts.l0 k a b (i : Int) = some (decide (a = b)) := by
  intro d
  induction d with
  | zero =>
    intro i k hi hk h0
    obtain ⟨k, rfl⟩ : ∃ q, k = q + 1 := ⟨k - 1, by omega⟩
    unfold signatoryref13_SameInts.l0
    rw [if_neg (by omega)]
    obtain rfl : i = a.length := by omega
    rw [List.take_length, hab, List.take_length] at h0
    rw [decide_eq_true h0]
  | succ d ih =>
    intro i k hi hk h0
    obtain ⟨k, rfl⟩ : ∃ q, k = q + 1 := ⟨k - 1, by omega⟩
    have hil : i < a.length := by omega
    have hib : i < b.length := by omega
    unfold signatoryref13_SameInts.l0
    unfold rd
    rw [if_pos (by omega), if_pos (by omega), if_pos (by omega), Int.toNat_natCast, wrap_nat (by omega)]
    by_cases h : a.getD i 0 = b.getD i 0
    · rw [if_pos h]
      refine ih (i + 1) k (by omega) (by omega) ?_
      rw [List.getD_eq_getElem?_getD, List.getElem?_eq_getElem hil, List.getD_eq_getElem?_getD, List.getElem?_eq_getElem hib] at h
      rw [List.take_add_one, List.take_add_one, h0, List.getElem?_eq_getElem hil, List.getElem?_eq_getElem hib]
      show _ ++ [a[i]] = _ ++ [b[i]]
      rw [show a[i] = b[i] from h]
    · rw [if_neg h, decide_eq_false]
      intro e; rw [e] at h; exact h rfl
theorem same_run (a b : List Int) (ha : a.length ≤ 1000) (k : Nat) (hk : a.length < k) : signatoryref13_SameInts.f k a b = some (decide (a = b)) := by
  unfold signatoryref13_SameInts.f
  by_cases h : a.length = b.length
  · rw [if_pos (by omega)]
    exact same_loop a b ha h a.length 0 k (by omega) hk rfl
  · rw [if_neg (by omega), decide_eq_false]
    intro e; rw [e] at h; exact h rfl
def dotN (a b : List Int) (i : Nat) : Int := (List.range i).foldl (fun n i => fadd n (fmul (a.getD i 0) (b.getD i 0))) 0
theorem dotN_succ (a b : List Int) (i : Nat) : dotN a b (i + 1) = fadd (dotN a b i) (fmul (a.getD i 0) (b.getD i 0)) := by
  unfold dotN; rw [List.range_succ, List.foldl_append]; rfl
theorem product_loop (a b : List Int) (ha : a.length ≤ 1000) (hab : a.length ≤ b.length) : ∀ (d i k : Nat), i + d = a.length → d + 4 < k → signatorylaw13_product.l0 k a b (dotN a b i) (a.length : Int) (i : Int) = some (dotP a b) := by
  intro d
  induction d with
  | zero =>
    intro i k hi hk
    obtain ⟨k, rfl⟩ : ∃ q, k = q + 1 := ⟨k - 1, by omega⟩
    unfold signatorylaw13_product.l0
    rw [if_neg (by omega)]
    obtain rfl : i = a.length := by omega
    rfl
  | succ d ih =>
    intro i k hi hk
    obtain ⟨k, rfl⟩ : ∃ q, k = q + 1 := ⟨k - 1, by omega⟩
    unfold signatorylaw13_product.l0
    unfold rd
    rw [if_pos (by omega), if_pos (by omega), if_pos (by omega), if_pos (by omega), Int.toNat_natCast, wrap_nat (by omega), Mul_f]
    show (field_Add.f k _ _).bind _ = _
    rw [add_run _ _ k (by omega)]
    show signatorylaw13_product.l0 k a b _ _ _ = _
    rw [← dotN_succ]
    exact ih (i + 1) k (by omega) (by omega)
theorem product_run (a b : List Int) (ha : a.length ≤ 1000) (hab : a.length ≤ b.length) (k : Nat) (hk : a.length + 4 < k) : signatorylaw13_product.f k a b = some (dotP a b) :=
  product_loop a b ha hab a.length 0 k (by omega) hk
theorem proves_loop {rows : List (List Int)} {t w : List Int} {m : Nat} (hr : rows.length ≤ 1000) (hm : m ≤ 1000) (hw : ∀ x, x ∈ rows → x.length = m) (ht : t.length = m) (hwl : w.length = m) : ∀ (d i k : Nat), i + d = rows.length → d + m + 6 < k → ((rows.take i).all fun x => dotP x w == 0) = true →
    signatorylaw13_proves.l0 k t w rows (rows.length : Int) (i : Int) = some (provesP rows t w) := by
  intro d
  induction d with
  | zero =>
    intro i k hi hk h0
    obtain ⟨k, rfl⟩ : ∃ q, k = q + 1 := ⟨k - 1, by omega⟩
    unfold signatorylaw13_proves.l0
    rw [if_neg (by omega), product_run t w (by omega) (by omega) k (by omega)]
    obtain rfl : i = rows.length := by omega
    rw [List.take_length] at h0
    unfold provesP
    rw [h0]; rfl
  | succ d ih =>
    intro i k hi hk h0
    obtain ⟨k, rfl⟩ : ∃ q, k = q + 1 := ⟨k - 1, by omega⟩
    have hil : i < rows.length := by omega
    have hx := hw _ (getD_mem (d := []) hil)
    unfold signatorylaw13_proves.l0
    unfold rd_L2
    rw [if_pos (by omega), if_pos (by omega), if_pos (by omega), Int.toNat_natCast, wrap_nat (by omega), if_pos (by omega), product_run _ w (by omega) (by omega) k (by omega)]
    show (if dotP (rows.getD i []) w = 0 then _ else _) = _
    by_cases hp : dotP (rows.getD i []) w = 0
    · rw [if_pos hp]
      refine ih (i + 1) k (by omega) (by omega) ?_
      have e : rows.take (i + 1) = rows.take i ++ [rows.getD i []] := by
        rw [List.take_add_one, List.getElem?_eq_getElem hil, List.getD_eq_getElem?_getD, List.getElem?_eq_getElem hil]; rfl
      rw [e, List.all_append, h0, List.all_cons, hp]; rfl
    · rw [if_neg hp]
      have : (rows.all fun x => dotP x w == 0) = false := by
        rw [List.all_eq_false]
        exact ⟨_, getD_mem hil, by simpa using hp⟩
      unfold provesP
      rw [this]; rfl
theorem proves_run {rows : List (List Int)} {t w : List Int} {m : Nat} (hr : rows.length ≤ 1000) (hm : m ≤ 1000) (hw : ∀ x, x ∈ rows → x.length = m) (ht : t.length = m) (k : Nat) (hk : rows.length + m + 6 < k) :
    signatorylaw13_proves.f k rows t w = some (decide (w.length = m) && provesP rows t w) := by
  unfold signatorylaw13_proves.f
  by_cases h : w.length = m
  · rw [if_pos (by omega), decide_eq_true h, Bool.true_and]
    exact proves_loop hr hm hw ht h rows.length 0 k (by omega) (by omega) rfl
  · rw [if_neg (by omega), decide_eq_false h]; rfl
def madeN (rows : Tab) (y : List Int) (k i : Nat) : Int := (List.range i).foldl (fun a i => fadd a (fmul (y.getD i 0) (at2 rows i k))) 0
theorem madeN_succ (rows : Tab) (y : List Int) (k i : Nat) : madeN rows y k (i + 1) = fadd (madeN rows y k i) (fmul (y.getD i 0) (at2 rows i k)) := by
  unfold madeN; rw [List.range_succ, List.foldl_append]; rfl
/-- What made holds while row i is added up to column j. -/
def madeL (rows : Tab) (y : List Int) (m i j : Nat) : List Int := (List.range m).map fun k => if k < j then madeN rows y k (i + 1) else madeN rows y k i
theorem madeL_len (rows : Tab) (y : List Int) (m i j : Nat) : (madeL rows y m i j).length = m := by simp [madeL]
theorem madeL_get (rows : Tab) (y : List Int) (m i j : Nat) (h : j < m) : (madeL rows y m i j).getD j 0 = madeN rows y j i := by
  unfold madeL; rw [getD_range_map h, if_neg (Nat.lt_irrefl j)]
theorem madeL_succ (rows : Tab) (y : List Int) (m i j : Nat) (h : j < m) : (madeL rows y m i j).set j (madeN rows y j (i + 1)) = madeL rows y m i (j + 1) := by
  refine List.ext_getElem (by simp [madeL]) (fun q h1 h2 => ?_)
  have e : ∀ j' (hh : q < (madeL rows y m i j').length), (madeL rows y m i j')[q] = if q < j' then madeN rows y q (i + 1) else madeN rows y q i := fun j' hh => by simp [madeL]
  rw [List.getElem_set, e, e]
  by_cases hq : j = q
  · subst hq; rw [if_pos rfl, if_pos (by omega)]
  · rw [if_neg hq]
    by_cases h3 : q < j
    · rw [if_pos h3, if_pos (by omega)]
    · rw [if_neg h3, if_neg (by omega)]
theorem madeL_next (rows : Tab) (y : List Int) (m i : Nat) : madeL rows y m i m = madeL rows y m (i + 1) 0 := by
  unfold madeL
  refine List.map_congr_left (fun k hk => ?_)
  rw [if_pos (List.mem_range.1 hk), if_neg (Nat.not_lt_zero k)]
theorem madeL_zero (rows : Tab) (y : List Int) (m : Nat) : madeL rows y m 0 0 = List.replicate m 0 := by
  refine List.ext_getElem (by simp [madeL]) (fun q h1 h2 => ?_)
  simp [madeL, madeN]
theorem madeL_all (rows : Tab) (y : List Int) (m : Nat) : madeL rows y m rows.length 0 = madeP rows y m := by
  unfold madeL madeP
  refine List.map_congr_left (fun k hk => ?_)
  rw [if_neg (Nat.not_lt_zero k)]; rfl
section
variable {rows : List (List Int)} {y : List Int} {m : Nat}
theorem made_inner (hm : m ≤ 1000) (hw : ∀ x, x ∈ rows → x.length = m) (hy : y.length = rows.length) {i : Nat} (hi : i < rows.length) (hr : rows.length ≤ 1000) : ∀ (d j k : Nat), j + d = m → d + 6 ≤ k →
    ∃ k', k = k' + d + 1 ∧ signatorylaw13_made.l1 k y (m : Int) (madeL rows y m i j) (i : Int) rows (rows.length : Int) (i : Int) (rows.getD i []) ((rows.getD i []).length : Int) (j : Int) =
      signatorylaw13_made.l0 k' y (m : Int) (madeL rows y m (i + 1) 0) rows (rows.length : Int) ((i + 1 : Nat) : Int) := by
  have hx := hw _ (getD_mem (d := []) hi)
  intro d
  induction d with
  | zero =>
    intro j k hj hk
    obtain ⟨k, rfl⟩ : ∃ q, k = q + 1 := ⟨k - 1, by omega⟩
    refine ⟨k, rfl, ?_⟩
    obtain rfl : j = m := by omega
    unfold signatorylaw13_made.l1
    rw [if_neg (by omega), wrap_nat (by omega), madeL_next]
  | succ d ih =>
    intro j k hj hk
    obtain ⟨k, rfl⟩ : ∃ q, k = q + 1 := ⟨k - 1, by omega⟩
    obtain ⟨k', e, h⟩ := ih (j + 1) k (by omega) (by omega)
    refine ⟨k', by omega, ?_⟩
    unfold signatorylaw13_made.l1
    unfold rd
    rw [if_pos (by omega), if_pos (by omega), if_pos (by omega), madeL_len, if_pos (by omega), if_pos (by omega), if_pos (by omega), Int.toNat_natCast, Int.toNat_natCast, wrap_nat (by omega), Mul_f]
    show (field_Add.f k _ _).bind _ = _
    rw [add_run _ _ k (by omega), madeL_get _ _ _ _ _ (by omega)]
    show signatorylaw13_made.l1 k y (m : Int) ((madeL rows y m i j).set j (fadd (madeN rows y j i) (fmul (y.getD i 0) ((rows.getD i []).getD j 0)))) _ _ _ _ _ _ _ = _
    rw [show fadd (madeN rows y j i) (fmul (y.getD i 0) ((rows.getD i []).getD j 0)) = madeN rows y j (i + 1) from (madeN_succ rows y j i).symm, madeL_succ _ _ _ _ _ (by omega)]
    exact h
theorem made_outer (hm : m ≤ 1000) (hw : ∀ x, x ∈ rows → x.length = m) (hy : y.length = rows.length) (hr : rows.length ≤ 1000) : ∀ (d i k : Nat), i + d = rows.length → d * (m + 2) + 6 ≤ k →
    signatorylaw13_made.l0 k y (m : Int) (madeL rows y m i 0) rows (rows.length : Int) (i : Int) = some (madeP rows y m, true) := by
  intro d
  induction d with
  | zero =>
    intro i k hi hk
    obtain ⟨k, rfl⟩ : ∃ q, k = q + 1 := ⟨k - 1, by omega⟩
    unfold signatorylaw13_made.l0
    obtain rfl : i = rows.length := by omega
    rw [if_neg (by omega), madeL_all]
  | succ d ih =>
    intro i k hi hk
    obtain ⟨k, rfl⟩ : ∃ q, k = q + 1 := ⟨k - 1, by omega⟩
    rw [Nat.succ_mul] at hk
    have hil : i < rows.length := by omega
    have hx := hw _ (getD_mem (d := []) hil)
    obtain ⟨k', e, h⟩ := made_inner hm hw hy hil hr m 0 k (by omega) (by omega)
    unfold signatorylaw13_made.l0
    unfold rd_L2
    rw [if_pos (by omega), if_pos (by omega), if_pos (by omega), Int.toNat_natCast, if_pos (by omega)]
    rw [show ((0 : Nat) : Int) = 0 from rfl] at h
    rw [h]
    exact ih (i + 1) k' (by omega) (by omega)
theorem made_run (hm : m ≤ 1000) (hw : ∀ x, x ∈ rows → x.length = m) (hr : rows.length ≤ 1000) (y : List Int) (k : Nat) (hk : rows.length * (m + 2) + 6 ≤ k) :
    signatorylaw13_made.f k rows y (m : Int) = some (if y.length = rows.length then (madeP rows y m, true) else ([], false)) := by
  unfold signatorylaw13_made.f
  by_cases h : y.length = rows.length
  · rw [if_pos (by omega), if_pos (by omega), if_pos (by omega), if_pos h, Int.toNat_natCast, ← madeL_zero rows y]
    exact made_outer hm hw h hr rows.length 0 k (by omega) hk
  · rw [if_neg (by omega), if_neg h]
end
def FewOut (zs : List (List Int)) (i k : Nat) : Prop := ∃ b, signatoryref13_Few.l0 k zs (i : Int) = some b ∧ (∀ k', k ≤ k' → signatoryref13_Few.l0 k' zs (i : Int) = some b) ∧ (b = true → (zs.length ≤ 16 ∨ 64 < zs.length ∧ zs.length ≤ 70) ∧ ∀ j, j < zs.length → (zs.getD j []).length ≤ 16 ∨ (64 < (zs.getD j []).length ∧ (zs.getD j []).length ≤ 100))
theorem few_loop (zs : List (List Int)) : ∀ (d i k : Nat), i + d = 70 → 2 * d + 4 ≤ k → i ≤ zs.length → (∀ j, j < i → (zs.getD j []).length ≤ 16 ∨ (64 < (zs.getD j []).length ∧ (zs.getD j []).length ≤ 100)) →
    FewOut zs i k := by
  have up : ∀ (i k : Nat) b, signatoryref13_Few.l0 k zs (i : Int) = some b → ∀ k', k ≤ k' → signatoryref13_Few.l0 k' zs (i : Int) = some b := by
    intro i k b h k' hk
    induction hk with
    | refl => exact h
    | step _ ih => exact (signatoryref13_Few.mono_l _).1 _ _ _ ih
  have fin : ∀ (i k : Nat) b, signatoryref13_Few.l0 k zs (i : Int) = some b → (b = true → (zs.length ≤ 16 ∨ 64 < zs.length ∧ zs.length ≤ 70) ∧ ∀ j, j < zs.length → (zs.getD j []).length ≤ 16 ∨ (64 < (zs.getD j []).length ∧ (zs.getD j []).length ≤ 100)) →
      FewOut zs i k :=
    fun i k b h hb => ⟨b, h, up i k b h, hb⟩
  intro d
  induction d with
  | zero =>
    intro i k hi hk hl h0
    obtain ⟨k, rfl⟩ : ∃ q, k = q + 2 := ⟨k - 2, by omega⟩
    have e : signatoryref13_Few.l0 (k + 2) zs (i : Int) = (if (zs.length : Int) ≤ 16 then (some true) else (if (zs.length : Int) > 64 then (some (decide ((zs.length : Int) ≤ 70))) else (some false))) := by
      unfold signatoryref13_Few.l0 signatoryref13_Few.j1
      rw [decide_eq_false (show ¬ (i : Int) < 70 by omega)]
      split <;> rfl
    by_cases h1 : zs.length ≤ 16
    · omega
    · rw [if_neg (by omega), if_pos (by omega)] at e
      refine fin i _ _ e (fun hb => ?_)
      rw [decide_eq_true_eq] at hb
      exact ⟨by omega, fun j hj => h0 j (by omega)⟩
  | succ d ih =>
    intro i k hi hk hl h0
    obtain ⟨k, rfl⟩ : ∃ q, k = q + 2 := ⟨k - 2, by omega⟩
    by_cases hil : i < zs.length
    · have e : signatoryref13_Few.l0 (k + 2) zs (i : Int) = (if ((zs.getD i []).length : Int) > 16 then (if ((zs.getD i []).length : Int) ≤ 64 then (some false) else (if ((zs.getD i []).length : Int) > 100 then (some false) else (signatoryref13_Few.l0 k zs (wrap64 ((i : Int) + 1))))) else (if ((zs.getD i []).length : Int) > 100 then (some false) else (signatoryref13_Few.l0 k zs (wrap64 ((i : Int) + 1))))) := by
        conv => lhs; unfold signatoryref13_Few.l0 signatoryref13_Few.j1
        unfold rd_L2
        rw [decide_eq_true (show (i : Int) < 70 by omega), if_pos (by omega), if_pos rfl, if_pos (by omega), if_pos (by omega), Int.toNat_natCast]
      rw [wrap_nat (by omega)] at e
      have go : (∀ j, j < i + 1 → (zs.getD j []).length ≤ 16 ∨ (64 < (zs.getD j []).length ∧ (zs.getD j []).length ≤ 100)) → signatoryref13_Few.l0 (k + 2) zs (i : Int) = signatoryref13_Few.l0 k zs ((i + 1 : Nat) : Int) → FewOut zs i (k + 2) := fun h e => by
        obtain ⟨b, h1, _, h3⟩ := ih (i + 1) k (by omega) (by omega) (by omega) h
        exact fin i _ b (e.trans h1) h3
      have add : ((zs.getD i []).length ≤ 16 ∨ (64 < (zs.getD i []).length ∧ (zs.getD i []).length ≤ 100)) → ∀ j, j < i + 1 → (zs.getD j []).length ≤ 16 ∨ (64 < (zs.getD j []).length ∧ (zs.getD j []).length ≤ 100) := fun h j hj => by
        rcases Nat.lt_succ_iff_lt_or_eq.1 hj with hj | rfl
        · exact h0 j hj
        · exact h
      by_cases h1 : 16 < (zs.getD i []).length
      · rw [if_pos (by omega)] at e
        by_cases h2 : (zs.getD i []).length ≤ 64
        · rw [if_pos (by omega)] at e
          exact fin i _ _ e (fun hb => by cases hb)
        · rw [if_neg (by omega)] at e
          by_cases h3 : 100 < (zs.getD i []).length
          · rw [if_pos (by omega)] at e
            exact fin i _ _ e (fun hb => by cases hb)
          · rw [if_neg (by omega)] at e
            exact go (add (.inr ⟨by omega, by omega⟩)) e
      · rw [if_neg (by omega), if_neg (by omega)] at e
        exact go (add (.inl (by omega))) e
    · have e : signatoryref13_Few.l0 (k + 2) zs (i : Int) = (if (zs.length : Int) ≤ 16 then (some true) else (if (zs.length : Int) > 64 then (some (decide ((zs.length : Int) ≤ 70))) else (some false))) := by
        unfold signatoryref13_Few.l0 signatoryref13_Few.j1
        rw [if_neg (by omega)]; rfl
      by_cases h1 : zs.length ≤ 16
      · rw [if_pos (by omega)] at e
        exact fin i _ _ e (fun _ => ⟨.inl h1, fun j hj => h0 j (by omega)⟩)
      · rw [if_neg (by omega)] at e
        by_cases h2 : 64 < zs.length
        · rw [if_pos (by omega)] at e
          refine fin i _ _ e (fun hb => ?_)
          rw [decide_eq_true_eq] at hb
          exact ⟨by omega, fun j hj => h0 j (by omega)⟩
        · rw [if_neg (by omega)] at e
          exact fin i _ _ e (fun hb => by cases hb)
theorem few_run (zs : List (List Int)) : ∃ b, (∀ k, 144 ≤ k → signatoryref13_Few.f k zs = some b) ∧ (b = true → (zs.length ≤ 16 ∨ 64 < zs.length ∧ zs.length ≤ 70) ∧ ∀ x, x ∈ zs → x.length ≤ 16 ∨ (64 < x.length ∧ x.length ≤ 100)) := by
  obtain ⟨b, _, h2, h3⟩ := few_loop zs 70 0 144 (by omega) (by omega) (by omega) (fun j hj => by omega)
  refine ⟨b, fun k hk => h2 k hk, fun hb => ⟨(h3 hb).1, fun x hx => ?_⟩⟩
  obtain ⟨j, hj, rfl⟩ := List.getElem_of_mem hx
  have := (h3 hb).2 j hj
  rwa [List.getD_eq_getElem?_getD, List.getElem?_eq_getElem hj] at this
/-- What right tells. -/
theorem right_run (zs : List (List Int)) (t : List Int) : ∃ b, (∀ k, 400 ≤ k → signatorylaw13_right.f k zs t = some b) ∧ (b = true → zs.length ≤ 16 ∧ t.length ≤ 16 ∧ exam zs t = 0) := by
  obtain ⟨b, h1, h2⟩ := few_run zs
  refine ⟨b && (decide (t.length ≤ 16) && (errP zs t == 0)), fun k hk => ?_, fun hb => ?_⟩
  · unfold signatorylaw13_right.f
    rw [h1 k (by omega)]
    show (if b = true then _ else _) = _
    cases b with
    | false => rfl
    | true =>
      rw [if_pos rfl, error_run zs t k (by omega), Bool.true_and]
      by_cases h : t.length ≤ 16
      · rw [if_pos (by omega), decide_eq_true h]; rfl
      · rw [if_neg (by omega), decide_eq_false h]; rfl
  · rw [Bool.and_eq_true, Bool.and_eq_true, decide_eq_true_eq, beq_iff_eq, ← err_exam] at hb
    obtain ⟨hb, h3, h4⟩ := hb
    have := (h2 hb).1
    have := (exam_zero h4).1
    exact ⟨by omega, h3, h4⟩
end Go.Proofs.Ytipdpfnjobfbpaa.H


/- Rows of the field pass the checks; helpers for the law functions. -/
namespace Go.Proofs.Ytipdpfnjobfbpaa.H
open Go.RowKit Go.Proofs.YtipdpfnjobfbpaaW.PrintWords Go.Proofs.YtipdpfnjobfbpaaW.PrintLast Go.Proofs.YtipdpfnjobfbpaaW.PrintMore Go.Proofs.Ytipdpfnjobfbpaa.P SG SG.Lin
set_option linter.unusedVariables false
theorem some_bind {α β : Type} (a : α) (f : α → Option β) : (some a).bind f = f a := rfl
theorem odd_inF {x : List Int} (h : ∀ a, a ∈ x → InF a) : x.any oddQ = false := by
  rw [List.any_eq_false]
  intro a ha
  obtain ⟨h0, h1⟩ := h a ha
  unfold oddQ
  rw [Bool.or_eq_true, decide_eq_true_eq, decide_eq_true_eq]
  omega
theorem chk_good {T : List (List Int)} {n L : Nat} (h : SG.Lin.Good T n L) (hL : L ≤ 64) : chk T = 0 := by
  unfold chk
  have h1 : T.any longR = false := by
    rw [List.any_eq_false]
    intro x hx
    have := h.wide x hx
    unfold longR; rw [decide_eq_true_eq]; omega
  have h2 : T.any (oddR (T.getD 0 []).length) = false := by
    rw [List.any_eq_false]
    intro x hx
    have h0 : (T.getD 0 []).length = L := h.wide _ (getD_mem (List.length_pos_of_mem hx))
    unfold oddR
    rw [h0, h.wide x hx, odd_inF (h.fld x hx)]; simp
  rw [h1, h2]; rfl
theorem checkP_good {T : List (List Int)} {n L : Nat} (h : SG.Lin.Good T n L) (hn : n ≤ 64) (hL : L ≤ 64) : checkP T = 0 := by
  unfold checkP
  rw [if_neg (by rw [h.len]; omega), chk_good h hL]
theorem exam_good {T : List (List Int)} {n L : Nat} {t : List Int} (h : SG.Lin.Good T n L) (hn : n ≤ 64) (hL : L ≤ 64) (ht : t.length = L) (hf : ∀ a, a ∈ t → InF a) : exam T t = 0 := by
  rw [err_exam]
  unfold errP
  rw [checkP_good h hn hL, if_pos rfl, if_neg (by omega), odd_inF hf, if_neg (by decide)]
  by_cases h0 : T.length = 0
  · rw [if_pos (.inl h0)]
  · rw [if_pos (.inr (by rw [ht]; exact h.wide _ (getD_mem (by omega))))]
theorem rank_f {T : List (List Int)} (h : checkP T = 0) : linear_Rank.f T = some ((rankP T : Int), 0) := by
  unfold linear_Rank.f rankAns
  rw [if_neg (fun q => q h)]
theorem comb_f {T : List (List Int)} {t : List Int} (h : exam T t = 0) : linear_Combine.f T t = some (match combineP T t with | some y => (y, true, 0) | none => ([], false, 0)) := by
  unfold linear_Combine.f combAns; rw [if_neg (fun q => q h)]; rfl
theorem sep_f {T : List (List Int)} {t : List Int} (h : exam T t = 0) : linear_Separate.f T t = some (match separateP T t with | some y => (y, true, 0) | none => ([], false, 0)) := by
  unfold linear_Separate.f sepAns; rw [if_neg (fun q => q h)]; rfl
end Go.Proofs.Ytipdpfnjobfbpaa.H


