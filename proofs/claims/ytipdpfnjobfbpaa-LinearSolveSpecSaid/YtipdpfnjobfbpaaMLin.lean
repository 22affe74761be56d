/- LFermat, LinA, LinB, LinC, LinD, LinE, merged. -/

/- The prime Q, and the little theorem of Fermat. -/
namespace SG
/-! Fermat's little theorem for the prime Q -/
abbrev Q : Nat := 1073741789

def ch : Nat → Nat → Nat
  | _, 0 => 1
  | 0, _ + 1 => 0
  | n + 1, k + 1 => ch n k + ch n (k + 1)

theorem ch_zero (n : Nat) : ch n 0 = 1 := by cases n <;> rfl
theorem ch_gt (n : Nat) : ∀ k, n < k → ch n k = 0 := by
  induction n with
  | zero => intro k h; cases k with
    | zero => omega
    | succ k => rfl
  | succ n ih => intro k h; cases k with
    | zero => omega
    | succ k => simp only [ch]; rw [ih k (by omega), ih (k + 1) (by omega)]
theorem ch_self (n : Nat) : ch n n = 1 := by
  induction n with
  | zero => rfl
  | succ n ih => simp only [ch]; rw [ih, ch_gt n (n + 1) (by omega)]
theorem ch_mul (n : Nat) : ∀ k, (k + 1) * ch (n + 1) (k + 1) = (n + 1) * ch n k := by
  induction n with
  | zero => intro k; cases k with
    | zero => rfl
    | succ k => simp [ch]
  | succ n ih => intro k; cases k with
    | zero => have := ih 0; simp only [ch, ch_zero] at *; omega
    | succ k =>
      have h1 := ih k
      have h2 := ih (k + 1)
      have e : ch (n + 1 + 1) (k + 1 + 1) = ch (n + 1) (k + 1) + ch (n + 1) (k + 1 + 1) := rfl
      have e' : ch (n + 1) (k + 1) = ch n k + ch n (k + 1) := rfl
      rw [e, Nat.mul_add, h2, Nat.add_mul (k + 1) 1, h1, Nat.one_mul]
      rw [show (n + 1 + 1) * ch (n + 1) (k + 1) = (n + 1) * (ch n k + ch n (k + 1)) + ch (n + 1) (k + 1) from by rw [← e', Nat.add_mul (n + 1) 1, Nat.one_mul], Nat.mul_add]
      omega
def sm (f : Nat → Nat) : Nat → Nat
  | 0 => 0
  | n + 1 => sm f n + f n
theorem pascal (a n : Nat) : ∀ m, sm (fun k => ch (n + 1) k * a ^ k) (m + 1) = a * sm (fun k => ch n k * a ^ k) m + sm (fun k => ch n k * a ^ k) (m + 1) := by
  intro m
  induction m with
  | zero => simp [sm, ch_zero]
  | succ m ih =>
    have e1 : sm (fun k => ch (n + 1) k * a ^ k) (m + 1 + 1) = sm (fun k => ch (n + 1) k * a ^ k) (m + 1) + ch (n + 1) (m + 1) * a ^ (m + 1) := rfl
    have e2 : sm (fun k => ch n k * a ^ k) (m + 1 + 1) = sm (fun k => ch n k * a ^ k) (m + 1) + ch n (m + 1) * a ^ (m + 1) := rfl
    have e3 : sm (fun k => ch n k * a ^ k) (m + 1) = sm (fun k => ch n k * a ^ k) m + ch n m * a ^ m := rfl
    rw [e1, ih, e2, show ch (n + 1) (m + 1) = ch n m + ch n (m + 1) from rfl, Nat.add_mul, Nat.pow_succ]
    generalize sm (fun k => ch n k * a ^ k) (m + 1) = S at *
    rw [e3, Nat.mul_add]
    have : a * (ch n m * a ^ m) = ch n m * (a ^ m * a) := by rw [Nat.mul_comm a, Nat.mul_assoc]
    omega
theorem binom (a n : Nat) : (a + 1) ^ n = sm (fun k => ch n k * a ^ k) (n + 1) := by
  induction n with
  | zero => simp [sm, ch]
  | succ n ih =>
    rw [pascal, Nat.pow_succ, ih, Nat.mul_add, Nat.mul_one, Nat.mul_comm]
    have : sm (fun k => ch n k * a ^ k) (n + 1 + 1) = sm (fun k => ch n k * a ^ k) (n + 1) := by
      show _ + ch n (n + 1) * _ = _
      rw [ch_gt n (n + 1) (by omega)]; omega
    rw [this]
def IsPrime (p : Nat) : Prop := 2 ≤ p ∧ ∀ m, m ∣ p → m = 1 ∨ m = p
theorem IsPrime.coprime {p : Nat} (hp : IsPrime p) {k : Nat} (h : ¬ p ∣ k) : Nat.Coprime p k := by
  rcases hp.2 _ (Nat.gcd_dvd_left p k) with h1 | h1
  · exact h1
  · exact absurd (h1 ▸ Nat.gcd_dvd_right p k) h
theorem sm_mod (p : Nat) (f : Nat → Nat) (n : Nat) (h : ∀ k, 0 < k → k < n → f k % p = 0) : sm f n % p = (if 0 < n then f 0 else 0) % p := by
  induction n with
  | zero => simp [sm]
  | succ n ih =>
    show (sm f n + f n) % p = _
    by_cases hn : 0 < n
    · rw [Nat.add_mod, ih (fun k h1 h2 => h k h1 (by omega)), h n hn (by omega)]; simp [hn]
    · have : n = 0 := by omega
      subst this; simp [sm]
theorem ch_prime {p : Nat} (hp : IsPrime p) (k : Nat) (h0 : 0 < k) (h1 : k < p) : ch p k % p = 0 := by
  obtain ⟨n, rfl⟩ : ∃ n, p = n + 1 := ⟨p - 1, by have := hp.1; omega⟩
  obtain ⟨j, rfl⟩ : ∃ j, k = j + 1 := ⟨k - 1, by omega⟩
  have h := ch_mul n j
  have hd : (n + 1) ∣ (j + 1) * ch (n + 1) (j + 1) := ⟨_, h⟩
  have hc : Nat.Coprime (n + 1) (j + 1) := hp.coprime (fun hd => by have := Nat.le_of_dvd (by omega) hd; omega)
  exact Nat.mod_eq_zero_of_dvd (hc.dvd_of_dvd_mul_left hd)
theorem fermat {p : Nat} (hp : IsPrime p) (a : Nat) : a ^ p % p = a % p := by
  induction a with
  | zero => rw [Nat.zero_pow (by have := hp.1; omega)]
  | succ a ih =>
    rw [binom]
    show (sm _ p + ch p p * a ^ p) % p = _
    rw [Nat.add_mod, sm_mod p _ p (fun k h0 h1 => by rw [Nat.mul_mod, ch_prime hp k h0 h1]; simp), if_pos (by have := hp.1; omega), ch_self, Nat.one_mul, ih, ch_zero]
    simp only [Nat.pow_zero, Nat.mul_one]
    rw [← Nat.add_mod, Nat.add_comm]
theorem fermat1 {p : Nat} (hp : IsPrime p) {a : Nat} (ha : ¬ p ∣ a) : a ^ (p - 1) % p = 1 % p := by
  have h := fermat hp a
  have h2 := hp.1
  have e : a ^ p = a * a ^ (p - 1) := by rw [Nat.mul_comm, ← Nat.pow_succ]; congr 1; omega
  rw [e] at h
  have hx : 0 < a ^ (p - 1) := Nat.pow_pos (Nat.pos_of_ne_zero fun h0 => ha (h0 ▸ Nat.dvd_zero _))
  have hd : p ∣ a * (a ^ (p - 1) - 1) := by
    rw [Nat.mul_sub, Nat.mul_one]
    exact Nat.dvd_of_mod_eq_zero (Nat.sub_mod_eq_zero_of_mod_eq h)
  have hd2 := (hp.coprime ha).dvd_of_dvd_mul_left hd
  obtain ⟨q, hq⟩ := hd2
  have : a ^ (p - 1) = 1 + p * q := by omega
  rw [this, Nat.add_mul_mod_self_left]
def noDiv (n : Nat) : Nat → Bool
  | 0 => true
  | d + 1 => (decide (d + 1 < 2) || n % (d + 1) != 0) && noDiv n d
theorem noDiv_spec (n : Nat) : ∀ b, noDiv n b = true → ∀ d, 2 ≤ d → d ≤ b → ¬ d ∣ n := by
  intro b
  induction b with
  | zero => intro _ d h1 h2; omega
  | succ b ih =>
    intro h d h1 h2
    simp only [noDiv, Bool.and_eq_true, Bool.or_eq_true, decide_eq_true_eq, bne_iff_ne] at h
    by_cases e : d = b + 1
    · subst e
      rintro hd
      rcases h.1 with h | h
      · omega
      · exact h (Nat.mod_eq_zero_of_dvd hd)
    · exact ih h.2 d h1 (by omega)
theorem prime_of (n b : Nat) (h2 : 2 ≤ n) (hb : n < (b + 1) * (b + 1)) (h : noDiv n b = true) : IsPrime n := by
  refine ⟨h2, fun m ⟨q, hq⟩ => ?_⟩
  have hs := noDiv_spec n b h
  by_cases h1 : m = 1
  · exact .inl h1
  by_cases h3 : m = n
  · exact .inr h3
  exfalso
  have hm0 : m ≠ 0 := by rintro rfl; simp at hq; omega
  have hq0 : q ≠ 0 := by rintro rfl; simp at hq; omega
  have hq1 : q ≠ 1 := by rintro rfl; simp at hq; omega
  have hmb : b < m := by
    apply Nat.lt_of_not_le; intro hle; exact hs m (by omega) hle ⟨q, hq⟩
  have hqb : b < q := by
    apply Nat.lt_of_not_le; intro hle; exact hs q (by omega) hle ⟨m, by rw [Nat.mul_comm]; exact hq⟩
  have := Nat.mul_le_mul hmb hqb
  rw [← hq] at this
  exact absurd hb (Nat.not_lt.2 this)
theorem prime_Q : IsPrime Q := prime_of Q 32768 (by decide) (by decide) (by decide +kernel)

end SG


/- Linear algebra over the field of Q elements, on functions: spans of rows, shapes of reduced rows, ranks. -/
namespace SG.Lin
abbrev K := Fin 1073741789
theorem inv_gen {p : Nat} (hp : IsPrime p) {a : Nat} (h : ¬ p ∣ a) : ∃ b, a * b % p = 1 % p := by
  refine ⟨a ^ (p - 2), ?_⟩
  rw [← fermat1 hp h, show p - 1 = p - 2 + 1 from by have := hp.1; omega, Nat.pow_succ, Nat.mul_comm]
theorem inv_ex (a : K) (h : a ≠ 0) : ∃ b : K, a * b = 1 := by
  have hn : ¬ Q ∣ a.val := fun hd => h (Fin.ext (by
    have h1 := a.isLt
    show a.val = 0
    exact Nat.eq_zero_of_dvd_of_lt hd h1))
  obtain ⟨b, hb⟩ := inv_gen prime_Q hn
  refine ⟨Fin.ofNat _ b, Fin.ext ?_⟩
  rw [Fin.val_mul]
  show a.val * (b % 1073741789) % 1073741789 = 1
  rw [Nat.mul_mod, Nat.mod_mod, ← Nat.mul_mod]
  exact hb
theorem mul_zero_of {a b : K} (ha : a ≠ 0) (h : a * b = 0) : b = 0 := by
  obtain ⟨c, hc⟩ := inv_ex a ha
  have : b = c * (a * b) := by grind
  rw [this, h]; grind

def S : Nat → (Nat → K) → K
  | 0, _ => 0
  | n + 1, f => S n f + f n
theorem S_congr {n : Nat} {f g : Nat → K} (h : ∀ i, i < n → f i = g i) : S n f = S n g := by
  induction n with
  | zero => rfl
  | succ n ih => simp only [S]; rw [ih (fun i hi => h i (by omega)), h n (by omega)]
theorem S_zero {n : Nat} {f : Nat → K} (h : ∀ i, i < n → f i = 0) : S n f = 0 := by
  induction n with
  | zero => rfl
  | succ n ih => simp only [S]; rw [ih (fun i hi => h i (by omega)), h n (by omega)]; grind
theorem S_add (n : Nat) (f g : Nat → K) : S n (fun i => f i + g i) = S n f + S n g := by
  induction n with
  | zero => simp only [S]; grind
  | succ n ih => simp only [S]; rw [ih]; grind
theorem S_mul (n : Nat) (c : K) (f : Nat → K) : S n (fun i => c * f i) = c * S n f := by
  induction n with
  | zero => simp only [S]; grind
  | succ n ih => simp only [S]; rw [ih]; grind
theorem S_mul_r (n : Nat) (c : K) (f : Nat → K) : S n (fun i => f i * c) = S n f * c := by
  induction n with
  | zero => simp only [S]; grind
  | succ n ih => simp only [S]; rw [ih]; grind
theorem S_swap (n m : Nat) (f : Nat → Nat → K) : S n (fun i => S m (fun j => f i j)) = S m (fun j => S n (fun i => f i j)) := by
  induction n with
  | zero => simp only [S]; rw [S_zero]; intro _ _; rfl
  | succ n ih => simp only [S]; rw [ih, ← S_add]
theorem S_single {n k : Nat} {f : Nat → K} (hk : k < n) (h : ∀ i, i < n → i ≠ k → f i = 0) : S n f = f k := by
  induction n with
  | zero => omega
  | succ n ih =>
    simp only [S]
    by_cases e : k = n
    · subst e
      rw [S_zero (fun i hi => h i (by omega) (by omega))]; grind
    · rw [ih (by omega) (fun i hi hne => h i (by omega) hne), h n (by omega) (by omega)]; grind
theorem S_le {n m : Nat} {f : Nat → K} (h : n ≤ m) (h0 : ∀ i, n ≤ i → i < m → f i = 0) : S m f = S n f := by
  induction m with
  | zero => have : n = 0 := by omega
            subst this; rfl
  | succ m ih =>
    by_cases e : n = m + 1
    · rw [e]
    · simp only [S]; rw [ih (by omega) (fun i h1 h2 => h0 i h1 (by omega)), h0 m (by omega) (by omega)]; grind

/-- v is a combination of the first n rows of A. -/
def Span (n : Nat) (A : Nat → Nat → K) (v : Nat → K) : Prop := ∃ c : Nat → K, ∀ j, v j = S n fun l => c l * A l j
theorem Span.row {n : Nat} {A : Nat → Nat → K} {i : Nat} (h : i < n) : Span n A (A i) := by
  refine ⟨fun l => if l = i then 1 else 0, fun j => ?_⟩
  rw [S_single h (fun l _ hne => by show (if l = i then (1 : K) else 0) * _ = 0; rw [if_neg hne]; grind)]
  show _ = (if i = i then (1 : K) else 0) * _
  rw [if_pos rfl]; grind
theorem Span.zero (n : Nat) (A : Nat → Nat → K) {v : Nat → K} (h : ∀ j, v j = 0) : Span n A v :=
  ⟨fun _ => 0, fun j => by rw [h, S_zero]; intro i _; grind⟩
theorem Span.add {n : Nat} {A : Nat → Nat → K} {u v : Nat → K} (hu : Span n A u) (hv : Span n A v) : Span n A (fun j => u j + v j) := by
  obtain ⟨c, hc⟩ := hu
  obtain ⟨d, hd⟩ := hv
  refine ⟨fun l => c l + d l, fun j => ?_⟩
  show u j + v j = _
  rw [hc, hd, ← S_add]
  exact S_congr fun i _ => by grind
theorem Span.mul {n : Nat} {A : Nat → Nat → K} {u : Nat → K} (a : K) (hu : Span n A u) : Span n A (fun j => a * u j) := by
  obtain ⟨c, hc⟩ := hu
  refine ⟨fun l => a * c l, fun j => ?_⟩
  show a * u j = _
  rw [hc, ← S_mul]
  exact S_congr fun i _ => by grind
theorem Span.congr {n : Nat} {A : Nat → Nat → K} {u v : Nat → K} (hu : Span n A u) (h : ∀ j, v j = u j) : Span n A v := by
  obtain ⟨c, hc⟩ := hu
  exact ⟨c, fun j => by rw [h, hc]⟩
theorem Span.sub {n : Nat} {A : Nat → Nat → K} {u v : Nat → K} (hu : Span n A u) (hv : Span n A v) : Span n A (fun j => u j - v j) :=
  (hu.add (hv.mul (-1))).congr fun j => by grind
theorem Span.sum {n : Nat} {A : Nat → Nat → K} {B : Nat → Nat → K} (m : Nat) (c : Nat → K) (h : ∀ i, i < m → Span n A (B i)) : Span n A (fun j => S m fun l => c l * B l j) := by
  induction m with
  | zero => exact Span.zero n A fun _ => rfl
  | succ m ih => exact (ih fun i hi => h i (by omega)).add ((h m (by omega)).mul (c m))
theorem Span.trans {n m : Nat} {A B : Nat → Nat → K} {v : Nat → K} (h : ∀ i, i < m → Span n A (B i)) (hv : Span m B v) : Span n A v := by
  obtain ⟨c, hc⟩ := hv
  exact (Span.sum m c h).congr hc
theorem Span.mono {n m : Nat} {A : Nat → Nat → K} {v : Nat → K} (h : n ≤ m) (hv : Span n A v) : Span m A v :=
  Span.trans (fun i hi => Span.row (by omega)) hv
/-- A further row. -/
theorem span_succ {n : Nat} {A : Nat → Nat → K} {v : Nat → K} : Span (n + 1) A v ↔ ∃ u a, Span n A u ∧ ∀ j, v j = u j + a * A n j := by
  constructor
  · rintro ⟨c, hc⟩
    exact ⟨_, c n, ⟨c, fun _ => rfl⟩, fun j => by rw [hc]; rfl⟩
  · rintro ⟨u, a, hu, h⟩
    exact ((hu.mono (Nat.le_succ n)).add ((Span.row (Nat.lt_succ_self n)).mul a)).congr h

def Same (n m : Nat) (A B : Nat → Nat → K) : Prop := ∀ v, Span n A v ↔ Span m B v
theorem Same.of {n m : Nat} {A B : Nat → Nat → K} (h : ∀ i, i < m → Span n A (B i)) (k : ∀ i, i < n → Span m B (A i)) : Same n m A B :=
  fun _ => ⟨fun hv => Span.trans k hv, fun hv => Span.trans h hv⟩
theorem Same.refl (n : Nat) (A : Nat → Nat → K) : Same n n A A := fun _ => Iff.rfl
theorem Same.symm {n m : Nat} {A B : Nat → Nat → K} (h : Same n m A B) : Same m n B A := fun v => (h v).symm
theorem Same.trans {n m l : Nat} {A B C : Nat → Nat → K} (h : Same n m A B) (k : Same m l B C) : Same n l A C := fun v => (h v).trans (k v)

/-- A homogeneous linear relation between the elements of each row. -/
def Null (n m : Nat) (A : Nat → Nat → K) (w : Nat → K) : Prop := ∀ i, i < n → S m (fun j => A i j * w j) = 0
theorem Null.span {n m : Nat} {A : Nat → Nat → K} {w v : Nat → K} (h : Null n m A w) (hv : Span n A v) : S m (fun j => v j * w j) = 0 := by
  obtain ⟨c, hc⟩ := hv
  rw [S_congr (g := fun j => S n fun l => c l * (A l j * w j)) (fun j _ => by rw [hc, ← S_mul_r]; exact S_congr fun _ _ => by grind), S_swap]
  exact S_zero fun l hl => by rw [S_mul, h l hl]; grind
theorem null_iff {n n' m : Nat} {A B : Nat → Nat → K} (h : Same n n' A B) (w : Nat → K) : Null n m A w ↔ Null n' m B w :=
  ⟨fun hA _ hi => hA.span ((h _).2 (Span.row hi)), fun hB _ hi => hB.span ((h _).1 (Span.row hi))⟩

/-- What rows look like that are reduced by their first 'many' columns: r of them begin with a 1, at the columns p. -/
structure Shape (n many r : Nat) (T : Nat → Nat → K) (p : Nat → Nat) : Prop where
  le : r ≤ n
  inc : ∀ i k, i < k → k < r → p i < p k
  lt : ∀ k, k < r → p k < many
  one : ∀ k, k < r → T k (p k) = 1
  zero : ∀ k i, k < r → i < n → i ≠ k → T i (p k) = 0
  ahead : ∀ k j, k < r → j < p k → T k j = 0
  rest : ∀ i j, r ≤ i → i < n → j < many → T i j = 0

section
variable {n many r : Nat} {T : Nat → Nat → K} {p : Nat → Nat}
theorem Shape.inj (h : Shape n many r T p) {i k : Nat} (hi : i < r) (hk : k < r) (e : p i = p k) : i = k := by
  rcases Nat.lt_trichotomy i k with h1 | h1 | h1
  · have := h.inc i k h1 hk; omega
  · exact h1
  · have := h.inc k i h1 hi; omega
/-- What is a combination of the rows is told by what it has at the pivots (within the first 'many' columns). -/
theorem Shape.expand (h : Shape n many r T p) {v : Nat → K} (hv : Span n T v) {j : Nat} (hj : j < many) : v j = S r fun k => v (p k) * T k j := by
  obtain ⟨c, hc⟩ := hv
  have hp : ∀ k, k < r → v (p k) = c k := fun k hk => by
    rw [hc, S_single (Nat.lt_of_lt_of_le hk h.le) (fun i hi hne => by rw [h.zero k i hk hi hne]; grind), h.one k hk]; grind
  rw [hc, S_le h.le (fun i h1 h2 => by rw [h.rest i j h1 h2 hj]; grind)]
  exact S_congr fun k hk => by rw [hp k hk]
/-- The columns at which combinations begin are the pivots. -/
theorem Shape.lead (h : Shape n many r T p) {v : Nat → K} (hv : Span n T v) {c : Nat} (hc : c < many) (h0 : ∀ j, j < c → v j = 0) (h1 : v c ≠ 0) : ∃ k, k < r ∧ p k = c := by
  apply Classical.byContradiction
  intro hn
  refine h1 ?_
  rw [h.expand hv hc]
  refine S_zero fun k hk => ?_
  rcases Nat.lt_trichotomy (p k) c with h2 | h2 | h2
  · rw [h0 _ h2]; grind
  · exact absurd ⟨k, hk, h2⟩ hn
  · rw [h.ahead k c hk h2]; grind
theorem Shape.leads (h : Shape n many r T p) {k : Nat} (hk : k < r) : Span n T (T k) ∧ (∀ j, j < p k → T k j = 0) ∧ T k (p k) ≠ 0 :=
  ⟨Span.row (Nat.lt_of_lt_of_le hk h.le), fun j hj => h.ahead k j hk hj, by rw [h.one k hk]; decide⟩
end
/-- c is a column at which a combination of the rows begins. -/
def Lead (n : Nat) (A : Nat → Nat → K) (c : Nat) : Prop := ∃ v, Span n A v ∧ (∀ j, j < c → v j = 0) ∧ v c ≠ 0
theorem Shape.lead_iff {n n' many r : Nat} {A T : Nat → Nat → K} {p : Nat → Nat} (hs : Same n' n A T) (h : Shape n many r T p) {c : Nat} (hc : c < many) : Lead n' A c ↔ ∃ k, k < r ∧ p k = c := by
  constructor
  · rintro ⟨v, hv, h0, h1⟩
    exact h.lead ((hs v).1 hv) hc h0 h1
  · rintro ⟨k, hk, rfl⟩
    obtain ⟨h1, h2, h3⟩ := h.leads hk
    exact ⟨_, (hs _).2 h1, h2, h3⟩
/-- Column c depends on the earlier ones. -/
def Dep (n : Nat) (A : Nat → Nat → K) (c : Nat) : Prop := ∃ a : Nat → K, ∀ i, i < n → A i c = S c fun j => A i j * a j
theorem Dep.span {n : Nat} {A : Nat → Nat → K} {c : Nat} {a : Nat → K} (h : ∀ i, i < n → A i c = S c fun j => A i j * a j) {v : Nat → K} (hv : Span n A v) : v c = S c fun j => v j * a j := by
  obtain ⟨d, hd⟩ := hv
  rw [S_congr (g := fun j => S n fun l => d l * (A l j * a j)) (fun j _ => by rw [hd, ← S_mul_r]; exact S_congr fun _ _ => by grind), S_swap, hd]
  exact S_congr fun l hl => by rw [h l hl, S_mul]
theorem dep_same {n n' : Nat} {A B : Nat → Nat → K} (hs : Same n n' A B) {c : Nat} (h : Dep n A c) : Dep n' B c := by
  obtain ⟨a, ha⟩ := h
  exact ⟨a, fun i hi => Dep.span ha ((hs _).2 (Span.row hi))⟩
/-- A column is a pivot exactly if it does not depend on the earlier ones. -/
theorem Shape.dep {n n' many r : Nat} {A T : Nat → Nat → K} {p : Nat → Nat} (hs : Same n' n A T) (h : Shape n many r T p) {c : Nat} (hc : c < many) : (∃ k, k < r ∧ p k = c) ↔ ¬ Dep n' A c := by
  constructor
  · rintro ⟨k, hk, rfl⟩ hd
    obtain ⟨a, ha⟩ := dep_same hs hd
    have := ha k (Nat.lt_of_lt_of_le hk h.le)
    rw [h.one k hk, S_zero (fun j hj => by rw [h.ahead k j hk hj]; grind)] at this
    exact absurd this (by decide)
  · intro hd
    apply Classical.byContradiction
    intro hn
    refine hd (dep_same hs.symm ?_)
    -- the coefficients: at the pivots ahead of c what the row has at c
    have key : ∀ (q : Nat) (hq : q ≤ r), ∃ a : Nat → K, ∀ i, i < n → (S c fun j => T i j * a j) = S q fun k => if p k < c then T i (p k) * T k c else 0 := by
      intro q
      induction q with
      | zero => intro _; exact ⟨fun _ => 0, fun i _ => by rw [S_zero (fun j _ => by grind)]; rfl⟩
      | succ q ih =>
        intro hq
        obtain ⟨a, ha⟩ := ih (by omega)
        by_cases hlt : p q < c
        · refine ⟨fun j => a j + if j = p q then T q c else 0, fun i hi => ?_⟩
          rw [S_congr (g := fun j => T i j * a j + (T i j * if j = p q then T q c else 0)) (fun j _ => by grind), S_add, ha i hi]
          simp only [S]
          rw [S_single hlt (fun j _ hne => by rw [if_neg hne]; grind), if_pos rfl, if_pos hlt]
        · refine ⟨a, fun i hi => ?_⟩
          rw [ha i hi]
          simp only [S]
          rw [if_neg hlt]; grind
    obtain ⟨a, ha⟩ := key r (Nat.le_refl r)
    refine ⟨a, fun i hi => ?_⟩
    rw [ha i hi]
    by_cases hir : i < r
    · rw [S_single hir (fun k hk hne => by
        by_cases hlt : p k < c
        · rw [if_pos hlt, h.zero k i hk hi (fun e => hne e.symm)]; grind
        · rw [if_neg hlt])]
      by_cases hlt : p i < c
      · rw [if_pos hlt, h.one i hir]; grind
      · rw [if_neg hlt]
        have : p i ≠ c := fun e => hn ⟨i, hir, e⟩
        exact h.ahead i c hir (by omega)
    · rw [h.rest i c (by omega) hi hc, S_zero]
      intro k hk
      by_cases hlt : p k < c
      · rw [if_pos hlt, h.rest i (p k) (by omega) hi (h.lt k hk)]; grind
      · rw [if_neg hlt]

open Classical in
noncomputable def cnt (P : Nat → Prop) : Nat → Nat
  | 0 => 0
  | n + 1 => cnt P n + if P n then 1 else 0
theorem cnt_congr {P R : Nat → Prop} {n : Nat} (h : ∀ c, c < n → (P c ↔ R c)) : cnt P n = cnt R n := by
  induction n with
  | zero => rfl
  | succ n ih =>
    simp only [cnt]
    rw [ih fun c hc => h c (by omega)]
    by_cases e : P n
    · rw [if_pos e, if_pos ((h n (by omega)).1 e)]
    · rw [if_neg e, if_neg (fun k => e ((h n (by omega)).2 k))]
theorem cnt_put {P : Nat → Prop} {n c : Nat} (hc : c < n) (h : ¬ P c) : cnt (fun i => P i ∨ i = c) n = cnt P n + 1 := by
  induction n with
  | zero => omega
  | succ n ih =>
    simp only [cnt]
    by_cases e : c = n
    · subst e
      rw [if_pos (.inr rfl), if_neg h, cnt_congr (R := P)]
      intro i hi
      exact ⟨fun k => k.resolve_right (by omega), .inl⟩
    · rw [ih (by omega)]
      by_cases k : P n
      · rw [if_pos (.inl k), if_pos k]
      · rw [if_neg (fun x => x.elim k (fun y => e y.symm)), if_neg k]
theorem cnt_list {P : Nat → Prop} {p : Nat → Nat} (n : Nat) : ∀ r, (∀ i k, i < k → k < r → p i < p k) → (∀ c, c < n → (P c ↔ ∃ k, k < r ∧ p k = c)) → (∀ k, k < r → p k < n) → r = cnt P n := by
  induction n with
  | zero => intro r _ _ h; cases r with
    | zero => rfl
    | succ r => exact absurd (h 0 (by omega)) (by omega)
  | succ n ih =>
    intro r hi hP hl
    simp only [cnt]
    by_cases e : P n
    · rw [if_pos e]
      obtain ⟨k, hk, hkn⟩ := (hP n (by omega)).1 e
      have hkr : r = k + 1 := by
        apply Classical.byContradiction; intro hne
        have h1 := hi k (k + 1) (by omega) (by omega)
        have h2 := hl (k + 1) (by omega)
        omega
      subst hkr
      rw [← ih k (fun i j h1 h2 => hi i j h1 (by omega)) (fun c hc => ?_) (fun i h1 => by have := hi i k h1 (by omega); omega)]
      rw [hP c (by omega)]
      constructor
      · rintro ⟨j, hj, rfl⟩
        refine ⟨j, ?_, rfl⟩
        apply Classical.byContradiction; intro hne
        have : j = k := by omega
        subst this; omega
      · rintro ⟨j, hj, rfl⟩
        exact ⟨j, by omega, rfl⟩
    · rw [if_neg e]
      refine ih r hi (fun c hc => hP c (by omega)) (fun k hk => ?_)
      have := hl k hk
      have : p k ≠ n := fun e2 => e ((hP n (by omega)).2 ⟨k, hk, e2⟩)
      omega
theorem Shape.rank {n n' many r : Nat} {A T : Nat → Nat → K} {p : Nat → Nat} (hs : Same n' n A T) (h : Shape n many r T p) : r = cnt (Lead n' A) many :=
  cnt_list many r h.inc (fun _ hc => h.lead_iff hs hc) h.lt
theorem Shape.rank_dep {n n' many r : Nat} {A T : Nat → Nat → K} {p : Nat → Nat} (hs : Same n' n A T) (h : Shape n many r T p) : r = cnt (fun c => ¬ Dep n' A c) many :=
  cnt_list many r h.inc (fun _ hc => (h.dep hs hc).symm) h.lt
theorem least {f : Nat → K} (m : Nat) : (∃ j, j < m ∧ f j ≠ 0) → ∃ c, c < m ∧ f c ≠ 0 ∧ ∀ j, j < c → f j = 0 := by
  induction m with
  | zero => rintro ⟨j, h, _⟩; omega
  | succ m ih =>
    rintro ⟨j, hj, h⟩
    by_cases e : ∃ i, i < m ∧ f i ≠ 0
    · obtain ⟨c, h1, h2, h3⟩ := ih e
      exact ⟨c, by omega, h2, h3⟩
    · refine ⟨m, by omega, ?_, fun i hi => Classical.byContradiction fun hn => e ⟨i, hi, hn⟩⟩
      by_cases e2 : j = m
      · rw [← e2]; exact h
      · exact absurd ⟨j, by omega, h⟩ e
/-- A further row: the columns at which combinations begin are the same, or one more. -/
theorem lead_succ {n n' m r : Nat} {A T : Nat → Nat → K} {p : Nat → Nat} (hs : Same n n' A T) (h : Shape n' m r T p) (hA : ∀ i j, m ≤ j → A i j = 0) :
    (Span n A (A n) → ∀ c, Lead (n + 1) A c ↔ Lead n A c) ∧
    (¬ Span n A (A n) → ∃ c0, c0 < m ∧ ¬ Lead n A c0 ∧ ∀ c, c < m → (Lead (n + 1) A c ↔ (Lead n A c ∨ c = c0))) := by
  constructor
  · intro hv c
    have : Same (n + 1) n A A := Same.of (fun i hi => Span.row (by omega)) (fun i hi => by
      by_cases e : i = n
      · rw [e]; exact hv
      · exact Span.row (by omega))
    exact ⟨fun ⟨v, h1, h2⟩ => ⟨v, (this v).1 h1, h2⟩, fun ⟨v, h1, h2⟩ => ⟨v, (this v).2 h1, h2⟩⟩
  · intro hv
    have hAz : ∀ {v}, Span n A v → ∀ j, m ≤ j → v j = 0 := by
      rintro v ⟨c, hc⟩ j hj
      rw [hc, S_zero]
      intro i _; rw [hA i j hj]; grind
    obtain ⟨x, hx⟩ : ∃ x : Nat → K, x = fun j => A n j - S r fun k => A n (p k) * T k j := ⟨_, rfl⟩
    have hcomb : Span n A (fun j => S r fun k => A n (p k) * T k j) := (hs _).2 (Span.sum r (fun k => A n (p k)) fun i hi => Span.row (Nat.lt_of_lt_of_le hi h.le))
    have hxp : ∀ k, k < r → x (p k) = 0 := fun k hk => by
      rw [hx]
      show _ - _ = _
      rw [S_single hk (fun i hi hne => by rw [h.zero k i hk (Nat.lt_of_lt_of_le hi h.le) hne]; grind), h.one k hk]; grind
    have hxs : Span (n + 1) A x := ((Span.row (Nat.lt_succ_self n)).sub (hcomb.mono (Nat.le_succ n))).congr fun j => by rw [hx]
    have hxz : ∀ j, m ≤ j → x j = 0 := fun j hj => by
      have h1 := hAz hcomb j hj
      rw [hx]; show _ - _ = _
      rw [hA n j hj, h1]; grind
    have hxv : ∀ j, A n j = x j + S r fun k => A n (p k) * T k j := fun j => by rw [hx]; grind
    have hne : ∃ j, j < m ∧ x j ≠ 0 := by
      apply Classical.byContradiction
      intro hno
      refine hv (hcomb.congr fun j => ?_)
      rw [hxv j]
      have : x j = 0 := by
        by_cases hj : j < m
        · exact Classical.byContradiction fun h1 => hno ⟨j, hj, h1⟩
        · exact hxz j (by omega)
      rw [this]; grind
    obtain ⟨c0, hc0, hc1, hc2⟩ := least m hne
    refine ⟨c0, hc0, fun hl => ?_, fun c hc => ⟨?_, ?_⟩⟩
    · obtain ⟨k, hk, rfl⟩ := (h.lead_iff hs hc0).1 hl
      exact hc1 (hxp k hk)
    · rintro ⟨z, hz, hz0, hz1⟩
      obtain ⟨u, a, hu, huv⟩ := span_succ.1 hz
      -- z = u' + a x
      obtain ⟨u', hu'e⟩ : ∃ u' : Nat → K, u' = fun j => u j + a * S r fun k => A n (p k) * T k j := ⟨_, rfl⟩
      have hu' : Span n A u' := (hu.add (hcomb.mul a)).congr fun j => by rw [hu'e]
      have hzz : ∀ j, z j = u' j + a * x j := fun j => by rw [huv, hxv, hu'e]; grind
      by_cases ha : a = 0
      · exact .inl ⟨u', hu', fun j hj => by have := hzz j; rw [hz0 j hj, ha] at this; grind, fun h0 => hz1 (by rw [hzz, h0, ha]; grind)⟩
      · by_cases hl : Lead n A c
        · exact .inl hl
        · right
          have hnp : ∀ k, k < r → p k ≠ c := fun k hk e => hl ((h.lead_iff hs hc).2 ⟨k, hk, e⟩)
          have hu0 : ∀ j, j ≤ c → u' j = 0 := fun j hj => by
            rw [h.expand ((hs _).1 hu') (Nat.lt_of_le_of_lt hj hc)]
            refine S_zero fun k hk => ?_
            have := hnp k hk
            by_cases hlt : p k < c
            · have h1 := hzz (p k)
              rw [hz0 _ hlt, hxp k hk] at h1
              have : u' (p k) = 0 := by grind
              rw [this]; grind
            · rw [h.ahead k j hk (by omega)]; grind
          have hxc : x c ≠ 0 := fun h0 => hz1 (by rw [hzz, hu0 c (Nat.le_refl c), h0]; grind)
          have hx0 : ∀ j, j < c → x j = 0 := fun j hj => mul_zero_of ha (by have := hzz j; rw [hz0 j hj, hu0 j (by omega)] at this; grind)
          rcases Nat.lt_trichotomy c c0 with h1 | h1 | h1
          · exact absurd (hc2 c h1) hxc
          · exact h1
          · exact absurd (hx0 c0 h1) hc1
    · rintro (⟨v, h1, h2⟩ | rfl)
      · exact ⟨v, h1.mono (Nat.le_succ n), h2⟩
      · exact ⟨x, hxs, hc2, hc1⟩
/-- The rank: how many rows are no combination of the earlier ones. -/
noncomputable def rk (A : Nat → Nat → K) : Nat → Nat := cnt fun i => ¬ Span i A (A i)
theorem rk_le (A : Nat → Nat → K) (n : Nat) : rk A n ≤ n := by
  unfold rk
  generalize (fun i => ¬ Span i A (A i)) = P
  induction n with
  | zero => exact Nat.le_refl 0
  | succ n ih => simp only [cnt]; split <;> omega

/-- One step of the elimination: rows r and k are exchanged, row r is divided, the others are cleared. -/
theorem elim_step {n c r : Nat} {A A1 B : Nat → Nat → K} {p p' : Nat → Nat} (h : Shape n c r A p) {k : Nat} (hrk : r ≤ k) (hk : k < n) {b : K} (hb : A k c * b = 1)
    (h1 : ∀ i j, A1 i j = if i = r then A k j else if i = k then A r j else A i j)
    (hB : ∀ i, i < n → ∀ j, B i j = if i = r then A1 r j * b else A1 i j - A1 i c * (A1 r j * b))
    (hp : ∀ i, i < r → p' i = p i) (hp' : p' r = c) : Same n n A B ∧ Shape n (c + 1) (r + 1) B p' := by
  have hr : r < n := by omega
  have e1 : ∀ j, A1 r j = A k j := fun j => by rw [h1, if_pos rfl]
  have e2 : ∀ i, i ≠ r → i ≠ k → ∀ j, A1 i j = A i j := fun i h2 h3 j => by rw [h1, if_neg h2, if_neg h3]
  have e3 : k ≠ r → ∀ j, A1 k j = A r j := fun h2 j => by rw [h1, if_neg h2, if_pos rfl]
  have src : ∀ i, ∃ i', (∀ j, A1 i j = A i' j) ∧ (i < n → i' < n) ∧ (i < r → i' = i) ∧ (r ≤ i → r ≤ i') ∧ (i ≠ r → i' ≠ k) := fun i => by
    by_cases h2 : i = r
    · exact ⟨k, fun j => by rw [h2, e1], fun _ => hk, by omega, by omega, fun h3 => absurd h2 h3⟩
    · by_cases h3 : i = k
      · exact ⟨r, fun j => by rw [h3]; exact e3 (by omega) j, by omega, by omega, by omega, by omega⟩
      · exact ⟨i, e2 i h2 h3, id, fun _ => rfl, id, fun _ => h3⟩
  have dst : ∀ i, ∃ i', (∀ j, A1 i' j = A i j) ∧ (i < n → i' < n) := fun i => by
    by_cases h2 : i = k
    · exact ⟨r, fun j => by rw [h2, e1], fun _ => hr⟩
    · by_cases h3 : i = r
      · exact ⟨k, fun j => by rw [h3]; exact e3 (by omega) j, fun _ => hk⟩
      · exact ⟨i, e2 i h3 h2, id⟩
  have bR : ∀ j, B r j = A1 r j * b := fun j => by rw [hB r hr, if_pos rfl]
  have bI : ∀ i, i < n → i ≠ r → ∀ j, B i j = A1 i j - A1 i c * (A1 r j * b) := fun i hi hne j => by rw [hB i hi, if_neg hne]
  constructor
  · have s1 : ∀ i, i < n → Span n A (A1 i) := fun i hi => by
      obtain ⟨i', h2, h3, _⟩ := src i
      exact (Span.row (h3 hi)).congr h2
    refine Same.of (fun i hi => ?_) (fun i hi => ?_)
    · by_cases h2 : i = r
      · rw [h2]; exact ((s1 r hr).mul b).congr fun j => by rw [bR]; grind
      · exact ((s1 i hi).add ((s1 r hr).mul (-(A1 i c * b)))).congr fun j => by rw [bI i hi h2]; grind
    · have t1 : Span n B (A1 r) := ((Span.row hr).mul (A k c)).congr fun j => by rw [bR]; grind
      obtain ⟨i', h2, h3⟩ := dst i
      refine Span.congr ?_ (fun j => (h2 j).symm)
      by_cases h4 : i' = r
      · rw [h4]; exact t1
      · exact ((Span.row (h3 hi)).add ((t1.mul (A1 i' c * b)))).congr fun j => by rw [bI i' (h3 hi) h4]; grind
  · have z1 : ∀ j, j < c → A1 r j = 0 := fun j hj => by rw [e1]; exact h.rest k j hrk hk hj
    refine ⟨by omega, fun i j hij hj => ?_, fun i hi => ?_, fun i hi => ?_, fun i j hi hj hne => ?_, fun i j hi hj => ?_, fun i j hi hi2 hj => ?_⟩
    · by_cases e : j = r
      · rw [e, hp', hp i (by omega)]; exact h.lt i (by omega)
      · rw [hp i (by omega), hp j (by omega)]; exact h.inc i j hij (by omega)
    · by_cases e : i = r
      · rw [e, hp']; omega
      · rw [hp i (by omega)]; have := h.lt i (by omega); omega
    · by_cases e : i = r
      · rw [e, hp', bR, e1]; exact hb
      · have hi' : i < r := by omega
        obtain ⟨i', h2, _, h4, _⟩ := src i
        have e5 := h4 hi'
        subst e5
        rw [hp i' hi', bI i' (by omega) e, z1 _ (h.lt i' hi'), h2, h.one i' hi']; grind
    · by_cases e : i = r
      · rw [e, hp', bI j hj (by omega), e1]; grind
      · have hi' : i < r := by omega
        rw [hp i hi']
        have hz := z1 _ (h.lt i hi')
        by_cases e2 : j = r
        · rw [e2, bR, hz]; grind
        · rw [bI j hj e2, hz]
          obtain ⟨j', h2, h3, h4, h5, _⟩ := src j
          rw [h2, h.zero i j' hi' (h3 hj) (fun e6 => by
            by_cases h7 : j < r
            · exact hne ((h4 h7).symm.trans e6)
            · have := h5 (by omega); omega)]; grind
    · by_cases e : i = r
      · rw [e, hp'] at hj; rw [e, bR, z1 j hj]; grind
      · have hi' : i < r := by omega
        rw [hp i hi'] at hj
        obtain ⟨i', h2, _, h4, _⟩ := src i
        have e5 := h4 hi'
        subst e5
        rw [bI i' (by omega) e, h2, h.ahead i' j hi' hj, z1 j (Nat.lt_trans hj (h.lt i' hi'))]; grind
    · have hir : i ≠ r := by omega
      rw [bI i hi2 hir]
      by_cases e : j = c
      · rw [e, e1]; grind
      · obtain ⟨i', h2, h3, _, h5, _⟩ := src i
        rw [z1 j (by omega), h2, h.rest i' j (h5 (by omega)) (h3 hi2) (by omega)]; grind
theorem none_step {n c r : Nat} {A : Nat → Nat → K} {p : Nat → Nat} (h : Shape n c r A p) (h0 : ∀ i, r ≤ i → i < n → A i c = 0) : Shape n (c + 1) r A p :=
  ⟨h.le, h.inc, fun k hk => by have := h.lt k hk; omega, h.one, h.zero, h.ahead, fun i j h1 h2 h3 => by
    by_cases e : j = c
    · rw [e]; exact h0 i h1 h2
    · exact h.rest i j h1 h2 (by omega)⟩
end SG.Lin


/- The elimination on lists of whole numbers, and what it answers. -/
namespace SG.Lin
/-- A whole number in the field. -/
def kk (x : Int) : K := ⟨(x % 1073741789).toNat, by have := Int.emod_lt_of_pos x (b := 1073741789) (by decide); have := Int.emod_nonneg x (b := 1073741789) (by decide); omega⟩
theorem kk_val (x : Int) : ((kk x).val : Int) = x % 1073741789 := by
  show (((x % 1073741789).toNat : Nat) : Int) = _
  have := Int.emod_nonneg x (b := 1073741789) (by decide); omega
theorem kk_eq {x y : Int} : kk x = kk y ↔ x % 1073741789 = y % 1073741789 := by
  rw [← kk_val, ← kk_val]
  constructor
  · intro h; rw [h]
  · intro h; exact Fin.ext (by omega)
theorem kk_mod (x : Int) : kk (x % 1073741789) = kk x := kk_eq.2 (by omega)
theorem kk_add (x y : Int) : kk (x + y) = kk x + kk y := by
  apply Fin.ext
  have h := kk_val (x + y)
  have h1 := kk_val x
  have h2 := kk_val y
  rw [Fin.val_add]
  omega
theorem kk_mul (x y : Int) : kk (x * y) = kk x * kk y := by
  apply Fin.ext
  have h := kk_val (x * y)
  have h1 := kk_val x
  have h2 := kk_val y
  rw [Fin.val_mul]
  rw [Int.mul_emod, ← h1, ← h2] at h
  have : (((kk x).val * (kk y).val : Nat) : Int) % 1073741789 = ((((kk x).val * (kk y).val) % 1073741789 : Nat) : Int) := by omega
  rw [← Int.natCast_mul, this] at h
  exact Int.ofNat.inj h
theorem kk_zero : kk 0 = 0 := rfl
theorem kk_one : kk 1 = 1 := rfl
theorem kk_neg (x : Int) : kk (-x) = -kk x := by
  have : kk (x + -x) = kk 0 := by rw [Int.add_right_neg]
  rw [kk_add, kk_zero] at this
  grind
theorem kk_sub (x y : Int) : kk (x - y) = kk x - kk y := by rw [Int.sub_eq_add_neg, kk_add, kk_neg]; grind
def InF (x : Int) : Prop := 0 ≤ x ∧ x < 1073741789
theorem kk_inj {x y : Int} (hx : InF x) (hy : InF y) (h : kk x = kk y) : x = y := by
  have := kk_eq.1 h
  unfold InF at *; omega
theorem kk_ne {x : Int} (hx : InF x) : kk x = 0 ↔ x = 0 := ⟨fun h => kk_inj hx ⟨by omega, by omega⟩ (h.trans kk_zero.symm), fun h => by rw [h, kk_zero]⟩

def fadd (a b : Int) : Int := (a + b) % 1073741789
def fmul (a b : Int) : Int := (a * b) % 1073741789
theorem fadd_in (a b : Int) : InF (fadd a b) := ⟨Int.emod_nonneg _ (by decide), Int.emod_lt_of_pos _ (by decide)⟩
theorem fmul_in (a b : Int) : InF (fmul a b) := ⟨Int.emod_nonneg _ (by decide), Int.emod_lt_of_pos _ (by decide)⟩
theorem kk_fadd (a b : Int) : kk (fadd a b) = kk a + kk b := by unfold fadd; rw [kk_mod, kk_add]
theorem kk_fmul (a b : Int) : kk (fmul a b) = kk a * kk b := by unfold fmul; rw [kk_mod, kk_mul]
/-- Powers, by squares: x times square to the left. -/
def pw : Nat → Nat → Int → Int → Int
  | 0, _, _, x => x
  | f + 1, left, square, x => if left = 0 then x else pw f (left / 2) (fmul square square) (if left % 2 = 1 then fmul x square else x)
def finv (n : Int) : Int := pw 40 1073741787 n 1
theorem pw_in (f : Nat) : ∀ left square x, InF x → InF (pw f left square x) := by
  induction f with
  | zero => intro _ _ _ h; exact h
  | succ f ih =>
    intro left square x h
    simp only [pw]
    split
    · exact h
    · refine ih _ _ _ ?_
      split
      · exact fmul_in _ _
      · exact h
theorem finv_in (n : Int) : InF (finv n) := pw_in _ _ _ _ ⟨by omega, by omega⟩
theorem pow_mod (x : Int) (m : Nat) : (x % 1073741789) ^ m % 1073741789 = x ^ m % 1073741789 := by
  induction m with
  | zero => rw [Int.pow_zero, Int.pow_zero]
  | succ m ih => rw [Int.pow_succ, Int.pow_succ, Int.mul_emod, ih, Int.emod_emod_of_dvd x (Int.dvd_refl _), ← Int.mul_emod]
/-- Powers of a whole number, modulo Q, as a natural number's. -/
theorem pw_val (f : Nat) : ∀ (left : Nat) (square x : Int), left < 2 ^ f → (pw f left square x) % 1073741789 = (x * square ^ left) % 1073741789 := by
  induction f with
  | zero => intro left square x h; have : left = 0 := by omega
            subst this; simp [pw]
  | succ f ih =>
    intro left square x h
    simp only [pw]
    by_cases h0 : left = 0
    · rw [if_pos h0, h0]; simp
    · rw [if_neg h0, ih _ _ _ (by rw [Nat.pow_succ] at h; omega)]
      have e : ∀ m : Nat, (fmul square square) ^ m % 1073741789 = (square ^ (2 * m)) % 1073741789 := fun m => by
        rw [Int.pow_mul, show square ^ 2 = square * square from by rw [Int.pow_succ, Int.pow_succ, Int.pow_zero, Int.one_mul]]
        exact pow_mod _ _
      rw [Int.mul_emod, e, ← Int.mul_emod]
      by_cases h1 : left % 2 = 1
      · rw [if_pos h1]
        unfold fmul
        rw [Int.mul_emod, Int.emod_emod_of_dvd _ (Int.dvd_refl _), ← Int.mul_emod]
        conv => rhs; rw [show left = 1 + 2 * (left / 2) from by omega, Int.pow_add, Int.pow_succ, Int.pow_zero, Int.one_mul, ← Int.mul_assoc]
      · rw [if_neg h1]
        conv => rhs; rw [show left = 2 * (left / 2) from by omega]
theorem kk_finv {n : Int} (h : kk n ≠ 0) : kk n * kk (finv n) = 1 := by
  have hv := kk_val n
  have hn : ¬ Q ∣ (kk n).val := fun hd => h (Fin.ext (Nat.eq_zero_of_dvd_of_lt hd (kk n).isLt))
  have hf := fermat1 prime_Q hn
  have h1 := pw_val 40 1073741787 n 1 (by decide)
  rw [← kk_mul, ← kk_one, kk_eq]
  show (n * pw 40 1073741787 n 1) % 1073741789 = 1 % 1073741789
  rw [Int.mul_emod, h1, ← Int.mul_emod, Int.one_mul]
  obtain ⟨e, hg⟩ : ∃ e : Nat, e = 1073741787 := ⟨_, rfl⟩
  rw [← hg]
  have he : Q - 1 = e + 1 := by rw [hg]; rfl
  rw [he] at hf
  generalize (kk n).val = v at *
  have h2 : n * n ^ e = n ^ (e + 1) := by rw [Int.pow_succ, Int.mul_comm]
  have h3 : n ^ (e + 1) % 1073741789 = ((v ^ (e + 1) : Nat) : Int) % 1073741789 := by
    rw [Int.natCast_pow, hv, pow_mod]
  rw [h2, h3]
  show ((v ^ (e + 1) : Nat) : Int) % ((1073741789 : Nat) : Int) = _
  rw [← Int.natCast_emod]
  show ((v ^ (e + 1) % Q : Nat) : Int) = _
  rw [hf]; rfl

/-! ### Tables of whole numbers -/
abbrev Tab := List (List Int)
def at2 (T : Tab) (i j : Nat) : Int := (T.getD i []).getD j 0
def mt (T : Tab) (i j : Nat) : K := kk (at2 T i j)
def scaleFrom (c : Nat) (n : Int) (x : List Int) : List Int := x.mapIdx fun j a => if c ≤ j then fmul a n else a
def clearFrom (c : Nat) (y x : List Int) : List Int := if x.getD c 0 = 0 then x else x.mapIdx fun j a => if c ≤ j then fadd a (-fmul (x.getD c 0) (y.getD j 0)) else a
def firstNZ (T : Tab) (c k : Nat) : Nat := k + (T.drop k).findIdx fun x => x.getD c 0 != 0
def gjStep (st : Tab × List Nat) (c : Nat) : Tab × List Nat :=
  let r := st.2.length
  let k := firstNZ st.1 c r
  if k < st.1.length then
    let x := st.1.getD k []
    let y := scaleFrom c (finv (x.getD c 0)) x
    (((st.1.set k (st.1.getD r [])).set r y).mapIdx fun i z => if i = r then z else clearFrom c y z, st.2 ++ [c])
  else st
def gj (T : Tab) (many : Nat) : Tab × List Nat := (List.range many).foldl gjStep (T, [])
theorem gj_zero (T : Tab) : gj T 0 = (T, []) := rfl
theorem gj_succ (T : Tab) (many : Nat) : gj T (many + 1) = gjStep (gj T many) many := by
  unfold gj; rw [List.range_succ, List.foldl_append]; rfl
/-- A table of rows of one length, with elements of the field. -/
structure Good (T : Tab) (n L : Nat) : Prop where
  len : T.length = n
  wide : ∀ x, x ∈ T → x.length = L
  fld : ∀ x, x ∈ T → ∀ a, a ∈ x → InF a
theorem getD_mem {α : Type} {l : List α} {i : Nat} {d : α} (h : i < l.length) : l.getD i d ∈ l := by
  rw [List.getD_eq_getElem?_getD, List.getElem?_eq_getElem h]; exact List.getElem_mem h
theorem InF0 : InF 0 := ⟨by omega, by omega⟩
theorem getD_InF {x : List Int} (h : ∀ a, a ∈ x → InF a) (j : Nat) : InF (x.getD j 0) := by
  by_cases hj : j < x.length
  · exact h _ (getD_mem hj)
  · rw [List.getD_eq_getElem?_getD, List.getElem?_eq_none (by omega)]; exact InF0
theorem Good.at {T : Tab} {n L : Nat} (h : Good T n L) (i j : Nat) : InF (at2 T i j) := by
  unfold at2
  by_cases hi : i < T.length
  · exact getD_InF (h.fld _ (getD_mem hi)) j
  · rw [List.getD_eq_getElem?_getD (l := T), List.getElem?_eq_none (by omega)]; exact InF0
theorem Good.row {T : Tab} {n L : Nat} (h : Good T n L) {i : Nat} (hi : i < n) : (T.getD i []).length = L := h.wide _ (getD_mem (by rw [h.len]; exact hi))
theorem getD_mapIdx {α β : Type} (f : Nat → α → β) (l : List α) (i : Nat) (d : β) (e : α) (h : i < l.length) : (l.mapIdx f).getD i d = f i (l.getD i e) := by
  rw [List.getD_eq_getElem?_getD, List.getElem?_mapIdx, List.getElem?_eq_getElem h, List.getD_eq_getElem?_getD, List.getElem?_eq_getElem h]; rfl
theorem getD_set' {α : Type} (l : List α) (i k : Nat) (v d : α) (h : i < l.length) : (l.set i v).getD k d = if i = k then v else l.getD k d := by
  rw [List.getD_eq_getElem?_getD, List.getElem?_set, List.getD_eq_getElem?_getD]
  by_cases e : i = k
  · rw [if_pos e, if_pos e, if_pos h]; rfl
  · rw [if_neg e, if_neg e]
theorem firstNZ_spec (T : Tab) (c k : Nat) : k ≤ firstNZ T c k ∧ (∀ i, k ≤ i → i < firstNZ T c k → i < T.length → at2 T i c = 0) ∧ (firstNZ T c k < T.length → at2 T (firstNZ T c k) c ≠ 0) ∧ (k ≤ T.length → firstNZ T c k ≤ T.length) := by
  unfold firstNZ
  obtain ⟨m, hm⟩ : ∃ m, (T.drop k).findIdx (fun x => x.getD c 0 != 0) = m := ⟨_, rfl⟩
  rw [hm]
  have hle : m ≤ (T.drop k).length := by rw [← hm]; exact List.findIdx_le_length
  rw [List.length_drop] at hle
  have hd : ∀ i, k + i < T.length → (T.getD (k + i) []) = (T.drop k)[i]?.getD [] := fun i _ => by
    rw [List.getElem?_drop, List.getD_eq_getElem?_getD]
  refine ⟨by omega, fun i h1 h2 h3 => ?_, fun h => ?_, fun h => by omega⟩
  · have h4 : i - k < (T.drop k).findIdx (fun x => x.getD c 0 != 0) := by rw [hm]; omega
    have h5 := List.not_of_lt_findIdx h4
    have e : T.getD i [] = (T.drop k)[i - k]'(by rw [List.length_drop]; omega) := by
      have := hd (i - k) (by omega)
      rw [show k + (i - k) = i from by omega] at this
      rw [this, List.getElem?_eq_getElem]; rfl
    unfold at2; rw [e]; simpa using h5
  · have h4 : (T.drop k).findIdx (fun x => x.getD c 0 != 0) < (T.drop k).length := by rw [hm, List.length_drop]; omega
    have h5 := List.findIdx_getElem (w := h4)
    have e : T.getD (k + m) [] = (T.drop k)[(T.drop k).findIdx (fun x => x.getD c 0 != 0)]'h4 := by
      rw [hd m h, List.getElem?_eq_getElem (by rw [← hm]; exact h4)]
      simp only [hm]; rfl
    unfold at2; rw [e]; simpa using h5

theorem scale_len (c : Nat) (n : Int) (x : List Int) : (scaleFrom c n x).length = x.length := by unfold scaleFrom; exact List.length_mapIdx
theorem scale_at (c : Nat) (n : Int) (x : List Int) (j : Nat) (hj : j < x.length) : (scaleFrom c n x).getD j 0 = if c ≤ j then fmul (x.getD j 0) n else x.getD j 0 := by
  unfold scaleFrom; rw [getD_mapIdx _ _ _ _ 0 hj]
theorem clear_len (c : Nat) (y x : List Int) : (clearFrom c y x).length = x.length := by
  unfold clearFrom; split
  · rfl
  · exact List.length_mapIdx
theorem clear_at (c : Nat) (y x : List Int) (j : Nat) (hj : j < x.length) : (clearFrom c y x).getD j 0 = if c ≤ j ∧ x.getD c 0 ≠ 0 then fadd (x.getD j 0) (-fmul (x.getD c 0) (y.getD j 0)) else x.getD j 0 := by
  unfold clearFrom; split
  · rename_i h; rw [if_neg (fun k => k.2 h)]
  · rename_i h
    rw [getD_mapIdx _ _ _ _ 0 hj]
    by_cases hc : c ≤ j
    · rw [if_pos hc, if_pos ⟨hc, h⟩]
    · rw [if_neg hc, if_neg (fun k => hc k.1)]
theorem mem_mapIdx {α β : Type} {f : Nat → α → β} {l : List α} {b : β} (h : b ∈ l.mapIdx f) : ∃ i a, i < l.length ∧ l[i]? = some a ∧ b = f i a := by
  obtain ⟨i, hi, rfl⟩ := List.mem_mapIdx.1 h
  exact ⟨i, _, hi, List.getElem?_eq_getElem hi, rfl⟩
theorem mem_of_get {α : Type} {l : List α} {i : Nat} {a : α} (h : l[i]? = some a) : a ∈ l := List.mem_of_getElem? h
theorem scale_fld {c : Nat} {n : Int} {x : List Int} (h : ∀ a, a ∈ x → InF a) : ∀ a, a ∈ scaleFrom c n x → InF a := fun a ha => by
  obtain ⟨i, b, _, h2, rfl⟩ := mem_mapIdx ha
  split
  · exact fmul_in _ _
  · exact h _ (mem_of_get h2)
theorem clear_fld {c : Nat} {y x : List Int} (h : ∀ a, a ∈ x → InF a) : ∀ a, a ∈ clearFrom c y x → InF a := fun a ha => by
  unfold clearFrom at ha
  split at ha
  · exact h a ha
  · obtain ⟨i, b, _, h2, rfl⟩ := mem_mapIdx ha
    split
    · exact fadd_in _ _
    · exact h _ (mem_of_get h2)
/-- Rows k and r are exchanged. -/
def swp (T : Tab) (r k : Nat) : Tab := (T.set r (T.getD k [])).set k (T.getD r [])
theorem swp_len (T : Tab) (r k : Nat) : (swp T r k).length = T.length := by unfold swp; rw [List.length_set, List.length_set]
theorem swp_at (T : Tab) {r k : Nat} (hr : r < T.length) (hk : k < T.length) (i : Nat) : (swp T r k).getD i [] = if i = r then T.getD k [] else if i = k then T.getD r [] else T.getD i [] := by
  unfold swp
  rw [getD_set' _ _ _ _ _ (by rw [List.length_set]; exact hk), getD_set' _ _ _ _ _ hr]
  by_cases h1 : k = i
  · rw [if_pos h1]
    by_cases h2 : i = r
    · rw [if_pos h2, ← h2, ← h1]
    · rw [if_neg h2, if_pos h1.symm]
  · rw [if_neg h1]
    by_cases h2 : r = i
    · rw [if_pos h2, if_pos h2.symm]
    · rw [if_neg h2, if_neg (fun e => h2 e.symm), if_neg (fun e => h1 e.symm)]
theorem swp_good {T : Tab} {n L r k : Nat} (h : Good T n L) (hr : r < n) (hk : k < n) : Good (swp T r k) n L := by
  have hm : ∀ x, x ∈ swp T r k → x ∈ T := fun x hx => by
    rcases List.mem_or_eq_of_mem_set hx with h1 | h1
    · rcases List.mem_or_eq_of_mem_set h1 with h2 | h2
      · exact h2
      · rw [h2]; exact getD_mem (by rw [h.len]; exact hk)
    · rw [h1]; exact getD_mem (by rw [h.len]; exact hr)
  exact ⟨by rw [swp_len, h.len], fun x hx => h.wide x (hm x hx), fun x hx => h.fld x (hm x hx)⟩
/-- What a step makes of a table whose row r has been exchanged. -/
def elim (T1 : Tab) (r c : Nat) : Tab :=
  let y := scaleFrom c (finv ((T1.getD r []).getD c 0)) (T1.getD r [])
  (T1.set r y).mapIdx fun i z => if i = r then z else clearFrom c y z
theorem gjStep_eq {T : Tab} {piv : List Nat} {c : Nat} (hr : piv.length ≤ T.length) : gjStep (T, piv) c =
    if firstNZ T c piv.length < T.length then (elim (swp T piv.length (firstNZ T c piv.length)) piv.length c, piv ++ [c]) else (T, piv) := by
  unfold gjStep
  simp only []
  by_cases h : firstNZ T c piv.length < T.length
  · rw [if_pos h, if_pos h]
    have hk := firstNZ_spec T c piv.length
    have hrl : piv.length < T.length := by omega
    unfold elim
    simp only []
    rw [swp_at T hrl h, if_pos rfl]
    congr 2
    unfold swp
    apply List.ext_getElem?
    intro i
    simp only [List.getElem?_set, List.length_set]
    by_cases h1 : piv.length = i
    · subst h1; simp [hrl]
    · simp only [h1, if_false]
  · rw [if_neg h, if_neg h]
theorem elim_len (T1 : Tab) (r c : Nat) : (elim T1 r c).length = T1.length := by unfold elim; simp
theorem elim_row {T1 : Tab} {r c : Nat} (hr : r < T1.length) {i : Nat} (hi : i < T1.length) : (elim T1 r c).getD i [] =
    if i = r then scaleFrom c (finv ((T1.getD r []).getD c 0)) (T1.getD r []) else clearFrom c (scaleFrom c (finv ((T1.getD r []).getD c 0)) (T1.getD r [])) (T1.getD i []) := by
  unfold elim
  simp only []
  rw [getD_mapIdx _ _ _ _ [] (by rw [List.length_set]; exact hi), getD_set' _ _ _ _ _ hr]
  by_cases h : i = r
  · rw [if_pos h, if_pos h, if_pos h.symm]
  · rw [if_neg h, if_neg h, if_neg (fun e => h e.symm)]
theorem elim_good {T1 : Tab} {n L r c : Nat} (h : Good T1 n L) (hr : r < n) : Good (elim T1 r c) n L := by
  have hmem : ∀ x, x ∈ elim T1 r c → ∃ i, i < n ∧ x = (elim T1 r c).getD i [] := fun x hx => by
    obtain ⟨i, hi, rfl⟩ := List.getElem_of_mem hx
    refine ⟨i, by rw [elim_len, h.len] at hi; exact hi, ?_⟩
    rw [List.getD_eq_getElem?_getD, List.getElem?_eq_getElem hi]; rfl
  have hrow : ∀ i, i < n → ((elim T1 r c).getD i []).length = L ∧ ∀ a, a ∈ (elim T1 r c).getD i [] → InF a := fun i hi => by
    rw [elim_row (by rw [h.len]; exact hr) (by rw [h.len]; exact hi)]
    have hf := h.fld _ (getD_mem (d := []) (by rw [h.len]; exact hr) : T1.getD r [] ∈ T1)
    have hg := h.fld _ (getD_mem (d := []) (by rw [h.len]; exact hi) : T1.getD i [] ∈ T1)
    by_cases e : i = r
    · rw [if_pos e]; exact ⟨by rw [scale_len]; exact h.row hr, scale_fld hf⟩
    · rw [if_neg e]; exact ⟨by rw [clear_len]; exact h.row hi, clear_fld hg⟩
  refine ⟨by rw [elim_len, h.len], fun x hx => ?_, fun x hx => ?_⟩
  · obtain ⟨i, hi, rfl⟩ := hmem x hx; exact (hrow i hi).1
  · obtain ⟨i, hi, rfl⟩ := hmem x hx; exact (hrow i hi).2
theorem mt_out {T : Tab} {n L : Nat} (h : Good T n L) {i j : Nat} (hj : L ≤ j) : mt T i j = 0 := by
  unfold mt at2
  by_cases hi : i < T.length
  · have := h.wide _ (getD_mem (d := []) hi : T.getD i [] ∈ T)
    rw [List.getD_eq_getElem?_getD (l := T.getD i []), List.getElem?_eq_none (by omega)]; rfl
  · rw [List.getD_eq_getElem?_getD (l := T), List.getElem?_eq_none (by omega)]; rfl
/-- What stands in the table behind a step, in the field. -/
theorem elim_mt {T1 : Tab} {n L r c : Nat} (h : Good T1 n L) (hr : r < n) (hz : ∀ j, j < c → mt T1 r j = 0) (i : Nat) (hi : i < n) (j : Nat) :
    mt (elim T1 r c) i j = if i = r then mt T1 r j * kk (finv (at2 T1 r c)) else mt T1 i j - mt T1 i c * (mt T1 r j * kk (finv (at2 T1 r c))) := by
  by_cases hj : j < L
  · have hlr : j < (T1.getD r []).length := by rw [h.row hr]; exact hj
    have hli : j < (T1.getD i []).length := by rw [h.row hi]; exact hj
    have hy : ∀ j, j < L → kk ((scaleFrom c (finv ((T1.getD r []).getD c 0)) (T1.getD r [])).getD j 0) = mt T1 r j * kk (finv (at2 T1 r c)) := fun j hj => by
      rw [scale_at _ _ _ _ (by rw [h.row hr]; exact hj)]
      by_cases hcj : c ≤ j
      · rw [if_pos hcj, kk_fmul]; rfl
      · rw [if_neg hcj]
        have := hz j (by omega)
        show mt T1 r j = _
        rw [this]; grind
    show kk (at2 (elim T1 r c) i j) = _
    unfold at2
    rw [elim_row (by rw [h.len]; exact hr) (by rw [h.len]; exact hi)]
    by_cases e : i = r
    · rw [if_pos e, if_pos e]; exact hy j hj
    · rw [if_neg e, if_neg e, clear_at _ _ _ _ hli]
      by_cases h0 : (T1.getD i []).getD c 0 = 0
      · rw [if_neg (fun k => k.2 h0)]
        have : mt T1 i c = 0 := by unfold mt at2; rw [h0]; rfl
        rw [this]
        show mt T1 i j = _
        grind
      · by_cases hcj : c ≤ j
        · rw [if_pos ⟨hcj, h0⟩, kk_fadd, kk_neg, kk_fmul, hy j hj]
          show mt T1 i j + -(mt T1 i c * _) = _
          unfold at2; grind
        · rw [if_neg (fun k => hcj k.1)]
          have := hz j (by omega)
          rw [this]
          show mt T1 i j = _
          grind
  · rw [mt_out (elim_good h hr) (by omega), mt_out h (by omega), mt_out h (by omega)]
    split <;> grind
/-- What holds of a table that has been reduced by its first c columns. -/
structure Red (T0 : Tab) (n L c : Nat) (st : Tab × List Nat) : Prop where
  good : Good st.1 n L
  same : Same n n (mt T0) (mt st.1)
  shape : Shape n c st.2.length (mt st.1) (fun k => st.2.getD k 0)
theorem Red.step {T0 : Tab} {n L c : Nat} {st : Tab × List Nat} (h : Red T0 n L c st) : Red T0 n L (c + 1) (gjStep st c) := by
  obtain ⟨T, piv⟩ := st
  obtain ⟨hg, hs, hp⟩ := h
  simp only at hg hs hp
  have hlen := hg.len
  have hpl := hp.le
  have hk := firstNZ_spec T c piv.length
  rw [gjStep_eq (by rw [hlen]; exact hpl)]
  by_cases hlt : firstNZ T c piv.length < T.length
  · rw [if_pos hlt]
    generalize firstNZ T c piv.length = k at *
    obtain ⟨hk1, _, hk3, _⟩ := hk
    rw [hlen] at hlt
    have hr : piv.length < n := by omega
    have hg1 := swp_good hg hr hlt
    have h1 : ∀ i j, mt (swp T piv.length k) i j = if i = piv.length then mt T k j else if i = k then mt T piv.length j else mt T i j := fun i j => by
      unfold mt at2
      rw [swp_at T (by omega) (by omega)]
      split
      · rfl
      · split <;> rfl
    have hz : ∀ j, j < c → mt (swp T piv.length k) piv.length j = 0 := fun j hj => by
      rw [h1, if_pos rfl]; exact hp.rest k j hk1 hlt hj
    have ha : at2 (swp T piv.length k) piv.length c = at2 T k c := by
      unfold at2; rw [swp_at T (by omega) (by omega), if_pos rfl]
    have hb : mt T k c * kk (finv (at2 (swp T piv.length k) piv.length c)) = 1 := by
      rw [ha]
      refine kk_finv (fun h0 => hk3 (by omega) ((kk_ne (hg.at k c)).1 h0))
    obtain ⟨e1, e2⟩ := elim_step (p' := fun i => (piv ++ [c]).getD i 0) hp hk1 hlt hb h1 (elim_mt hg1 hr hz)
      (fun i hi => by show (piv ++ [c]).getD i 0 = piv.getD i 0; simp [List.getD_eq_getElem?_getD, List.getElem?_append_left hi]) (by simp [List.getD_eq_getElem?_getD])
    exact ⟨elim_good hg1 hr, hs.trans e1, by simpa using e2⟩
  · rw [if_neg hlt]
    refine ⟨hg, hs, none_step hp fun i h1 h2 => ?_⟩
    unfold mt
    rw [hk.2.1 i h1 (by omega) (by omega)]; rfl
theorem Red.start {T : Tab} {n L : Nat} (h : Good T n L) : Red T n L 0 (T, []) :=
  ⟨h, Same.refl _ _, ⟨by simp, fun _ _ _ h => by simp at h, fun _ h => by simp at h, fun _ h => by simp at h, fun _ _ h => by simp at h, fun _ _ h => by simp at h, fun _ _ _ _ h => by omega⟩⟩
theorem gj_red {T : Tab} {n L : Nat} (h : Good T n L) (c : Nat) (hc : c ≤ L) : Red T n L c (gj T c) := by
  induction c with
  | zero => exact Red.start h
  | succ c ih => rw [gj_succ]; exact (ih (by omega)).step
end SG.Lin


/- What the functions of layer 13 answer, as functions on lists, and what these answers tell. -/
namespace SG.Lin
def vk (x : List Int) (j : Nat) : K := kk (x.getD j 0)
theorem mt_vk (T : Tab) (i : Nat) : mt T i = vk (T.getD i []) := rfl
def widthP (rows : Tab) : Nat := (rows.getD 0 []).length
def rankP (rows : Tab) : Nat := if rows.length = 0 then 0 else (gj rows (widthP rows)).2.length
def turnedP (rows : Tab) (target : List Int) : Tab := target.mapIdx fun k n => rows.map (fun x => x.getD k 0) ++ [n]
def solved (st : Tab × List Nat) (n : Nat) : List Int := (List.range n).map fun j => if j ∈ st.2 then at2 st.1 (st.2.idxOf j) n else 0
def combineP (rows : Tab) (target : List Int) : Option (List Int) :=
  let n := rows.length
  let st := gj (turnedP rows target) n
  if (st.1.drop st.2.length).all fun x => x.getD n 0 == 0 then some (solved st n) else none
def wOf (st : Tab × List Nat) (m c : Nat) : List Int := (List.range m).map fun j => if j = c then 1 else if j ∈ st.2 then (-at2 st.1 (st.2.idxOf j) c) % 1073741789 else 0
def dotP (a b : List Int) : Int := (List.range a.length).foldl (fun n i => fadd n (fmul (a.getD i 0) (b.getD i 0))) 0
def sepAt (st : Tab × List Nat) (target : List Int) (c : Nat) : Option (List Int) :=
  if c ∈ st.2 then none
  else if dotP (wOf st target.length c) target = 0 then none
  else some ((wOf st target.length c).map fun x => fmul x (finv (dotP (wOf st target.length c) target)))
def separateP (rows : Tab) (target : List Int) : Option (List Int) := (List.range target.length).findSome? (sepAt (gj rows target.length) target)

/-- Pivots in a list. -/
theorem idx_of {p : List Nat} {r : Nat} (hinc : ∀ i k, i < k → k < r → p.getD i 0 < p.getD k 0) (hr : r = p.length) {k : Nat} (hk : k < r) : p.getD k 0 ∈ p ∧ p.idxOf (p.getD k 0) = k := by
  subst hr
  have hm : p.getD k 0 ∈ p := getD_mem hk
  refine ⟨hm, ?_⟩
  have h1 := List.idxOf_lt_length_of_mem hm
  have h2 : p.getD (p.idxOf (p.getD k 0)) 0 = p.getD k 0 := by
    rw [List.getD_eq_getElem?_getD, List.getElem?_eq_getElem h1]; exact List.getElem_idxOf h1
  rcases Nat.lt_trichotomy (p.idxOf (p.getD k 0)) k with h | h | h
  · have := hinc _ _ h hk; omega
  · exact h
  · have := hinc _ _ h h1; omega
theorem mem_get {p : List Nat} {j : Nat} (h : j ∈ p) : ∃ k, k < p.length ∧ p.getD k 0 = j ∧ p.idxOf j = k := by
  have h1 := List.idxOf_lt_length_of_mem h
  refine ⟨_, h1, ?_, rfl⟩
  rw [List.getD_eq_getElem?_getD, List.getElem?_eq_getElem h1]; exact List.getElem_idxOf h1
theorem getD_range_map {f : Nat → Int} {n j : Nat} (hj : j < n) : ((List.range n).map f).getD j 0 = f j := by
  rw [List.getD_eq_getElem?_getD, List.getElem?_map, List.getElem?_range hj]; rfl
theorem getD_out {x : List Int} {j : Nat} (h : x.length ≤ j) : x.getD j 0 = 0 := by
  rw [List.getD_eq_getElem?_getD, List.getElem?_eq_none h]; rfl
theorem vk_out {x : List Int} {j : Nat} (h : x.length ≤ j) : vk x j = 0 := by unfold vk; rw [getD_out h]; rfl
/-- Products. -/
theorem dot_kk (a b : List Int) : kk (dotP a b) = S a.length fun j => vk a j * vk b j := by
  unfold dotP
  have : ∀ n, kk ((List.range n).foldl (fun n i => fadd n (fmul (a.getD i 0) (b.getD i 0))) 0) = S n fun j => vk a j * vk b j := fun n => by
    induction n with
    | zero => rfl
    | succ n ih => rw [List.range_succ, List.foldl_append]; simp only [List.foldl_cons, List.foldl_nil, S]; rw [kk_fadd, ih, kk_fmul]; rfl
  exact this _
theorem dot_in (a b : List Int) : InF (dotP a b) := by
  unfold dotP
  have : ∀ n, InF ((List.range n).foldl (fun n i => fadd n (fmul (a.getD i 0) (b.getD i 0))) 0) := fun n => by
    induction n with
    | zero => exact InF0
    | succ n ih => rw [List.range_succ, List.foldl_append]; exact fadd_in _ _
  exact this _

/-! ### The columns of rows -/
section
variable {rows : Tab} {n m : Nat} {target : List Int}
theorem turned_good (h : Good rows n m) (ht : target.length = m) (hf : ∀ a, a ∈ target → InF a) : Good (turnedP rows target) m (n + 1) := by
  refine ⟨by unfold turnedP; rw [List.length_mapIdx, ht], fun x hx => ?_, fun x hx => ?_⟩
  · obtain ⟨k, a, _, _, rfl⟩ := mem_mapIdx hx
    simp [h.len]
  · obtain ⟨k, a, _, h2, rfl⟩ := mem_mapIdx hx
    intro b hb
    rcases List.mem_append.1 hb with h3 | h3
    · obtain ⟨x, hx, rfl⟩ := List.mem_map.1 h3
      exact getD_InF (h.fld x hx) k
    · rw [List.mem_singleton.1 h3]; exact hf _ (mem_of_get h2)
theorem turned_mt (h : Good rows n m) (ht : target.length = m) {k : Nat} (hk : k < m) (i : Nat) : mt (turnedP rows target) k i = if i < n then mt rows i k else if i = n then vk target k else 0 := by
  unfold mt at2 turnedP
  rw [getD_mapIdx _ _ _ _ 0 (by omega), List.getD_eq_getElem?_getD]
  by_cases hi : i < n
  · rw [if_pos hi, List.getElem?_append_left (by rw [List.length_map, h.len]; exact hi), List.getElem?_map, List.getD_eq_getElem?_getD (l := rows), List.getElem?_eq_getElem (by rw [h.len]; exact hi)]; rfl
  · rw [if_neg hi, List.getElem?_append_right (by rw [List.length_map, h.len]; omega), List.length_map, h.len]
    by_cases e : i = n
    · rw [if_pos e, e, Nat.sub_self]; rfl
    · rw [if_neg e]
      have : i - n ≠ 0 := by omega
      obtain ⟨q, hq⟩ : ∃ q, i - n = q + 1 := ⟨i - n - 1, by omega⟩
      rw [hq]; rfl
/-- A combination, as a relation. -/
def neg1 (n : Nat) (c : Nat → K) (i : Nat) : K := if i < n then c i else if i = n then -1 else 0
theorem null_turned (h : Good rows n m) (ht : target.length = m) (c : Nat → K) : Null m (n + 1) (mt (turnedP rows target)) (neg1 n c) ↔ ∀ k, k < m → vk target k = S n fun i => c i * mt rows i k := by
  have e : ∀ k, k < m → S (n + 1) (fun j => mt (turnedP rows target) k j * neg1 n c j) = (S n fun i => c i * mt rows i k) - vk target k := fun k hk => by
    simp only [S]
    rw [S_congr (g := fun i => c i * mt rows i k) (fun i hi => by rw [turned_mt h ht hk, if_pos hi]; unfold neg1; rw [if_pos hi]; grind), turned_mt h ht hk, if_neg (Nat.lt_irrefl n), if_pos rfl]
    unfold neg1
    rw [if_neg (Nat.lt_irrefl n), if_pos rfl]; grind
  constructor
  · intro hN k hk
    have := hN k hk
    rw [e k hk] at this; grind
  · intro hS k hk
    rw [e k hk, hS k hk]; grind
theorem span_target (h : Good rows n m) (ht : target.length = m) : Span n (mt rows) (vk target) ↔ ∃ c : Nat → K, ∀ k, k < m → vk target k = S n fun i => c i * mt rows i k := by
  constructor
  · rintro ⟨c, hc⟩; exact ⟨c, fun k _ => hc k⟩
  · rintro ⟨c, hc⟩
    refine ⟨c, fun k => ?_⟩
    by_cases hk : k < m
    · exact hc k hk
    · rw [vk_out (by omega), S_zero]
      intro i _; rw [mt_out h (by omega)]; grind
theorem all_drop {T : Tab} {r n : Nat} : ((T.drop r).all fun x => x.getD n 0 == 0) = true ↔ ∀ k, r ≤ k → k < T.length → at2 T k n = 0 := by
  rw [List.all_eq_true]
  constructor
  · intro h k h1 h2
    have : T.getD k [] ∈ T.drop r := by
      rw [List.mem_drop_iff_getElem]
      refine ⟨k - r, by omega, ?_⟩
      rw [List.getD_eq_getElem?_getD, List.getElem?_eq_getElem h2]
      simp [show r + (k - r) = k from by omega]
    have h3 := h _ this
    rw [beq_iff_eq] at h3; exact h3
  · intro h x hx
    rw [List.mem_drop_iff_getElem] at hx
    obtain ⟨i, hi, rfl⟩ := hx
    have := h (r + i) (by omega) (by omega)
    unfold at2 at this
    rw [List.getD_eq_getElem?_getD (l := T), List.getElem?_eq_getElem (show r + i < T.length by omega)] at this
    rw [beq_iff_eq]; exact this
theorem solved_at (st : Tab × List Nat) {n j : Nat} (hj : j < n) : (solved st n).getD j 0 = if j ∈ st.2 then at2 st.1 (st.2.idxOf j) n else 0 := getD_range_map hj
theorem combine_some (h : Good rows n m) (ht : target.length = m) (hf : ∀ a, a ∈ target → InF a) {y : List Int} (hy : combineP rows target = some y) :
    y.length = n ∧ (∀ a, a ∈ y → InF a) ∧ (∀ k, k < m → vk target k = S n fun i => vk y i * mt rows i k) ∧ ∀ i, i < n → Span i (mt rows) (mt rows i) → y.getD i 0 = 0 := by
  have hg := turned_good h ht hf
  have hR := gj_red hg n (by omega)
  unfold combineP at hy
  simp only [h.len] at hy
  generalize hst : gj (turnedP rows target) n = st at *
  split at hy
  case isFalse => cases hy
  case isTrue hall =>
  rw [all_drop] at hall
  cases hy
  obtain ⟨hT, hs, hp⟩ := hR
  refine ⟨by simp [solved], fun a ha => ?_, ?_, fun i hi hd => ?_⟩
  · obtain ⟨j, _, rfl⟩ := List.mem_map.1 ha
    split
    · exact hT.at _ _
    · exact InF0
  · rw [← null_turned h ht, null_iff hs]
    intro i hi
    simp only [S]
    have en : neg1 n (vk (solved st n)) n = -1 := by unfold neg1; rw [if_neg (Nat.lt_irrefl n), if_pos rfl]
    rw [en]
    have ej : ∀ j, j < n → neg1 n (vk (solved st n)) j = if j ∈ st.2 then mt st.1 (st.2.idxOf j) n else 0 := fun j hj => by
      unfold neg1; rw [if_pos hj]; unfold vk; rw [solved_at st hj]; split <;> rfl
    by_cases hir : i < st.2.length
    · have hpi := hp.lt i hir
      obtain ⟨hm, hix⟩ := idx_of hp.inc rfl hir
      rw [S_single hpi (fun j hj hne => by
        rw [ej j hj]
        by_cases hjm : j ∈ st.2
        · obtain ⟨k, hk, hkj, hki⟩ := mem_get hjm
          have : i ≠ k := fun e => hne (by rw [e]; exact hkj.symm)
          have hz := hp.zero k i hk hi this
          rw [hkj] at hz
          rw [hz]; grind
        · rw [if_neg hjm]; grind), ej _ hpi, if_pos hm, hix, hp.one i hir]
      grind
    · rw [S_zero (fun j hj => by rw [hp.rest i j (by omega) hi hj]; grind)]
      have := hall i (by omega) (by rw [hT.len]; exact hi)
      have e : mt st.1 i n = 0 := by unfold mt; rw [this]; rfl
      rw [e]; grind
  · rw [solved_at st hi]
    split
    · rename_i hm
      obtain ⟨k, hk, hkj, _⟩ := mem_get hm
      exfalso
      refine ((hp.dep hs hi).1 ⟨k, hk, hkj⟩) ?_
      obtain ⟨c, hc⟩ := hd
      refine ⟨c, fun k hk => ?_⟩
      rw [turned_mt h ht hk, if_pos hi, hc k]
      exact S_congr fun j hj => by rw [turned_mt h ht hk, if_pos (by omega)]; grind
    · rfl
theorem combine_none (h : Good rows n m) (ht : target.length = m) (hf : ∀ a, a ∈ target → InF a) (hy : combineP rows target = none) : ¬ Span n (mt rows) (vk target) := by
  rw [span_target h ht]
  rintro ⟨c, hc⟩
  have hg := turned_good h ht hf
  have hR := gj_red hg n (by omega)
  unfold combineP at hy
  simp only [h.len] at hy
  generalize hst : gj (turnedP rows target) n = st at *
  split at hy
  case isTrue => cases hy
  case isFalse hall =>
  rw [all_drop] at hall
  refine hall fun k h1 h2 => ?_
  obtain ⟨hT, hs, hp⟩ := hR
  rw [← null_turned h ht, null_iff hs] at hc
  rw [hT.len] at h2
  have := hc k h2
  simp only [S] at this
  rw [S_zero (fun j hj => by rw [hp.rest k j h1 h2 hj]; grind)] at this
  unfold neg1 at this
  rw [if_neg (Nat.lt_irrefl n), if_pos rfl] at this
  exact (kk_ne (hT.at k n)).1 (show mt st.1 k n = 0 by grind)
end

/-! ### Lists whose product with the rows is 0 -/
section
variable {rows : Tab} {n m : Nat} {target : List Int}
theorem wOf_len (st : Tab × List Nat) (m c : Nat) : (wOf st m c).length = m := by simp [wOf]
theorem wOf_at (st : Tab × List Nat) {m c j : Nat} (hj : j < m) : (wOf st m c).getD j 0 = if j = c then 1 else if j ∈ st.2 then (-at2 st.1 (st.2.idxOf j) c) % 1073741789 else 0 := getD_range_map hj
theorem wOf_fld (st : Tab × List Nat) (m c : Nat) : ∀ a, a ∈ wOf st m c → InF a := fun a ha => by
  obtain ⟨j, _, rfl⟩ := List.mem_map.1 ha
  split
  · exact ⟨by omega, by omega⟩
  · split
    · exact ⟨Int.emod_nonneg _ (by decide), Int.emod_lt_of_pos _ (by decide)⟩
    · exact InF0
theorem wOf_vk (st : Tab × List Nat) {m c j : Nat} (hj : j < m) : vk (wOf st m c) j = if j = c then 1 else if j ∈ st.2 then -mt st.1 (st.2.idxOf j) c else 0 := by
  unfold vk; rw [wOf_at st hj]
  split
  · rfl
  · split
    · rw [kk_mod, kk_neg]; rfl
    · rfl
/-- A sum over one column and the pivots. -/
theorem sum_wOf {T0 : Tab} {st : Tab × List Nat} (h : Red T0 n m m st) {c : Nat} (hc : c < m) (hn : c ∉ st.2) (v : Nat → K) :
    S m (fun j => v j * vk (wOf st m c) j) = v c - S st.2.length fun k => v (st.2.getD k 0) * mt st.1 k c := by
  have hp := h.shape
  -- the pivots, one after the other
  have key : ∀ q, q ≤ st.2.length → ∀ f : Nat → K, (∀ j, j < m → j ≠ c → (∀ k, k < q → st.2.getD k 0 ≠ j) → f j = 0) → S m f = f c + S q fun k => f (st.2.getD k 0) := by
    intro q
    induction q with
    | zero =>
      intro _ f hf
      rw [S_single hc (fun j hj hne => hf j hj hne (fun k hk => by omega))]
      simp only [S]; grind
    | succ q ih =>
      intro hq f hf
      have hpl := hp.lt q (by omega)
      have hpm : st.2.getD q 0 ∈ st.2 := getD_mem (by omega)
      have hpc : st.2.getD q 0 ≠ c := fun e => hn (e ▸ hpm)
      have e1 : S m f = S m (fun j => (if j = st.2.getD q 0 then 0 else f j) + if j = st.2.getD q 0 then f j else 0) := S_congr fun j _ => by split <;> grind
      rw [e1, S_add, ih (by omega) (fun j => if j = st.2.getD q 0 then 0 else f j) (fun j hj hne hk => by
          show (if j = st.2.getD q 0 then 0 else f j) = 0
          by_cases e : j = st.2.getD q 0
          · rw [if_pos e]
          · rw [if_neg e]
            refine hf j hj hne fun k hk2 => ?_
            by_cases e2 : k = q
            · rw [e2]; exact fun e3 => e e3.symm
            · exact hk k (by omega)),
        S_single hpl (fun j _ hne => if_neg hne), if_pos rfl, if_neg (fun e => hpc e.symm)]
      simp only [S]
      rw [S_congr (g := fun k => f (st.2.getD k 0)) (fun k hk => if_neg (fun e => by have := hp.inj (by omega) (by omega) e; omega))]
      grind
  rw [key st.2.length (Nat.le_refl _) (fun j => v j * vk (wOf st m c) j) (fun j hj hne hk => by
      show v j * _ = 0
      rw [wOf_vk st hj, if_neg hne]
      by_cases hm : j ∈ st.2
      · obtain ⟨k, h1, h2, _⟩ := mem_get hm
        exact absurd h2 (hk k h1)
      · rw [if_neg hm]; grind), wOf_vk st hc, if_pos rfl]
  have : S st.2.length (fun k => v (st.2.getD k 0) * vk (wOf st m c) (st.2.getD k 0)) = -1 * S st.2.length fun k => v (st.2.getD k 0) * mt st.1 k c := by
    rw [← S_mul]
    refine S_congr fun k hk => ?_
    obtain ⟨h1, h2⟩ := idx_of hp.inc rfl hk
    have hpc : st.2.getD k 0 ≠ c := fun e => hn (e ▸ h1)
    rw [wOf_vk st (hp.lt k hk), if_neg hpc, if_pos h1, h2]; grind
  rw [this]; grind
theorem null_wOf {T0 : Tab} {st : Tab × List Nat} (h : Red T0 n m m st) {c : Nat} (hc : c < m) (hn : c ∉ st.2) : Null n m (mt T0) (vk (wOf st m c)) := by
  rw [null_iff h.same]
  intro i hi
  rw [sum_wOf h hc hn]
  have hp := h.shape
  by_cases hir : i < st.2.length
  · rw [S_single hir (fun k hk hne => by rw [hp.zero k i hk hi (fun e => hne e.symm)]; grind), hp.one i hir]; grind
  · rw [hp.rest i c (by omega) hi hc, S_zero (fun k hk => by rw [hp.rest i _ (by omega) hi (hp.lt k hk)]; grind)]; grind
theorem red_rows (h : Good rows n m) : Red rows n m m (gj rows m) := gj_red h m (Nat.le_refl m)
theorem separate_some (h : Good rows n m) (ht : target.length = m) {w : List Int} (hw : separateP rows target = some w) :
    w.length = m ∧ (∀ a, a ∈ w → InF a) ∧ Null n m (mt rows) (vk w) ∧ S m (fun j => vk target j * vk w j) = 1 := by
  have hR := red_rows h
  unfold separateP at hw
  rw [ht] at hw
  generalize gj rows m = st at *
  obtain ⟨c, hc, hs⟩ := List.exists_of_findSome?_eq_some hw
  rw [List.mem_range] at hc
  unfold sepAt at hs
  rw [ht] at hs
  split at hs
  · cases hs
  · rename_i hn
    split at hs
    · cases hs
    · rename_i hd
      cases hs
      have hk0 := dot_kk (wOf st m c) target
      rw [wOf_len] at hk0
      have hdk : kk (dotP (wOf st m c) target) ≠ 0 := fun e => hd ((kk_ne (dot_in _ _)).1 e)
      have hinv := kk_finv hdk
      generalize dotP (wOf st m c) target = d at *
      have hv : ∀ j, vk ((wOf st m c).map fun x => fmul x (finv d)) j = vk (wOf st m c) j * kk (finv d) := fun j => by
        by_cases hj : j < m
        · unfold vk
          have : ((wOf st m c).map fun x => fmul x (finv d)).getD j 0 = fmul ((wOf st m c).getD j 0) (finv d) := by
            rw [List.getD_eq_getElem?_getD, List.getElem?_map, List.getD_eq_getElem?_getD, List.getElem?_eq_getElem (by rw [wOf_len]; exact hj)]; rfl
          rw [this, kk_fmul]
        · rw [vk_out (by rw [List.length_map, wOf_len]; omega), vk_out (by rw [wOf_len]; omega)]; grind
      refine ⟨by rw [List.length_map, wOf_len], fun a ha => ?_, fun i hi => ?_, ?_⟩
      · obtain ⟨x, _, rfl⟩ := List.mem_map.1 ha; exact fmul_in _ _
      · have := null_wOf hR hc hn i hi
        rw [S_congr (g := fun j => (mt rows i j * vk (wOf st m c) j) * kk (finv d)) (fun j _ => by rw [hv]; grind), S_mul_r, this]; grind
      · rw [S_congr (g := fun j => (vk (wOf st m c) j * vk target j) * kk (finv d)) (fun j _ => by rw [hv]; grind), S_mul_r, ← hk0, hinv]
theorem separate_none (h : Good rows n m) (ht : target.length = m) (hw : separateP rows target = none) : Span n (mt rows) (vk target) := by
  have hR := red_rows h
  unfold separateP at hw
  rw [ht] at hw
  generalize gj rows m = st at *
  rw [List.findSome?_eq_none_iff] at hw
  have hp := hR.shape
  have hz : ∀ c, c < m → c ∉ st.2 → vk target c = S st.2.length fun k => vk target (st.2.getD k 0) * mt st.1 k c := fun c hc hn => by
    have h1 := hw c (List.mem_range.2 hc)
    unfold sepAt at h1
    rw [if_neg hn, ht] at h1
    split at h1
    · rename_i h2
      have h3 := dot_kk (wOf st m c) target
      rw [h2, wOf_len, S_congr (g := fun j => vk target j * vk (wOf st m c) j) (fun j _ => by grind), sum_wOf hR hc hn, kk_zero] at h3
      grind
    · cases h1
  refine (hR.same _).2 (Span.congr (Span.sum st.2.length (fun k => vk target (st.2.getD k 0)) fun i hi => Span.row (Nat.lt_of_lt_of_le hi hp.le)) fun j => ?_)
  by_cases hj : j < m
  · by_cases hm : j ∈ st.2
    · obtain ⟨k, h1, h2, _⟩ := mem_get hm
      rw [← h2, S_single h1 (fun i hi hne => by rw [hp.zero k i h1 (Nat.lt_of_lt_of_le hi hp.le) hne]; grind), hp.one k h1]; grind
    · exact hz j hj hm
  · rw [vk_out (by omega), S_zero]
    intro i _; rw [mt_out hR.good (by omega)]; grind
theorem sep_comb (h : Good rows n m) (ht : target.length = m) (hf : ∀ a, a ∈ target → InF a) : (combineP rows target).isSome = !(separateP rows target).isSome := by
  cases hs : separateP rows target with
  | none =>
    cases hc : combineP rows target with
    | none => exact absurd (separate_none h ht hs) (combine_none h ht hf hc)
    | some y => rfl
  | some w =>
    cases hc : combineP rows target with
    | none => rfl
    | some y =>
      obtain ⟨_, _, h1, h2⟩ := separate_some h ht hs
      obtain ⟨_, _, h3, _⟩ := combine_some h ht hf hc
      have h4 := h1.span ((span_target h ht).2 ⟨_, h3⟩)
      rw [h2] at h4; exact absurd h4 (by decide)
theorem comb_iff (h : Good rows n m) (ht : target.length = m) (hf : ∀ a, a ∈ target → InF a) : (combineP rows target).isSome = true ↔ Span n (mt rows) (vk target) := by
  cases hc : combineP rows target with
  | none => exact ⟨fun h => (by cases h), fun hs => absurd hs (combine_none h ht hf hc)⟩
  | some y =>
    obtain ⟨_, _, h3, _⟩ := combine_some h ht hf hc
    exact ⟨fun _ => (span_target h ht).2 ⟨_, h3⟩, fun _ => rfl⟩
end

/-! ### Ranks -/
theorem Good.take {rows : Tab} {n m : Nat} (h : Good rows n m) {i : Nat} (hi : i ≤ n) : Good (rows.take i) i m :=
  ⟨by rw [List.length_take, h.len]; omega, fun x hx => h.wide x (List.mem_of_mem_take hx), fun x hx => h.fld x (List.mem_of_mem_take hx)⟩
theorem mt_take {rows : Tab} {i l : Nat} (hl : l < i) : mt (rows.take i) l = mt rows l := by
  rw [mt_vk, mt_vk, List.getD_eq_getElem?_getD, List.getElem?_take, if_pos hl, ← List.getD_eq_getElem?_getD]
theorem span_congr {n : Nat} {A B : Nat → Nat → K} (h : ∀ l, l < n → A l = B l) {v : Nat → K} : Span n A v ↔ Span n B v := by
  constructor
  · rintro ⟨c, hc⟩; exact ⟨c, fun j => by rw [hc]; exact S_congr fun l hl => by rw [h l hl]⟩
  · rintro ⟨c, hc⟩; exact ⟨c, fun j => by rw [hc]; exact S_congr fun l hl => by rw [h l hl]⟩
theorem lead_congr {n : Nat} {A B : Nat → Nat → K} (h : ∀ l, l < n → A l = B l) {c : Nat} : Lead n A c ↔ Lead n B c := by
  constructor
  · rintro ⟨v, h1, h2⟩; exact ⟨v, (span_congr h).1 h1, h2⟩
  · rintro ⟨v, h1, h2⟩; exact ⟨v, (span_congr h).2 h1, h2⟩
theorem cnt_lead {rows : Tab} {n m : Nat} (h : Good rows n m) (i : Nat) (hi : i ≤ n) : cnt (Lead i (mt rows)) m = rk (mt rows) i := by
  induction i with
  | zero =>
    have : ∀ q, cnt (Lead 0 (mt rows)) q = 0 := fun q => by
      induction q with
      | zero => rfl
      | succ q ih =>
        simp only [cnt]
        rw [ih, if_neg]
        rintro ⟨v, ⟨c, hc⟩, _, h1⟩
        exact h1 (hc q)
    rw [this]; rfl
  | succ i ih =>
    have hg := h.take (i := i) (by omega)
    have hR := gj_red hg m (Nat.le_refl m)
    have hs : Same i i (mt rows) (mt (gj (rows.take i) m).1) := fun v => (span_congr fun l hl => (mt_take hl).symm).trans (hR.same v)
    have hl := lead_succ hs hR.shape (fun i j hj => mt_out h hj)
    show _ = cnt _ i + _
    have ih' : cnt (Lead i (mt rows)) m = cnt (fun i => ¬Span i (mt rows) (mt rows i)) i := ih (by omega)
    by_cases e : Span i (mt rows) (mt rows i)
    · rw [if_neg (fun k => k e), cnt_congr (fun c _ => hl.1 e c), ih']; rfl
    · rw [if_pos e]
      obtain ⟨c0, h1, h2, h3⟩ := hl.2 e
      rw [cnt_congr (fun c hc => h3 c hc), cnt_put h1 h2, ih']
theorem rankP_eq {rows : Tab} {n m : Nat} (h : Good rows n m) : rankP rows = rk (mt rows) n := by
  unfold rankP
  by_cases h0 : rows.length = 0
  · rw [if_pos h0]
    have : n = 0 := by rw [← h.len]; exact h0
    rw [this]; rfl
  · rw [if_neg h0]
    have hw : widthP rows = m := h.wide _ (getD_mem (by omega))
    rw [hw, ← cnt_lead h n (Nat.le_refl n)]
    have hR := gj_red h m (Nat.le_refl m)
    exact hR.shape.rank hR.same
theorem rankP_dep {rows : Tab} {n m : Nat} (h : Good rows n m) (hn : 0 < n) : rankP rows = cnt (fun c => ¬ Dep n (mt rows) c) m := by
  unfold rankP
  rw [if_neg (by rw [h.len]; omega), show widthP rows = m from h.wide _ (getD_mem (by rw [h.len]; omega))]
  have hR := gj_red h m (Nat.le_refl m)
  exact hR.shape.rank_dep hR.same
end SG.Lin


/- The laws of layer 13, of the functions on lists. -/
namespace SG.Lin
section
variable {rows : Tab} {n m : Nat} {target : List Int}
/-- What a combination makes. -/
def madeAt (rows : Tab) (y : List Int) (k : Nat) : Int := (List.range rows.length).foldl (fun a i => fadd a (fmul (y.getD i 0) (at2 rows i k))) 0
def madeP (rows : Tab) (y : List Int) (m : Nat) : List Int := (List.range m).map (madeAt rows y)
theorem madeAt_in (rows : Tab) (y : List Int) (k : Nat) : InF (madeAt rows y k) := by
  unfold madeAt
  have : ∀ n, InF ((List.range n).foldl (fun a i => fadd a (fmul (y.getD i 0) (at2 rows i k))) 0) := fun n => by
    induction n with
    | zero => exact InF0
    | succ n ih => rw [List.range_succ, List.foldl_append]; exact fadd_in _ _
  exact this _
theorem madeAt_kk (rows : Tab) (y : List Int) (k : Nat) : kk (madeAt rows y k) = S rows.length fun i => vk y i * mt rows i k := by
  unfold madeAt
  have : ∀ n, kk ((List.range n).foldl (fun a i => fadd a (fmul (y.getD i 0) (at2 rows i k))) 0) = S n fun i => vk y i * mt rows i k := fun n => by
    induction n with
    | zero => rfl
    | succ n ih => rw [List.range_succ, List.foldl_append]; simp only [List.foldl_cons, List.foldl_nil, S]; rw [kk_fadd, ih, kk_fmul]; rfl
  exact this _
theorem list_ext_getD {a b : List Int} (hl : a.length = b.length) (h : ∀ i, i < a.length → a.getD i 0 = b.getD i 0) : a = b := by
  apply List.ext_getElem hl
  intro i h1 h2
  have := h i h1
  rwa [List.getD_eq_getElem?_getD, List.getElem?_eq_getElem h1, List.getD_eq_getElem?_getD, List.getElem?_eq_getElem h2] at this
theorem made_iff (h : Good rows n m) (ht : target.length = m) (hf : ∀ a, a ∈ target → InF a) (y : List Int) : madeP rows y m = target ↔ ∀ k, k < m → vk target k = S n fun i => vk y i * mt rows i k := by
  have hlen := h.len
  constructor
  · intro e k hk
    have : target.getD k 0 = madeAt rows y k := by rw [← e]; exact getD_range_map hk
    unfold vk; rw [this, madeAt_kk, hlen]; rfl
  · intro hs
    refine list_ext_getD (by simp [madeP, ht]) fun k hk => ?_
    have hk' : k < m := by simpa [madeP] using hk
    rw [show (madeP rows y m).getD k 0 = madeAt rows y k from getD_range_map hk']
    refine kk_inj (madeAt_in _ _ _) (getD_InF hf k) ?_
    rw [madeAt_kk, hlen]; exact (hs k hk').symm
/-- Does a list prove that rows do not make a target? -/
def provesP (rows : Tab) (target w : List Int) : Bool := (rows.all fun x => dotP x w == 0) && dotP target w == 1
theorem proves_null (h : Good rows n m) {w : List Int} (hp : ∀ x, x ∈ rows → dotP x w = 0) : Null n m (mt rows) (vk w) := fun i hi => by
  have hm : rows.getD i [] ∈ rows := getD_mem (by rw [h.len]; exact hi)
  have h1 := dot_kk (rows.getD i []) w
  rw [hp _ hm, h.row hi] at h1
  rw [show mt rows i = vk (rows.getD i []) from rfl, ← h1]; rfl
/-- LinearEither. -/
theorem either_made (h : Good rows n m) (ht : target.length = m) (hf : ∀ a, a ∈ target → InF a) {y : List Int} (hy : combineP rows target = some y) : y.length = n ∧ madeP rows y m = target :=
  let ⟨h1, _, h3, _⟩ := combine_some h ht hf hy
  ⟨h1, (made_iff h ht hf y).2 h3⟩
theorem either_proves (h : Good rows n m) (ht : target.length = m) {w : List Int} (hw : separateP rows target = some w) : w.length = m ∧ provesP rows target w = true := by
  obtain ⟨h1, h2, h3, h4⟩ := separate_some h ht hw
  refine ⟨h1, ?_⟩
  unfold provesP
  rw [Bool.and_eq_true, List.all_eq_true]
  refine ⟨fun x hx => ?_, ?_⟩
  · obtain ⟨i, hi, rfl⟩ := List.getElem_of_mem hx
    rw [beq_iff_eq]
    refine (kk_ne (dot_in _ _)).1 ?_
    have := h3 i (by rw [← h.len]; exact hi)
    have e : rows[i] = rows.getD i [] := by rw [List.getD_eq_getElem?_getD, List.getElem?_eq_getElem hi]; rfl
    rw [dot_kk, h.wide _ hx, e]; exact this
  · rw [beq_iff_eq]
    refine kk_inj (dot_in _ _) ⟨by omega, by omega⟩ ?_
    rw [dot_kk, ht, h4]; rfl
theorem either_y (h : Good rows n m) (ht : target.length = m) (hf : ∀ a, a ∈ target → InF a) {y : List Int} (hy : madeP rows y m = target) : (combineP rows target).isSome = true :=
  (comb_iff h ht hf).2 ((span_target h ht).2 ⟨_, (made_iff h ht hf y).1 hy⟩)
theorem either_w (h : Good rows n m) (ht : target.length = m) (hf : ∀ a, a ∈ target → InF a) {w : List Int} (hw : provesP rows target w = true) : (separateP rows target).isSome = true := by
  unfold provesP at hw
  rw [Bool.and_eq_true, List.all_eq_true, beq_iff_eq] at hw
  have hn := proves_null h (w := w) (fun x hx => by simpa using hw.1 x hx)
  have hc : (combineP rows target).isSome = false := by
    rw [Bool.eq_false_iff]
    intro hc
    have h4 := hn.span ((comb_iff h ht hf).1 hc)
    have h5 := dot_kk target w
    rw [hw.2, ht, h4] at h5
    exact absurd h5 (by decide)
  have := sep_comb h ht hf
  rw [hc] at this
  cases hs : (separateP rows target).isSome with
  | true => rfl
  | false => rw [hs] at this; cases this
/-- LinearRank. -/
theorem rank_row (h : Good rows n m) {i : Nat} (hi : i < n) : rankP (rows.take (i + 1)) = rankP (rows.take i) + if (combineP (rows.take i) (rows.getD i [])).isSome then 0 else 1 := by
  have h1 := h.take (i := i) (by omega)
  have h2 := h.take (i := i + 1) (by omega)
  have hm : rows.getD i [] ∈ rows := getD_mem (by rw [h.len]; exact hi)
  have e : ∀ q, q ≤ n → rankP (rows.take q) = rk (mt rows) q := fun q hq => by
    rw [rankP_eq (h.take hq)]
    unfold rk
    refine cnt_congr fun c hc => ?_
    rw [mt_take hc, span_congr fun l hl => mt_take (i := q) (show l < q by omega)]
  rw [e _ (by omega), e _ (by omega)]
  have hc := comb_iff h1 (h.row hi) (h.fld _ hm)
  rw [span_congr (fun l hl => mt_take (rows := rows) hl)] at hc
  show cnt _ i + _ = cnt _ i + _
  by_cases hs : Span i (mt rows) (mt rows i)
  · rw [if_neg (fun k => k hs), if_pos (hc.2 hs)]
  · rw [if_pos hs, if_neg (fun k => hs (hc.1 k))]
theorem Good.put (h : Good rows n m) (ht : target.length = m) (hf : ∀ a, a ∈ target → InF a) : Good (rows ++ [target]) (n + 1) m :=
  ⟨by simp [h.len], fun x hx => by
    rcases List.mem_append.1 hx with h1 | h1
    · exact h.wide x h1
    · rw [List.mem_singleton.1 h1]; exact ht, fun x hx => by
    rcases List.mem_append.1 hx with h1 | h1
    · exact h.fld x h1
    · rw [List.mem_singleton.1 h1]; exact hf⟩
theorem rank_more (h : Good rows n m) (ht : target.length = m) (hf : ∀ a, a ∈ target → InF a) : rankP (rows ++ [target]) = rankP rows + if (combineP rows target).isSome then 0 else 1 := by
  have h1 := rank_row (h.put ht hf) (Nat.lt_succ_self n)
  have e1 : (rows ++ [target]).take (n + 1) = rows ++ [target] := List.take_of_length_le (by simp [h.len])
  have e2 : (rows ++ [target]).take n = rows := by rw [← h.len]; exact List.take_left
  have e3 : (rows ++ [target]).getD n [] = target := by rw [← h.len]; simp [List.getD_eq_getElem?_getD]
  rw [e1, e2, e3] at h1; exact h1
theorem rank_zero (h : Good rows n m) (ht : target.length = m) (hf : ∀ a, a ∈ target → InF a) {y : List Int} (hy : combineP rows target = some y) {i : Nat} (hi : i < n)
    (hc : (combineP (rows.take i) (rows.getD i [])).isSome = true) : y.getD i 0 = 0 := by
  obtain ⟨_, _, _, h4⟩ := combine_some h ht hf hy
  have hm : rows.getD i [] ∈ rows := getD_mem (by rw [h.len]; exact hi)
  have h1 := (comb_iff (h.take (i := i) (by omega)) (h.row hi) (h.fld _ hm)).1 hc
  rw [span_congr (fun l hl => mt_take (rows := rows) hl)] at h1
  exact h4 i hi h1
/-- LinearColumns. -/
def colsP (rows : Tab) (m : Nat) : Tab := (List.range m).map fun k => rows.map fun x => x.getD k 0
theorem cols_good (h : Good rows n m) : Good (colsP rows m) m n := by
  refine ⟨by simp [colsP], fun x hx => ?_, fun x hx => ?_⟩
  · obtain ⟨k, _, rfl⟩ := List.mem_map.1 hx
    simp [h.len]
  · obtain ⟨k, _, rfl⟩ := List.mem_map.1 hx
    intro a ha
    obtain ⟨y, hy, rfl⟩ := List.mem_map.1 ha
    exact getD_InF (h.fld y hy) k
theorem cols_mt (h : Good rows n m) {k : Nat} (hk : k < m) {i : Nat} (hi : i < n) : mt (colsP rows m) k i = mt rows i k := by
  unfold mt at2 colsP
  rw [List.getD_eq_getElem?_getD (l := (List.range m).map _), List.getElem?_map, List.getElem?_range hk]
  show kk ((rows.map fun x => x.getD k 0).getD i 0) = _
  rw [List.getD_eq_getElem?_getD, List.getElem?_map, List.getD_eq_getElem?_getD (l := rows), List.getElem?_eq_getElem (by rw [h.len]; exact hi)]; rfl
theorem rank_cols (h : Good rows n m) (hn : 0 < n) : rankP rows = rankP (colsP rows m) := by
  rw [rankP_dep h hn, rankP_eq (cols_good h)]
  unfold rk
  refine cnt_congr fun c hc => not_congr ?_
  constructor
  · rintro ⟨a, ha⟩
    refine ⟨a, fun i => ?_⟩
    by_cases hi : i < n
    · rw [cols_mt h hc hi, ha i hi]
      exact S_congr fun j hj => by rw [cols_mt h (by omega) hi]; grind
    · rw [mt_out (cols_good h) (by omega), S_zero]
      intro j _; rw [mt_out (cols_good h) (by omega)]; grind
  · rintro ⟨a, ha⟩
    refine ⟨a, fun i hi => ?_⟩
    have := ha i
    rw [cols_mt h hc hi] at this
    rw [this]
    exact S_congr fun j hj => by rw [cols_mt h (by omega) hi]; grind
theorem rank_le (h : Good rows n m) : rankP rows ≤ n := by rw [rankP_eq h]; exact rk_le _ _
/-- LinearSums: there is one combination alone that has 0 at all rows that depend on earlier ones. -/
theorem unique_comb {A : Nat → Nat → K} {d : Nat → K} (hd : ∀ i, i < n → Span i A (A i) → d i = 0) (h0 : ∀ j, S n (fun i => d i * A i j) = 0) : ∀ i, i < n → d i = 0 := by
  induction n with
  | zero => intro i hi; omega
  | succ n ih =>
    have hn : d n = 0 := by
      apply Classical.byContradiction
      intro hne
      refine hne (hd n (by omega) ?_)
      obtain ⟨b, hb⟩ := inv_ex _ hne
      refine ⟨fun l => -b * d l, fun j => ?_⟩
      have := h0 j
      simp only [S] at this
      rw [S_congr (g := fun i => -b * (d i * A i j)) (fun i _ => by grind), S_mul]
      grind
    intro i hi
    by_cases e : i = n
    · rw [e]; exact hn
    · refine ih (fun i hi => hd i (by omega)) (fun j => ?_) i (by omega)
      have := h0 j
      simp only [S] at this
      rw [hn] at this; grind
theorem sums (h : Good rows n m) {a b sum x y : List Int} (ha : a.length = m) (hb : b.length = m) (hs : sum.length = m) (hfa : ∀ q, q ∈ a → InF q) (hfb : ∀ q, q ∈ b → InF q) (hfs : ∀ q, q ∈ sum → InF q)
    (c : Int) (hsum : ∀ k, k < m → sum.getD k 0 = fadd (a.getD k 0) (fmul c (b.getD k 0)))
    (hx : combineP rows a = some x) (hy : combineP rows b = some y) : ∃ z, combineP rows sum = some z ∧ x.length = n ∧ y.length = n ∧ z.length = n ∧ ∀ i, i < n → z.getD i 0 = fadd (x.getD i 0) (fmul c (y.getD i 0)) := by
  obtain ⟨x1, x2, x3, x4⟩ := combine_some h ha hfa hx
  obtain ⟨y1, y2, y3, y4⟩ := combine_some h hb hfb hy
  have hk : ∀ k, k < m → vk sum k = vk a k + kk c * vk b k := fun k hk => by
    unfold vk; rw [hsum k hk, kk_fadd, kk_fmul]
  cases hz : combineP rows sum with
  | none =>
    refine absurd ((span_target h hs).2 ⟨fun i => vk x i + kk c * vk y i, fun k hk' => ?_⟩) (combine_none h hs hfs hz)
    rw [hk k hk', x3 k hk', y3 k hk', ← S_mul, ← S_add]
    exact S_congr fun i _ => by grind
  | some z =>
    obtain ⟨z1, z2, z3, z4⟩ := combine_some h hs hfs hz
    refine ⟨z, rfl, x1, y1, z1, fun i hi => ?_⟩
    have hv : ∀ {u : List Int}, (∀ i, i < n → Span i (mt rows) (mt rows i) → u.getD i 0 = 0) → ∀ i, i < n → Span i (mt rows) (mt rows i) → vk u i = 0 := fun hu i hi hsp => by unfold vk; rw [hu i hi hsp]; rfl
    have := unique_comb (n := n) (A := mt rows) (d := fun i => vk z i - (vk x i + kk c * vk y i)) (fun i hi hsp => by
      show _ - _ = _
      rw [hv z4 i hi hsp, hv x4 i hi hsp, hv y4 i hi hsp]; grind) (fun j => by
      have e : S n (fun i => (vk z i - (vk x i + kk c * vk y i)) * mt rows i j) = S n (fun i => vk z i * mt rows i j) + -1 * (S n (fun i => vk x i * mt rows i j) + kk c * S n (fun i => vk y i * mt rows i j)) := by
        rw [← S_mul, ← S_add, ← S_mul, ← S_add]
        exact S_congr fun i _ => by grind
      rw [e]
      by_cases hj : j < m
      · rw [← z3 j hj, ← x3 j hj, ← y3 j hj, hk j hj]; grind
      · rw [S_zero (fun i _ => by rw [mt_out h (by omega)]; grind), S_zero (fun i _ => by rw [mt_out h (by omega)]; grind), S_zero (fun i _ => by rw [mt_out h (by omega)]; grind)]; grind) i hi
    refine kk_inj (getD_InF z2 i) (fadd_in _ _) ?_
    rw [kk_fadd, kk_fmul]
    show vk z i = vk x i + kk c * vk y i
    grind
/-- LinearChanged. -/
theorem rank_same {rows' : Tab} {n' : Nat} (h : Good rows n m) (h' : Good rows' n' m) (hs : Same n n' (mt rows) (mt rows')) : rankP rows = rankP rows' := by
  rw [rankP_eq h, rankP_eq h', ← cnt_lead h n (Nat.le_refl n), ← cnt_lead h' n' (Nat.le_refl n')]
  exact cnt_congr fun c _ => ⟨fun ⟨v, h1, h2⟩ => ⟨v, (hs v).1 h1, h2⟩, fun ⟨v, h1, h2⟩ => ⟨v, (hs v).2 h1, h2⟩⟩
theorem comb_same {rows' : Tab} {n' : Nat} (h : Good rows n m) (h' : Good rows' n' m) (hs : Same n n' (mt rows) (mt rows')) (ht : target.length = m) (hf : ∀ a, a ∈ target → InF a) :
    (combineP rows target).isSome = (combineP rows' target).isSome := by
  rw [Bool.eq_iff_iff, comb_iff h ht hf, comb_iff h' ht hf]; exact hs _
/-- A row is changed: a multiple of another one is added to it, or it is multiplied by a number that is not 0. -/
theorem changed_same (h : Good rows n m) {a b : Nat} (ha : a < n) (hb : b < n) (c : Int) {x : List Int} (hx : x.length = m) (hf : ∀ q, q ∈ x → InF q)
    (h1 : a ≠ b → ∀ j, j < m → x.getD j 0 = fadd (at2 rows a j) (fmul c (at2 rows b j)))
    (h2 : a = b → c % 1073741789 ≠ 0 → ∀ j, j < m → x.getD j 0 = fmul c (at2 rows a j))
    (h3 : a = b → c % 1073741789 = 0 → ∀ j, j < m → x.getD j 0 = at2 rows a j) : Good (rows.set a x) n m ∧ Same n n (mt rows) (mt (rows.set a x)) := by
  have hg : Good (rows.set a x) n m := ⟨by rw [List.length_set, h.len], fun y hy => by
    rcases List.mem_or_eq_of_mem_set hy with h4 | h4
    · exact h.wide y h4
    · rw [h4]; exact hx, fun y hy => by
    rcases List.mem_or_eq_of_mem_set hy with h4 | h4
    · exact h.fld y h4
    · rw [h4]; exact hf⟩
  refine ⟨hg, ?_⟩
  have e1 : mt (rows.set a x) a = vk x := by rw [mt_vk, getD_set' _ _ _ _ _ (by rw [h.len]; exact ha), if_pos rfl]
  have e2 : ∀ i, i ≠ a → mt (rows.set a x) i = mt rows i := fun i hi => by rw [mt_vk, getD_set' _ _ _ _ _ (by rw [h.len]; exact ha), if_neg (fun e => hi e.symm)]; rfl
  have sx : Span n (mt rows) (vk x) ∧ (Span n (mt (rows.set a x)) (mt rows a)) := by
    have out : ∀ j, m ≤ j → vk x j = 0 := fun j hj => vk_out (by omega)
    have hr : Span n (mt rows) (mt rows a) := Span.row ha
    have hr2 : Span n (mt (rows.set a x)) (vk x) := (Span.row (A := mt (rows.set a x)) ha).congr fun j => by rw [e1]
    by_cases e : a = b
    · by_cases hc : c % 1073741789 = 0
      · have hv : ∀ j, vk x j = mt rows a j := fun j => by
          by_cases hj : j < m
          · unfold vk; rw [h3 e hc j hj]; rfl
          · rw [out j (by omega), mt_out h (by omega)]
        exact ⟨hr.congr hv, hr2.congr fun j => (hv j).symm⟩
      · have hv : ∀ j, vk x j = kk c * mt rows a j := fun j => by
          by_cases hj : j < m
          · unfold vk; rw [h2 e hc j hj, kk_fmul]; rfl
          · rw [out j (by omega), mt_out h (by omega)]; grind
        obtain ⟨q, hq⟩ := inv_ex (kk c) (fun e0 => hc (by have := kk_eq.1 (e0.trans kk_zero.symm); omega))
        exact ⟨(hr.mul _).congr hv, (hr2.mul q).congr fun j => by rw [hv]; grind⟩
    · have hv : ∀ j, vk x j = mt rows a j + kk c * mt rows b j := fun j => by
        by_cases hj : j < m
        · unfold vk; rw [h1 e j hj, kk_fadd, kk_fmul]; rfl
        · rw [out j (by omega), mt_out h (by omega), mt_out h (by omega)]; grind
      have hrb : Span n (mt (rows.set a x)) (mt rows b) := (Span.row (A := mt (rows.set a x)) hb).congr fun j => by rw [e2 b (fun k => e k.symm)]
      exact ⟨(hr.add ((Span.row hb).mul (kk c))).congr hv, (hr2.add (hrb.mul (-kk c))).congr fun j => by rw [hv]; grind⟩
  refine Same.of (fun i hi => ?_) (fun i hi => ?_)
  · by_cases e : i = a
    · rw [e, e1]; exact sx.1
    · rw [e2 i e]; exact Span.row hi
  · by_cases e : i = a
    · rw [e]; exact sx.2
    · exact (Span.row hi).congr fun j => by rw [e2 i e]
end
end SG.Lin


/- The reference's elimination gives the same. -/
namespace SG.Lin
def lessP (a b : List Int) (n : Int) : List Int := a.mapIdx fun i x => fadd x (-fmul n (b.getD i 0))
def timesP (a : List Int) (n : Int) : List Int := lessP (List.replicate a.length 0) a (-n)
def refStep (st : Tab × List Nat) (c : Nat) : Tab × List Nat :=
  let r := st.2.length
  let k := firstNZ st.1 c r
  if k < st.1.length then
    let own := timesP (st.1.getD k []) (finv ((st.1.getD k []).getD c 0))
    (((st.1.set k (st.1.getD r [])).map fun x => lessP x own (x.getD c 0)).set r own, st.2 ++ [c])
  else st
def refGj (T : Tab) (many : Nat) : Tab × List Nat := (List.range many).foldl refStep (T, [])
theorem less_at (a b : List Int) (n : Int) {j : Nat} (hj : j < a.length) : (lessP a b n).getD j 0 = fadd (a.getD j 0) (-fmul n (b.getD j 0)) := by
  unfold lessP; rw [getD_mapIdx _ _ _ _ 0 hj]
theorem less_len (a b : List Int) (n : Int) : (lessP a b n).length = a.length := List.length_mapIdx
theorem fadd_0 {x : Int} (h : InF x) : fadd x (-fmul 0 0) = x := by unfold fadd fmul InF at *; simp; omega
theorem fadd_z {x n : Int} (h : InF x) : fadd x (-fmul n 0) = x := by unfold fadd fmul InF at *; simp; omega
theorem fadd_n {x n : Int} (h : InF x) : fadd x (-fmul 0 n) = x := by unfold fadd fmul InF at *; simp; omega
theorem times_at {a : List Int} {n : Int} {j : Nat} (hj : j < a.length) : (timesP a n).getD j 0 = fmul (a.getD j 0) n := by
  unfold timesP
  rw [less_at _ _ _ (by rw [List.length_replicate]; exact hj)]
  have : (List.replicate a.length (0 : Int)).getD j 0 = 0 := by rw [List.getD_eq_getElem?_getD, List.getElem?_replicate]; split <;> rfl
  rw [this]
  refine kk_inj (fadd_in _ _) (fmul_in _ _) ?_
  rw [kk_fadd, kk_neg, kk_fmul, kk_neg, kk_fmul, kk_zero]; grind
theorem times_len (a : List Int) (n : Int) : (timesP a n).length = a.length := by unfold timesP; rw [less_len, List.length_replicate]
theorem times_scale {c : Nat} {a : List Int} {n : Int} (hz : ∀ j, j < c → a.getD j 0 = 0) : timesP a n = scaleFrom c n a := by
  refine list_ext_getD (by rw [times_len, scale_len]) fun j hj => ?_
  rw [times_len] at hj
  rw [times_at hj, scale_at _ _ _ _ hj]
  by_cases h : c ≤ j
  · rw [if_pos h]
  · rw [if_neg h, hz j (by omega)]; unfold fmul; simp
theorem less_clear {c : Nat} {x y : List Int} (hx : ∀ a, a ∈ x → InF a) (hz : ∀ j, j < c → y.getD j 0 = 0) : lessP x y (x.getD c 0) = clearFrom c y x := by
  refine list_ext_getD (by rw [less_len, clear_len]) fun j hj => ?_
  rw [less_len] at hj
  rw [less_at _ _ _ hj, clear_at _ _ _ _ hj]
  have hj' := getD_InF hx j
  by_cases h0 : x.getD c 0 = 0
  · rw [if_neg (fun k => k.2 h0), h0, fadd_n hj']
  · by_cases h : c ≤ j
    · rw [if_pos ⟨h, h0⟩]
    · rw [if_neg (fun k => h k.1), hz j (by omega), fadd_z hj']
theorem refStep_eq {T0 : Tab} {n L c : Nat} {st : Tab × List Nat} (h : Red T0 n L c st) : refStep st c = gjStep st c := by
  obtain ⟨T, piv⟩ := st
  obtain ⟨hg, _, hp⟩ := h
  simp only at hg hp
  have hlen := hg.len
  have hk := firstNZ_spec T c piv.length
  unfold refStep gjStep
  simp only []
  by_cases hlt : firstNZ T c piv.length < T.length
  · rw [if_pos hlt, if_pos hlt]
    generalize firstNZ T c piv.length = k at *
    obtain ⟨hk1, _, _, _⟩ := hk
    rw [hlen] at hlt
    have hr : piv.length < n := by omega
    have hmem : T.getD k [] ∈ T := getD_mem (by omega)
    have hz : ∀ j, j < c → (T.getD k []).getD j 0 = 0 := fun j hj => (kk_ne (hg.at k j)).1 (hp.rest k j hk1 hlt hj)
    rw [times_scale hz]
    have hz2 : ∀ j, j < c → (scaleFrom c (finv ((T.getD k []).getD c 0)) (T.getD k [])).getD j 0 = 0 := fun j hj => by
      by_cases hjl : j < (T.getD k []).length
      · rw [scale_at _ _ _ _ hjl, if_neg (by omega), hz j hj]
      · rw [getD_out (by rw [scale_len]; omega)]
    congr 1
    apply List.ext_getElem
    · simp
    · intro i h1 h2
      simp only [List.length_set, List.length_map] at h1
      rw [List.getElem_set, List.getElem_mapIdx, List.getElem_set]
      by_cases e : piv.length = i
      · rw [if_pos e, if_pos e.symm, if_pos e]
      · rw [if_neg e, if_neg (fun k => e k.symm), if_neg e, List.getElem_map]
        refine less_clear (fun a ha => ?_) hz2
        have hm : (T.set k (T.getD piv.length []))[i]'(by rw [List.length_set]; exact h1) ∈ T.set k (T.getD piv.length []) := List.getElem_mem _
        rcases List.mem_or_eq_of_mem_set hm with h3 | h3
        · exact hg.fld _ h3 a ha
        · rw [h3] at ha; exact hg.fld _ (getD_mem (by omega)) a ha
  · rw [if_neg hlt, if_neg hlt]
theorem refGj_eq {T : Tab} {n L : Nat} (h : Good T n L) (c : Nat) (hc : c ≤ L) : refGj T c = gj T c := by
  induction c with
  | zero => rfl
  | succ c ih =>
    rw [gj_succ, ← ih (by omega)]
    have e : refGj T (c + 1) = refStep (refGj T c) c := by unfold refGj; rw [List.range_succ, List.foldl_append]; rfl
    rw [e]
    rw [ih (by omega)]
    exact refStep_eq (gj_red h c (by omega))
end SG.Lin


