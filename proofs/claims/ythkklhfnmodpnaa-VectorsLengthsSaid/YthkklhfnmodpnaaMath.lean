/-
  Plain arithmetic for the layers fixed, vectors, quats and magnet: nearest integers, floors of square roots, digits to the base 65536. No program in sight.
-/
set_option linter.unusedSimpArgs false
namespace Go.Proofs.Ythkklhfnmodpnaa.PM

/-- The nearest integer of n / d, halves upward (d above 0). -/
def nearest (n d : Int) : Int := (2 * n + d) / (2 * d)

/-- The nearest integer of a b / c. -/
def ratioQ (a b c : Int) : Int := if c < 0 then nearest (-(a * b)) (-c) else nearest (a * b) c

def inI (q : Int) : Bool := decide (-9223372036854775808 ≤ q) && decide (q ≤ 9223372036854775807)

/-- A number that must fit: its value (0 if it does not fit) and the error's number. -/
def fitV (q : Int) : Int := if inI q then q else 0
def fitE (q : Int) : Int := if inI q then 0 else 7

def ratioV (a b c : Int) : Int := if c = 0 then 0 else fitV (ratioQ a b c)
def ratioE (a b c : Int) : Int := if c = 0 then 2 else fitE (ratioQ a b c)

/-- The nearest integer of n / 2^30. -/
def rnd (n : Int) : Int := (n + 536870912) / 1073741824

theorem nearest_one (n : Int) : nearest n 1073741824 = rnd n := by
  unfold nearest rnd; omega

theorem ediv_unique {n d q : Int} (h1 : d * q ≤ n) (h2 : n < d * q + d) (hd : 0 < d) : n / d = q := by
  have a := Int.mul_ediv_add_emod n d
  have b := Int.emod_nonneg n (Int.ne_of_gt hd)
  have c := Int.emod_lt_of_pos n hd
  have e : d * (n / d) = d * q + (n - n % d - d * q) := by omega
  rcases Int.lt_trichotomy (n / d) q with h | h | h
  · have := Int.mul_le_mul_of_nonneg_left (show n / d + 1 ≤ q by omega) (Int.le_of_lt hd)
    rw [Int.mul_add] at this; omega
  · exact h
  · have := Int.mul_le_mul_of_nonneg_left (show q + 1 ≤ n / d by omega) (Int.le_of_lt hd)
    rw [Int.mul_add] at this; omega

theorem nearest_pos (c q r : Int) (hc : 0 < c) (h0 : 0 ≤ r) (h1 : r < c) :
    nearest (c * q + r) c = if c ≤ 2 * r then q + 1 else q := by
  unfold nearest
  split
  · apply ediv_unique
    · grind
    · grind
    · omega
  · apply ediv_unique
    · grind
    · grind
    · omega

theorem nearest_neg (c q r : Int) (hc : 0 < c) (h0 : 0 ≤ r) (h1 : r < c) :
    nearest (-(c * q + r)) c = if c < 2 * r then -(q + 1) else -q := by
  unfold nearest
  split
  · apply ediv_unique
    · grind
    · grind
    · omega
  · apply ediv_unique
    · grind
    · grind
    · omega
/-- The sign of a quotient and its absolute value give the nearest integer. -/
theorem ratioQ_of {a b c A B C q r : Int} (neg : Bool) (hC : 0 < C) (ha : A = a ∨ A = -a) (hb : B = b ∨ B = -b) (hc : C = c ∨ C = -c)
    (h0 : 0 ≤ A) (h1 : 0 ≤ B) (hq : A * B = C * q + r) (hr0 : 0 ≤ r) (hr1 : r < C)
    (hn : neg = ((decide (a < 0) != decide (b < 0)) != decide (c < 0))) :
    ratioQ a b c = (if neg then -(q + if C < 2 * r then 1 else 0) else q + if C ≤ 2 * r then 1 else 0) := by
  have key : ratioQ a b c = if neg then nearest (-(A * B)) C else nearest (A * B) C := by
    unfold ratioQ
    subst hn
    by_cases ha0 : a < 0 <;> by_cases hb0 : b < 0 <;> by_cases hc0 : c < 0 <;> simp only [ha0, hb0, hc0, decide_true, decide_false, bne_self_eq_false, if_true, if_false, Bool.false_eq_true, Bool.true_bne, Bool.false_bne, Bool.bne_true, Bool.bne_false, Bool.not_true, Bool.not_false]
    all_goals
      have eA : A = if a < 0 then -a else a := by split <;> omega
      have eB : B = if b < 0 then -b else b := by split <;> omega
      have eC : C = if c < 0 then -c else c := by split <;> omega
      simp only [ha0, hb0, hc0, if_true, if_false] at eA eB eC
      rw [eA, eB, eC]
      try simp only [Int.neg_mul, Int.mul_neg, Int.neg_neg]
  rw [key, hq]
  cases neg
  · simp only [Bool.false_eq_true, if_false]; rw [nearest_pos C q r hC hr0 hr1]; split <;> omega
  · simp only [if_true]; rw [nearest_neg C q r hC hr0 hr1]; split <;> omega
/-! ### The division of two words by one (bits.Div64): plain numbers. V = V1 2^32 + V0 is the divisor, shifted so that V1 is at least 2^31. -/

/-- The test of the loops that correct a digit. -/
theorem div_test {V1 V0 n u q r : Nat} (h : n = q * V1 + r) :
    (4294967296 * r + u < q * V0) ↔ (n * 4294967296 + u < q * (V1 * 4294967296 + V0)) := by
  subst h; grind

/-- A quotient digit that may be too large, too large indeed. -/
theorem div_big {V1 V0 n u q r : Nat} (h : n = q * V1 + r) (ht : 4294967296 * r + u < q * V0) :
    (n * 4294967296 + u) / (V1 * 4294967296 + V0) < q := by
  have := (div_test (u := u) (V0 := V0) h).1 ht
  exact (Nat.div_lt_iff_lt_mul (by grind)).2 this

theorem div_le {V1 V0 n u q r : Nat} (hV : 0 < V1) (h : n = q * V1 + r) (ht : ¬ 4294967296 * r + u < q * V0) :
    q ≤ (n * 4294967296 + u) / (V1 * 4294967296 + V0) := by
  have := mt (div_test (u := u) (V0 := V0) h).2 ht
  exact (Nat.le_div_iff_mul_le (by omega)).2 (by omega)

/-- The first guess of a digit is not too small. -/
theorem div_guess {V1 V0 n u : Nat} (hV : 0 < V1) (hu : u < 4294967296) :
    (n * 4294967296 + u) / (V1 * 4294967296 + V0) ≤ n / V1 := by
  have h1 := Nat.div_add_mod n V1
  have h2 := Nat.mod_lt n hV
  apply Nat.le_of_lt_succ
  rw [Nat.div_lt_iff_lt_mul (by omega)]
  generalize n / V1 = q at *; generalize n % V1 = r at *
  subst h1
  have : (V1 * q + r + 1) * 4294967296 ≤ (V1 * q + V1) * 4294967296 := Nat.mul_le_mul_right _ (by omega)
  grind

/-- ... and at most 2^32 + 1. -/
theorem div_guess_le {V1 V0 n : Nat} (hV : 2147483648 ≤ V1) (h0 : V0 < 4294967296) (hn : n < V1 * 4294967296 + V0) : n / V1 ≤ 4294967297 := by
  apply Nat.le_of_lt_succ
  rw [Nat.div_lt_iff_lt_mul (by omega)]
  omega

theorem div_digit_lt {V1 V0 n u : Nat} (hu : u < 4294967296) (hn : n < V1 * 4294967296 + V0) :
    (n * 4294967296 + u) / (V1 * 4294967296 + V0) < 4294967296 := by
  rw [Nat.div_lt_iff_lt_mul (by omega)]; omega

/-- The two digits together, and the rest. -/
theorem div_two {V n u1 u0 : Nat} (hV : 0 < V) :
    (n * 18446744073709551616 + (u1 * 4294967296 + u0)) / V = (n * 4294967296 + u1) / V * 4294967296 + ((n * 4294967296 + u1) % V * 4294967296 + u0) / V ∧
    (n * 18446744073709551616 + (u1 * 4294967296 + u0)) % V = ((n * 4294967296 + u1) % V * 4294967296 + u0) % V := by
  obtain ⟨m, hm⟩ : ∃ m, m = n * 4294967296 + u1 := ⟨_, rfl⟩
  have h1 := Nat.div_add_mod m V
  obtain ⟨q, hq⟩ : ∃ q, q = m / V := ⟨_, rfl⟩
  obtain ⟨r, hr⟩ : ∃ r, r = m % V := ⟨_, rfl⟩
  rw [← hm, ← hq, ← hr]
  rw [← hq, ← hr] at h1
  have e : n * 18446744073709551616 + (u1 * 4294967296 + u0) = (r * 4294967296 + u0) + V * (q * 4294967296) := by grind
  rw [e, Nat.add_mul_div_left _ _ hV, Nat.add_mul_mod_self_left]
  exact ⟨by omega, rfl⟩
/-- Dividend and divisor shifted alike. -/
theorem div_shift {N y k : Nat} (hk : 0 < k) : N * k / (y * k) = N / y ∧ N * k % (y * k) / k = N % y := by
  refine ⟨Nat.mul_div_mul_right _ _ hk, ?_⟩
  rw [Nat.mul_mod_mul_right, Nat.mul_div_cancel _ hk]

/-! ### The floor of a square root -/
def isqrtAux : Nat → Nat → Nat
  | 0, _ => 0
  | f + 1, n => if (2 * isqrtAux f (n / 4) + 1) * (2 * isqrtAux f (n / 4) + 1) ≤ n then 2 * isqrtAux f (n / 4) + 1 else 2 * isqrtAux f (n / 4)
/-- The floor of the square root of a number below 4^200. -/
def isqrt (n : Nat) : Nat := isqrtAux 200 n
theorem isqrtAux_spec : ∀ (f n : Nat), n < 4 ^ f → isqrtAux f n * isqrtAux f n ≤ n ∧ n < (isqrtAux f n + 1) * (isqrtAux f n + 1)
  | 0, n, h => by simp [isqrtAux]; simp at h; omega
  | f + 1, n, h => by
    have ih := isqrtAux_spec f (n / 4) (by rw [Nat.pow_succ] at h; omega)
    unfold isqrtAux
    generalize isqrtAux f (n / 4) = r at *
    obtain ⟨h1, h2⟩ := ih
    generalize hm : n / 4 = m at *
    have e1 : 4 * m ≤ n := by omega
    have e2 : n < 4 * m + 4 := by omega
    have e3 : m + 1 ≤ (r + 1) * (r + 1) := h2
    split
    · refine ⟨by assumption, ?_⟩
      have : (2 * r + 1 + 1) * (2 * r + 1 + 1) = 4 * ((r + 1) * (r + 1)) := by grind
      omega
    · refine ⟨?_, by omega⟩
      have : 2 * r * (2 * r) = 4 * (r * r) := by grind
      omega
theorem isqrt_spec {n : Nat} (h : n < 4 ^ 200) : isqrt n * isqrt n ≤ n ∧ n < (isqrt n + 1) * (isqrt n + 1) := isqrtAux_spec 200 n h
theorem sq_lt_of {a b : Nat} (h : a * a < b * b) : a < b := by
  apply Nat.lt_of_not_le; intro h2
  have := Nat.mul_le_mul h2 h2; omega
theorem isqrt_eq {n r : Nat} (h : n < 4 ^ 200) (h1 : r * r ≤ n) (h2 : n < (r + 1) * (r + 1)) : isqrt n = r := by
  obtain ⟨a, b⟩ := isqrt_spec h
  have x := sq_lt_of (Nat.lt_of_le_of_lt a h2)
  have y := sq_lt_of (Nat.lt_of_le_of_lt h1 b)
  omega
theorem isqrt_lt {n k : Nat} (h : n < 4 ^ 200) : isqrt n < k ↔ n < k * k := by
  obtain ⟨a, b⟩ := isqrt_spec h
  constructor
  · intro hk
    exact Nat.lt_of_lt_of_le b (Nat.mul_le_mul hk hk)
  · intro hk
    exact sq_lt_of (Nat.lt_of_le_of_lt a hk)
theorem isqrt_ge {n k : Nat} (h : n < 4 ^ 200) : k ≤ isqrt n ↔ k * k ≤ n := by
  have := isqrt_lt (k := k) h; omega
/-! ### Digits to the base 65536 -/
/-- Digit i of n. -/
def dg (n i : Nat) : Nat := n / 65536 ^ i % 65536
theorem dg_lt (n i : Nat) : dg n i < 65536 := Nat.mod_lt _ (by omega)
/-- The number of the first i digits. -/
def low (n i : Nat) : Nat := n % 65536 ^ i
theorem low_zero (n : Nat) : low n 0 = 0 := by simp [low, Nat.mod_one]
theorem low_succ (n i : Nat) : low n (i + 1) = low n i + 65536 ^ i * dg n i := by
  unfold low dg; rw [Nat.mod_pow_succ]
theorem low_lt (n i : Nat) : low n i < 65536 ^ i := Nat.mod_lt _ (Nat.pos_of_ne_zero (by simp))
theorem low_all {n i : Nat} (h : n < 65536 ^ i) : low n i = n := Nat.mod_eq_of_lt h
theorem pow_pos' (i : Nat) : 0 < 65536 ^ i := Nat.pos_of_ne_zero (by simp)
theorem split_low (n i : Nat) : n = 65536 ^ i * (n / 65536 ^ i) + low n i := (Nat.div_add_mod n (65536 ^ i)).symm

/-- Equal digits make equal numbers. -/
theorem eq_of_dg {n m : Nat} (k : Nat) (hn : n < 65536 ^ k) (hm : m < 65536 ^ k) (h : ∀ i, i < k → dg n i = dg m i) : n = m := by
  have : ∀ i, i ≤ k → low n i = low m i := by
    intro i
    induction i with
    | zero => intro _; rw [low_zero, low_zero]
    | succ i ih => intro hi; rw [low_succ, low_succ, ih (by omega), h i (by omega)]
  have := this k (Nat.le_refl _)
  rwa [low_all hn, low_all hm] at this

/-- The carry into digit i of the sum. -/
def carry (n m i : Nat) : Nat := (low n i + low m i) / 65536 ^ i
theorem carry_zero (n m : Nat) : carry n m 0 = 0 := by simp [carry, low_zero]
theorem carry_le (n m i : Nat) : carry n m i ≤ 1 := by
  unfold carry
  have := low_lt n i; have := low_lt m i
  apply Nat.le_of_lt_succ
  rw [Nat.div_lt_iff_lt_mul (pow_pos' i)]; omega
theorem add_digit (n m i : Nat) : (carry n m i + dg n i + dg m i) % 65536 = dg (n + m) i := by
  unfold dg carry
  have e : (n + m) / 65536 ^ i = n / 65536 ^ i + m / 65536 ^ i + (low n i + low m i) / 65536 ^ i := by
    conv => lhs; rw [split_low n i, split_low m i]
    rw [show 65536 ^ i * (n / 65536 ^ i) + low n i + (65536 ^ i * (m / 65536 ^ i) + low m i) = (low n i + low m i) + 65536 ^ i * (n / 65536 ^ i + m / 65536 ^ i) by grind]
    rw [Nat.add_mul_div_left _ _ (pow_pos' i)]; omega
  rw [e]; omega
theorem add_carry (n m i : Nat) : (carry n m i + dg n i + dg m i) / 65536 = carry n m (i + 1) := by
  unfold carry
  rw [low_succ, low_succ, Nat.pow_succ, ← Nat.div_div_eq_div_mul]
  rw [show low n i + 65536 ^ i * dg n i + (low m i + 65536 ^ i * dg m i) = (low n i + low m i) + 65536 ^ i * (dg n i + dg m i) by grind]
  rw [Nat.add_mul_div_left _ _ (pow_pos' i)]
  congr 1; omega

/-- A digit of a number whose low part is given. -/
theorem dg_of {r i x : Nat} (hr : r < 65536 ^ i) : dg (r + 65536 ^ i * x) i = x % 65536 := by
  unfold dg
  rw [Nat.add_mul_div_left _ _ (pow_pos' i), Nat.div_eq_of_lt hr, Nat.zero_add]
theorem dg_zero (n : Nat) : dg n 0 = n % 65536 := by simp [dg]
theorem dg_succ (n i : Nat) : dg n (i + 1) = dg (n / 65536) i := by
  unfold dg
  rw [Nat.pow_succ, Nat.mul_comm, ← Nat.div_div_eq_div_mul]
theorem dg_high {n i k : Nat} (h : n < 65536 ^ k) (hi : k ≤ i) : dg n i = 0 := by
  unfold dg
  rw [Nat.div_eq_of_lt (Nat.lt_of_lt_of_le h (Nat.pow_le_pow_right (by omega) hi))]

/-! Half. -/
theorem half_digit (n i : Nat) : (dg n i + dg n (i + 1) % 2 * 65536) / 2 = dg (n / 2) i := by
  unfold dg
  have e : n / 2 / 65536 ^ i = n / 65536 ^ i / 2 := by rw [Nat.div_div_eq_div_mul, Nat.mul_comm 2, ← Nat.div_div_eq_div_mul]
  rw [Nat.pow_succ, ← Nat.div_div_eq_div_mul, e]
  omega

/-! Sums with a factor (long multiplication). -/
def carryM (n d m i : Nat) : Nat := (low n i + d * low m i) / 65536 ^ i
theorem carryM_zero (n d m : Nat) : carryM n d m 0 = 0 := by simp [carryM, low_zero]
theorem carryM_le (n d m i : Nat) : carryM n d m i ≤ d := by
  unfold carryM
  have h1 := low_lt n i; have h2 := low_lt m i
  apply Nat.le_of_lt_succ
  rw [Nat.div_lt_iff_lt_mul (pow_pos' i)]
  have := Nat.mul_le_mul_left d (Nat.le_of_lt h2)
  rw [Nat.succ_mul]; omega
theorem mul_digit (n d m i : Nat) : (carryM n d m i + dg n i + d * dg m i) % 65536 = dg (n + d * m) i := by
  unfold dg carryM
  have e : (n + d * m) / 65536 ^ i = n / 65536 ^ i + d * (m / 65536 ^ i) + (low n i + d * low m i) / 65536 ^ i := by
    conv => lhs; rw [split_low n i, split_low m i]
    rw [show 65536 ^ i * (n / 65536 ^ i) + low n i + d * (65536 ^ i * (m / 65536 ^ i) + low m i) = (low n i + d * low m i) + 65536 ^ i * (n / 65536 ^ i + d * (m / 65536 ^ i)) by grind]
    rw [Nat.add_mul_div_left _ _ (pow_pos' i)]; omega
  rw [e]
  have hm := Nat.div_add_mod (m / 65536 ^ i) 65536
  generalize m / 65536 ^ i = y at *
  have : d * y = d * (y % 65536) + 65536 * (d * (y / 65536)) := by
    conv => lhs; rw [← hm, Nat.mul_add, Nat.mul_left_comm, Nat.add_comm]
  omega
theorem mul_carry (n d m i : Nat) : (carryM n d m i + dg n i + d * dg m i) / 65536 = carryM n d m (i + 1) := by
  unfold carryM
  rw [low_succ, low_succ, Nat.pow_succ, ← Nat.div_div_eq_div_mul]
  rw [show low n i + 65536 ^ i * dg n i + d * (low m i + 65536 ^ i * dg m i) = (low n i + d * low m i) + 65536 ^ i * (dg n i + d * dg m i) by grind]
  rw [Nat.add_mul_div_left _ _ (pow_pos' i)]
  congr 1; omega

/-- A digit further up. -/
theorem dg_add (n k j : Nat) : dg n (k + j) = dg (n / 65536 ^ k) j := by
  unfold dg
  rw [Nat.pow_add, Nat.div_div_eq_div_mul]
/-- Digits below i of a number with something added from digit i on. -/
theorem dg_below {n x i j : Nat} (h : j < i) : dg (n + 65536 ^ i * x) j = dg n j := by
  unfold dg
  obtain ⟨d, rfl⟩ : ∃ d, i = j + 1 + d := ⟨i - (j + 1), by omega⟩
  rw [show 65536 ^ (j + 1 + d) * x = 65536 ^ j * (65536 * (65536 ^ d * x)) by rw [Nat.pow_add, Nat.pow_succ]; grind]
  rw [Nat.add_mul_div_left _ _ (pow_pos' j)]; omega
theorem dg_above {n x i j : Nat} : dg (n + 65536 ^ i * x) (i + j) = dg (n / 65536 ^ i + x) j := by
  rw [dg_add, Nat.add_mul_div_left _ _ (pow_pos' i)]

/-- Round i of a long multiplication. -/
theorem mul_round (n m i : Nat) : low n (i + 1) * m = low n i * m + 65536 ^ i * (dg n i * m) := by
  rw [low_succ]; grind
theorem mul_part_lt {n m i : Nat} : low n i * m / 65536 ^ i ≤ m := by
  apply Nat.div_le_of_le_mul
  exact Nat.mul_le_mul_right _ (Nat.le_of_lt (low_lt n i))
/-- The digit i + k of the product's next part is that of the inner sum. -/
theorem mul_inner (n m i k : Nat) : dg (low n (i + 1) * m) (i + k) = dg (low n i * m / 65536 ^ i + dg n i * m) k := by
  rw [mul_round, dg_above]
theorem mul_lower {n m i j : Nat} (h : j < i) : dg (low n (i + 1) * m) j = dg (low n i * m) j := by
  rw [mul_round, dg_below h]
/-- Nothing is carried beyond digit 8, if both numbers are below 2^128. -/
theorem mul_upper {n m i j : Nat} (hm : m < 65536 ^ 8) (h : i + 9 ≤ j) : dg (low n (i + 1) * m) j = dg (low n i * m) j := by
  obtain ⟨k, rfl⟩ : ∃ k, j = i + k := ⟨j - i, by omega⟩
  have h1 : low n i * m / 65536 ^ i ≤ m := mul_part_lt
  have h2 : dg n i * m ≤ 65535 * m := Nat.mul_le_mul_right _ (by have := dg_lt n i; omega)
  rw [mul_inner, dg_add, dg_high (k := 9) (by omega) (by omega), dg_high (k := 9) (by omega) (by omega)]

/-! Differences. -/
theorem dec_digit : ∀ (k h t : Nat), (∀ s, s < k → dg h s = 0) → dg h k ≠ 0 →
    dg (h - 1) t = if t < k then 65535 else if t = k then dg h k - 1 else dg h t
  | 0, h, t, _, hk => by
    rw [dg_zero] at hk
    cases t with
    | zero => simp only [dg_zero, Nat.lt_irrefl, if_true, if_false]; omega
    | succ t =>
      rw [if_neg (by omega), if_neg (by omega), dg_succ, dg_succ]
      congr 1; omega
  | k + 1, h, t, hz, hk => by
    have h0 := hz 0 (by omega)
    rw [dg_zero] at h0
    rw [dg_succ] at hk
    have ih := dec_digit k (h / 65536)
    have hpos : h ≠ 0 := by rintro rfl; simp [dg] at hk
    have e : (h - 1) / 65536 = h / 65536 - 1 := by omega
    cases t with
    | zero => rw [if_pos (by omega), dg_zero]; omega
    | succ t =>
      rw [dg_succ, e, ih t (fun s hs => by rw [← dg_succ]; exact hz (s + 1) (by omega)) hk]
      simp only [dg_succ, Nat.add_lt_add_iff_right, Nat.add_right_cancel_iff]
/-- The number behind round i of a subtraction. -/
def subN (n m i : Nat) : Nat := n - low m i
theorem subN_zero (n m : Nat) : subN n m 0 = n := by simp [subN, low_zero]
theorem low_le_self (m i : Nat) : low m i ≤ m := Nat.mod_le _ _
theorem subN_round {n m i : Nat} (h : m ≤ n) : subN n m i = subN n m (i + 1) + 65536 ^ i * dg m i := by
  have := low_le_self m (i + 1)
  unfold subN; rw [low_succ] at *; omega
theorem subN_ge {n m i : Nat} (h : m ≤ n) : 65536 ^ i * dg m i ≤ subN n m i := by rw [subN_round h]; omega
/-- A round without a borrow. -/
theorem sub_plain {N R p i y : Nat} (hp : p = 65536 ^ i) (hN : N = R + p * y) (hy : y ≤ dg N i) (j : Nat) :
    dg R j = if j = i then dg N i - y else dg N j := by
  subst hp
  have e := split_low N (i + 1)
  rw [low_succ] at e
  have hz := dg_lt N i
  have hl := low_lt N i
  have eR : R = (low N i + 65536 ^ i * (dg N i - y)) + 65536 ^ (i + 1) * (N / 65536 ^ (i + 1)) := by
    have : 65536 ^ i * dg N i = 65536 ^ i * (dg N i - y) + 65536 ^ i * y := by rw [← Nat.mul_add]; congr 1; omega
    omega
  rcases Nat.lt_trichotomy j i with h | h | h
  · rw [if_neg (by omega), eR, dg_below (by omega), dg_below h]
    conv => rhs; rw [e]
    rw [Nat.add_comm, dg_below (by omega), dg_below h]
  · subst h
    rw [if_pos rfl, eR, dg_below (by omega), dg_of hl]; omega
  · obtain ⟨k, rfl⟩ : ∃ k, j = i + 1 + k := ⟨j - (i + 1), by omega⟩
    have hb : low N i + 65536 ^ i * (dg N i - y) < 65536 ^ (i + 1) := by
      have := Nat.mul_le_mul_left (65536 ^ i) (show dg N i - y ≤ 65535 by omega)
      rw [Nat.pow_succ]; omega
    rw [if_neg (by omega), eR, dg_above, Nat.div_eq_of_lt hb, Nat.zero_add, dg_add]
/-- A round with a borrow from digit k. -/
theorem sub_borrow {N R p i y k : Nat} (hp : p = 65536 ^ i) (hN : N = R + p * y) (hyb : y < 65536) (hy : dg N i < y)
    (hik : i < k) (hz : ∀ s, i < s → s < k → dg N s = 0) (hk : dg N k ≠ 0) (j : Nat) :
    dg R j = if j < i then dg N j else if j = i then dg N i + 65536 - y else if j < k then 65535 else if j = k then dg N k - 1 else dg N j := by
  subst hp
  have e := split_low N (i + 1)
  rw [low_succ] at e
  have hl := low_lt N i
  obtain ⟨q, hq⟩ : ∃ q, q = N / 65536 ^ (i + 1) := ⟨_, rfl⟩
  rw [← hq] at e
  have hqd : ∀ s, dg N (i + 1 + s) = dg q s := fun s => by rw [dg_add, hq]
  obtain ⟨k', rfl⟩ : ∃ k', k = i + 1 + k' := ⟨k - (i + 1), by omega⟩
  have hdec := dec_digit k' q
  have hz' : ∀ s, s < k' → dg q s = 0 := fun s hs => by rw [← hqd]; exact hz _ (by omega) (by omega)
  rw [hqd] at hk ⊢
  have hqpos : q ≠ 0 := by rintro rfl; simp [dg] at hk
  have eR : R = (low N i + 65536 ^ i * (dg N i + 65536 - y)) + 65536 ^ (i + 1) * (q - 1) := by
    have h1 : 65536 ^ (i + 1) * q = 65536 ^ (i + 1) * (q - 1) + 65536 ^ i * 65536 := by
      rw [← Nat.pow_succ]
      conv => lhs; rw [show q = q - 1 + 1 by omega]
      rw [Nat.mul_add, Nat.mul_one]
    have h2 : 65536 ^ i * dg N i + 65536 ^ i * 65536 = 65536 ^ i * (dg N i + 65536 - y) + 65536 ^ i * y := by
      rw [← Nat.mul_add, ← Nat.mul_add]; congr 1; omega
    omega
  have hb : low N i + 65536 ^ i * (dg N i + 65536 - y) < 65536 ^ (i + 1) := by
    have := Nat.mul_le_mul_left (65536 ^ i) (show dg N i + 65536 - y ≤ 65535 by omega)
    rw [Nat.pow_succ]; omega
  rcases Nat.lt_trichotomy j i with h | h | h
  · rw [if_pos h, eR, dg_below (by omega), dg_below h]
    conv => rhs; rw [e]
    rw [Nat.add_comm, dg_below (by omega), dg_below h]
  · subst h
    rw [if_neg (by omega), if_pos rfl, eR, dg_below (by omega), dg_of hl]; omega
  · obtain ⟨s, rfl⟩ : ∃ s, j = i + 1 + s := ⟨j - (i + 1), by omega⟩
    rw [if_neg (by omega), if_neg (by omega), eR, dg_above, Nat.div_eq_of_lt hb, Nat.zero_add, hdec s hz' hk, hqd]
    simp only [Nat.add_lt_add_iff_left, Nat.add_left_cancel_iff]
/-- Where a borrow is wanted there is a digit to borrow from. -/
theorem sub_exists {N R i y : Nat} (hN : N = R + 65536 ^ i * y) (hy : dg N i < y) (hb : N < 65536 ^ 17) (k : Nat) (hz : ∀ s, i < s → s < k → dg N s = 0) : k < 17 := by
  apply Nat.lt_of_not_le; intro hk17
  have : N / 65536 ^ (i + 1) = 0 := by
    have hlt : N / 65536 ^ (i + 1) < 65536 ^ 17 := Nat.lt_of_le_of_lt (Nat.div_le_self _ _) hb
    apply eq_of_dg 17 hlt (by simp)
    intro s _
    rw [← dg_add, show dg 0 s = 0 by simp [dg]]
    rcases Nat.lt_or_ge (i + 1 + s) k with h | h
    · exact hz _ (by omega) h
    · exact dg_high hb (by omega)
  have e := split_low N (i + 1)
  rw [low_succ, this, Nat.mul_zero, Nat.zero_add] at e
  have hl := low_lt N i
  have := Nat.mul_le_mul_left (65536 ^ i) (show dg N i + 1 ≤ y by omega)
  rw [Nat.mul_add] at this; omega

/-! Comparing. -/
theorem less_digit {n m i : Nat} (hn : n < 65536 ^ 17) (hm : m < 65536 ^ 17) (he : ∀ j, i < j → j < 17 → dg n j = dg m j) (hd : dg n i ≠ dg m i) :
    n < m ↔ dg n i < dg m i := by
  have hq : n / 65536 ^ (i + 1) = m / 65536 ^ (i + 1) := by
    apply eq_of_dg 17 (Nat.lt_of_le_of_lt (Nat.div_le_self _ _) hn) (Nat.lt_of_le_of_lt (Nat.div_le_self _ _) hm)
    intro s _
    rw [← dg_add, ← dg_add]
    rcases Nat.lt_or_ge (i + 1 + s) 17 with h | h
    · exact he _ (by omega) h
    · rw [dg_high hn h, dg_high hm h]
  have e1 := split_low n (i + 1); have e2 := split_low m (i + 1)
  rw [low_succ] at e1 e2
  rw [hq] at e1
  have l1 := low_lt n i; have l2 := low_lt m i
  have key : ∀ a b : Nat, a < b → 65536 ^ i * a + 65536 ^ i ≤ 65536 ^ i * b := fun a b h => by
    have := Nat.mul_le_mul_left (65536 ^ i) (show a + 1 ≤ b by omega)
    rwa [Nat.mul_add, Nat.mul_one] at this
  constructor
  · intro h
    apply Nat.lt_of_not_le; intro h3
    have := key _ _ (Nat.lt_of_le_of_ne h3 (Ne.symm hd)); omega
  · intro h
    have := key _ _ h; omega
theorem eq_of_all {n m : Nat} (hn : n < 65536 ^ 17) (hm : m < 65536 ^ 17) (he : ∀ j, j < 17 → dg n j = dg m j) : n = m := eq_of_dg 17 hn hm he
/-- The quotient of absolute values, with the sign. -/
theorem ratioQ_nearest (a b c : Int) (neg : Bool) (hn : neg = ((decide (a < 0) != decide (b < 0)) != decide (c < 0))) :
    ratioQ a b c = nearest (if neg then -((a.natAbs * b.natAbs : Nat) : Int) else ((a.natAbs * b.natAbs : Nat) : Int)) (c.natAbs : Nat) := by
  unfold ratioQ
  subst hn
  have eA : (a.natAbs : Int) = if a < 0 then -a else a := by split <;> omega
  have eB : (b.natAbs : Int) = if b < 0 then -b else b := by split <;> omega
  have eC : (c.natAbs : Int) = if c < 0 then -c else c := by split <;> omega
  rw [Int.natCast_mul, eA, eB, eC]
  by_cases ha0 : a < 0 <;> by_cases hb0 : b < 0 <;> by_cases hc0 : c < 0 <;> simp [ha0, hb0, hc0, Int.neg_mul, Int.mul_neg]
end Go.Proofs.Ythkklhfnmodpnaa.PM
