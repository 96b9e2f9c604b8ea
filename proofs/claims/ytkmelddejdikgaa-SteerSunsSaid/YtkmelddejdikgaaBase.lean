/-
  Plain arithmetic for the layers fixed, vectors, quats and magnet: nearest integers, floors of square roots, digits to the base 65536. No program in sight. Small laws on blocks of memory that hold a whole array, and the digits of a number as such an array. No function of the program is walked here. A law on a statement whose order of evaluation is open. An operation that gives one value, and only makes memory, in whatever world that has come of the present one by making memory, may be taken first (the library's laws of this kind ask that the world stays as it is, or are for loads alone). Other operations (alloc) are branched over; a forced tail (stores) is walked as it stands. No function of the program is walked here. A second law on a statement whose order of evaluation is open: one of its operations may write to memory that was there. Each of the others gives one value: either in whatever world (then it may come before the writing or behind it), or in whatever world that has come of the present one by making memory (then the writing has to wait for it). Others' operations of Det.lean are used. More ways on in a statement whose order of evaluation is open: two operations, or one, that make memory. Ways on in a statement whose order of evaluation is open, for operations under a guard ('&&'). A law on a statement whose order of evaluation is open and that writes more than once: an operation that gives one value, whatever was written at or above a bound, may be taken first; of the writes is kept what memory holds, by which of them have come up. No function of the program is walked here. Slice literals of integers in a statement whose order stands: the world behind is any in which the block is new. A law on a statement whose order of evaluation is open: operations that make memory, and calls, come up in whatever order; of each one is kept what it gives, and what it gives stays so. No order is branched over. No function of the program is walked here. A component of an array that is held by value. A store of a whole array, as one operation of a statement whose order of evaluation is open.
-/
import Derived.Test.YtkmelddejdikgaaProg
import Derived.WalkKit
import Derived.WalkSpells
import Derived.WalkLawsBesides
import Derived.Handy
import Derived.Deep.QuietTactic
import Derived.BigQuiet
import Derived.Lib.Hide
import Derived.ChangeKeysEq
import Derived.Deep.RegionHeld3
import Derived.StillTail
import Derived.Great.BuildSlice
set_option linter.unusedSimpArgs false
set_option linter.unusedVariables false
namespace Go.Proofs.Ytkmelddejdikgaa
theorem sIT {α : Type _} (l : List α) (i : Nat) (a : α) : l.toArray.setIfInBounds i a = (l.set i a).toArray := List.setIfInBounds_toArray ..
theorem sCZ {α : Type _} {x : α} {xs : List α} {a : α} : (x :: xs).set 0 a = a :: xs := rfl
theorem sCS {α : Type _} {x : α} {xs : List α} {n : Nat} {a : α} : (x :: xs).set (n + 1) a = x :: xs.set n a := rfl
theorem gCZ {α : Type _} {x : α} {xs : List α} {d : α} : (x :: xs).getD 0 d = x := rfl
theorem gCS {α : Type _} {x : α} {xs : List α} {n : Nat} {d : α} : (x :: xs).getD (n + 1) d = xs.getD n d := rfl
end Go.Proofs.Ytkmelddejdikgaa
namespace Go.Proofs.Ytkmelddejdikgaa.PM
def nearest (n d : Int) : Int := (2 * n + d) / (2 * d)
def ratioQ (a b c : Int) : Int := if c < 0 then nearest (-(a * b)) (-c) else nearest (a * b) c
def inI (q : Int) : Bool := decide (-9223372036854775808 ≤ q) && decide (q ≤ 9223372036854775807)
def fitV (q : Int) : Int := if inI q then q else 0
def fitE (q : Int) : Int := if inI q then 0 else 7
def ratioV (a b c : Int) : Int := if c = 0 then 0 else fitV (ratioQ a b c)
def ratioE (a b c : Int) : Int := if c = 0 then 2 else fitE (ratioQ a b c)
def rnd (n : Int) : Int := (n + 536870912) / 1073741824
theorem ediv_unique {n d q : Int} (h1 : d * q ≤ n) (h2 : n < d * q + d) (hd : 0 < d) : n / d = q := by
  have a := Int.mul_ediv_add_emod n d
  have b := Int.emod_nonneg n (Int.ne_of_gt hd)
  have c := Int.emod_lt_of_pos n hd
  have e : d * (n / d) = d * q + (n - n % d - d * q) := by omega
  rcases Int.lt_trichotomy (n / d) q with h | h | h
  · have := Int.mul_le_mul_of_nonneg_left (show n / d + 1 ≤ q by omega) (Int.le_of_lt hd)
    rw [Int.mul_add] at this; omega
  · exact h
  · have := Int.mul_le_mul_of_nonneg_left (show q + 1 ≤ n / d by omega) (Int.le_of_lt hd)
    rw [Int.mul_add] at this; omega
theorem nearest_pos (c q r : Int) (hc : 0 < c) (h0 : 0 ≤ r) (h1 : r < c) :
    nearest (c * q + r) c = if c ≤ 2 * r then q + 1 else q := by
  unfold nearest
  split
  · apply ediv_unique
    · grind
    · grind
    · omega
  · apply ediv_unique
    · grind
    · grind
    · omega
theorem nearest_neg (c q r : Int) (hc : 0 < c) (h0 : 0 ≤ r) (h1 : r < c) :
    nearest (-(c * q + r)) c = if c < 2 * r then -(q + 1) else -q := by
  unfold nearest
  split
  · apply ediv_unique
    · grind
    · grind
    · omega
  · apply ediv_unique
    · grind
    · grind
    · omega
theorem ratioQ_of {a b c A B C q r : Int} (neg : Bool) (hC : 0 < C) (ha : A = a ∨ A = -a) (hb : B = b ∨ B = -b) (hc : C = c ∨ C = -c)
    (h0 : 0 ≤ A) (h1 : 0 ≤ B) (hq : A * B = C * q + r) (hr0 : 0 ≤ r) (hr1 : r < C)
    (hn : neg = ((decide (a < 0) != decide (b < 0)) != decide (c < 0))) :
    ratioQ a b c = (if neg then -(q + if C < 2 * r then 1 else 0) else q + if C ≤ 2 * r then 1 else 0) := by
  have key : ratioQ a b c = if neg then nearest (-(A * B)) C else nearest (A * B) C := by
    unfold ratioQ
    subst hn
    by_cases ha0 : a < 0 <;> by_cases hb0 : b < 0 <;> by_cases hc0 : c < 0 <;> simp only [ha0, hb0, hc0, decide_true, decide_false, bne_self_eq_false, if_true, if_false, Bool.false_eq_true, Bool.true_bne, Bool.false_bne, Bool.bne_true, Bool.bne_false, Bool.not_true, Bool.not_false]
    all_goals
      have eA : A = if a < 0 then -a else a := by split <;> omega
      have eB : B = if b < 0 then -b else b := by split <;> omega
      have eC : C = if c < 0 then -c else c := by split <;> omega
      simp only [ha0, hb0, hc0, if_true, if_false] at eA eB eC
      rw [eA, eB, eC]
      try simp only [Int.neg_mul, Int.mul_neg, Int.neg_neg]
  rw [key, hq]
  cases neg
  · simp only [Bool.false_eq_true, if_false]; rw [nearest_pos C q r hC hr0 hr1]; split <;> omega
  · simp only [if_true]; rw [nearest_neg C q r hC hr0 hr1]; split <;> omega
/-! ### The division of two words by one (bits.Div64): plain numbers. V = V1 2^32 + V0 is the divisor, shifted so that V1 is at least 2^31. -/
theorem div_test {V1 V0 n u q r : Nat} (h : n = q * V1 + r) :
    (4294967296 * r + u < q * V0) ↔ (n * 4294967296 + u < q * (V1 * 4294967296 + V0)) := by
  subst h; grind
theorem div_big {V1 V0 n u q r : Nat} (h : n = q * V1 + r) (ht : 4294967296 * r + u < q * V0) :
    (n * 4294967296 + u) / (V1 * 4294967296 + V0) < q := by
  have := (div_test (u := u) (V0 := V0) h).1 ht
  exact (Nat.div_lt_iff_lt_mul (by grind)).2 this
theorem div_le {V1 V0 n u q r : Nat} (hV : 0 < V1) (h : n = q * V1 + r) (ht : ¬ 4294967296 * r + u < q * V0) :
    q ≤ (n * 4294967296 + u) / (V1 * 4294967296 + V0) := by
  have := mt (div_test (u := u) (V0 := V0) h).2 ht
  exact (Nat.le_div_iff_mul_le (by omega)).2 (by omega)
theorem div_guess {V1 V0 n u : Nat} (hV : 0 < V1) (hu : u < 4294967296) :
    (n * 4294967296 + u) / (V1 * 4294967296 + V0) ≤ n / V1 := by
  have h1 := Nat.div_add_mod n V1
  have h2 := Nat.mod_lt n hV
  apply Nat.le_of_lt_succ
  rw [Nat.div_lt_iff_lt_mul (by omega)]
  generalize n / V1 = q at *; generalize n % V1 = r at *
  subst h1
  have : (V1 * q + r + 1) * 4294967296 ≤ (V1 * q + V1) * 4294967296 := Nat.mul_le_mul_right _ (by omega)
  grind
theorem div_guess_le {V1 V0 n : Nat} (hV : 2147483648 ≤ V1) (h0 : V0 < 4294967296) (hn : n < V1 * 4294967296 + V0) : n / V1 ≤ 4294967297 := by
  apply Nat.le_of_lt_succ
  rw [Nat.div_lt_iff_lt_mul (by omega)]
  omega
theorem div_digit_lt {V1 V0 n u : Nat} (hu : u < 4294967296) (hn : n < V1 * 4294967296 + V0) :
    (n * 4294967296 + u) / (V1 * 4294967296 + V0) < 4294967296 := by
  rw [Nat.div_lt_iff_lt_mul (by omega)]; omega
theorem div_two {V n u1 u0 : Nat} (hV : 0 < V) :
    (n * 18446744073709551616 + (u1 * 4294967296 + u0)) / V = (n * 4294967296 + u1) / V * 4294967296 + ((n * 4294967296 + u1) % V * 4294967296 + u0) / V ∧
    (n * 18446744073709551616 + (u1 * 4294967296 + u0)) % V = ((n * 4294967296 + u1) % V * 4294967296 + u0) % V := by
  obtain ⟨m, hm⟩ : ∃ m, m = n * 4294967296 + u1 := ⟨_, rfl⟩
  have h1 := Nat.div_add_mod m V
  obtain ⟨q, hq⟩ : ∃ q, q = m / V := ⟨_, rfl⟩
  obtain ⟨r, hr⟩ : ∃ r, r = m % V := ⟨_, rfl⟩
  rw [← hm, ← hq, ← hr]
  rw [← hq, ← hr] at h1
  have e : n * 18446744073709551616 + (u1 * 4294967296 + u0) = (r * 4294967296 + u0) + V * (q * 4294967296) := by grind
  rw [e, Nat.add_mul_div_left _ _ hV, Nat.add_mul_mod_self_left]
  exact ⟨by omega, rfl⟩
theorem div_shift {N y k : Nat} (hk : 0 < k) : N * k / (y * k) = N / y ∧ N * k % (y * k) / k = N % y := by
  refine ⟨Nat.mul_div_mul_right _ _ hk, ?_⟩
  rw [Nat.mul_mod_mul_right, Nat.mul_div_cancel _ hk]
/-! ### The floor of a square root -/
def isqrtAux : Nat → Nat → Nat
  | 0, _ => 0
  | f + 1, n => if (2 * isqrtAux f (n / 4) + 1) * (2 * isqrtAux f (n / 4) + 1) ≤ n then 2 * isqrtAux f (n / 4) + 1 else 2 * isqrtAux f (n / 4)
def isqrt (n : Nat) : Nat := isqrtAux 200 n
theorem isqrtAux_spec : ∀ (f n : Nat), n < 4 ^ f → isqrtAux f n * isqrtAux f n ≤ n ∧ n < (isqrtAux f n + 1) * (isqrtAux f n + 1)
  | 0, n, h => by simp [isqrtAux]; simp at h; omega
  | f + 1, n, h => by
    have ih := isqrtAux_spec f (n / 4) (by rw [Nat.pow_succ] at h; omega)
    unfold isqrtAux
    generalize isqrtAux f (n / 4) = r at *
    obtain ⟨h1, h2⟩ := ih
    generalize hm : n / 4 = m at *
    have e1 : 4 * m ≤ n := by omega
    have e2 : n < 4 * m + 4 := by omega
    have e3 : m + 1 ≤ (r + 1) * (r + 1) := h2
    split
    · refine ⟨by assumption, ?_⟩
      have : (2 * r + 1 + 1) * (2 * r + 1 + 1) = 4 * ((r + 1) * (r + 1)) := by grind
      omega
    · refine ⟨?_, by omega⟩
      have : 2 * r * (2 * r) = 4 * (r * r) := by grind
      omega
theorem isqrt_spec {n : Nat} (h : n < 4 ^ 200) : isqrt n * isqrt n ≤ n ∧ n < (isqrt n + 1) * (isqrt n + 1) := isqrtAux_spec 200 n h
theorem sq_lt_of {a b : Nat} (h : a * a < b * b) : a < b := by
  apply Nat.lt_of_not_le; intro h2
  have := Nat.mul_le_mul h2 h2; omega
theorem isqrt_eq {n r : Nat} (h : n < 4 ^ 200) (h1 : r * r ≤ n) (h2 : n < (r + 1) * (r + 1)) : isqrt n = r := by
  obtain ⟨a, b⟩ := isqrt_spec h
  have x := sq_lt_of (Nat.lt_of_le_of_lt a h2)
  have y := sq_lt_of (Nat.lt_of_le_of_lt h1 b)
  omega
theorem isqrt_lt {n k : Nat} (h : n < 4 ^ 200) : isqrt n < k ↔ n < k * k := by
  obtain ⟨a, b⟩ := isqrt_spec h
  constructor
  · intro hk
    exact Nat.lt_of_lt_of_le b (Nat.mul_le_mul hk hk)
  · intro hk
    exact sq_lt_of (Nat.lt_of_le_of_lt a hk)
theorem isqrt_ge {n k : Nat} (h : n < 4 ^ 200) : k ≤ isqrt n ↔ k * k ≤ n := by
  have := isqrt_lt (k := k) h; omega
/-! ### Digits to the base 65536 -/
def dg (n i : Nat) : Nat := n / 65536 ^ i % 65536
theorem dg_lt (n i : Nat) : dg n i < 65536 := Nat.mod_lt _ (by omega)
def low (n i : Nat) : Nat := n % 65536 ^ i
theorem low_zero (n : Nat) : low n 0 = 0 := by simp [low, Nat.mod_one]
theorem low_succ (n i : Nat) : low n (i + 1) = low n i + 65536 ^ i * dg n i := by
  unfold low dg; rw [Nat.mod_pow_succ]
theorem low_lt (n i : Nat) : low n i < 65536 ^ i := Nat.mod_lt _ (Nat.pos_of_ne_zero (by simp))
theorem low_all {n i : Nat} (h : n < 65536 ^ i) : low n i = n := Nat.mod_eq_of_lt h
theorem pow_pos' (i : Nat) : 0 < 65536 ^ i := Nat.pos_of_ne_zero (by simp)
theorem split_low (n i : Nat) : n = 65536 ^ i * (n / 65536 ^ i) + low n i := (Nat.div_add_mod n (65536 ^ i)).symm
theorem eq_of_dg {n m : Nat} (k : Nat) (hn : n < 65536 ^ k) (hm : m < 65536 ^ k) (h : ∀ i, i < k → dg n i = dg m i) : n = m := by
  have : ∀ i, i ≤ k → low n i = low m i := by
    intro i
    induction i with
    | zero => intro _; rw [low_zero, low_zero]
    | succ i ih => intro hi; rw [low_succ, low_succ, ih (by omega), h i (by omega)]
  have := this k (Nat.le_refl _)
  rwa [low_all hn, low_all hm] at this
def carry (n m i : Nat) : Nat := (low n i + low m i) / 65536 ^ i
theorem carry_zero (n m : Nat) : carry n m 0 = 0 := by simp [carry, low_zero]
theorem carry_le (n m i : Nat) : carry n m i ≤ 1 := by
  unfold carry
  have := low_lt n i; have := low_lt m i
  apply Nat.le_of_lt_succ
  rw [Nat.div_lt_iff_lt_mul (pow_pos' i)]; omega
theorem add_digit (n m i : Nat) : (carry n m i + dg n i + dg m i) % 65536 = dg (n + m) i := by
  unfold dg carry
  have e : (n + m) / 65536 ^ i = n / 65536 ^ i + m / 65536 ^ i + (low n i + low m i) / 65536 ^ i := by
    conv => lhs; rw [split_low n i, split_low m i]
    rw [show 65536 ^ i * (n / 65536 ^ i) + low n i + (65536 ^ i * (m / 65536 ^ i) + low m i) = (low n i + low m i) + 65536 ^ i * (n / 65536 ^ i + m / 65536 ^ i) by grind]
    rw [Nat.add_mul_div_left _ _ (pow_pos' i)]; omega
  rw [e]; omega
theorem add_carry (n m i : Nat) : (carry n m i + dg n i + dg m i) / 65536 = carry n m (i + 1) := by
  unfold carry
  rw [low_succ, low_succ, Nat.pow_succ, ← Nat.div_div_eq_div_mul]
  rw [show low n i + 65536 ^ i * dg n i + (low m i + 65536 ^ i * dg m i) = (low n i + low m i) + 65536 ^ i * (dg n i + dg m i) by grind]
  rw [Nat.add_mul_div_left _ _ (pow_pos' i)]
  congr 1; omega
theorem dg_of {r i x : Nat} (hr : r < 65536 ^ i) : dg (r + 65536 ^ i * x) i = x % 65536 := by
  unfold dg
  rw [Nat.add_mul_div_left _ _ (pow_pos' i), Nat.div_eq_of_lt hr, Nat.zero_add]
theorem dg_zero (n : Nat) : dg n 0 = n % 65536 := by simp [dg]
theorem dg_succ (n i : Nat) : dg n (i + 1) = dg (n / 65536) i := by
  unfold dg
  rw [Nat.pow_succ, Nat.mul_comm, ← Nat.div_div_eq_div_mul]
theorem dg_high {n i k : Nat} (h : n < 65536 ^ k) (hi : k ≤ i) : dg n i = 0 := by
  unfold dg
  rw [Nat.div_eq_of_lt (Nat.lt_of_lt_of_le h (Nat.pow_le_pow_right (by omega) hi))]
/-! Half. -/
theorem half_digit (n i : Nat) : (dg n i + dg n (i + 1) % 2 * 65536) / 2 = dg (n / 2) i := by
  unfold dg
  have e : n / 2 / 65536 ^ i = n / 65536 ^ i / 2 := by rw [Nat.div_div_eq_div_mul, Nat.mul_comm 2, ← Nat.div_div_eq_div_mul]
  rw [Nat.pow_succ, ← Nat.div_div_eq_div_mul, e]
  omega
/-! Sums with a factor (long multiplication). -/
def carryM (n d m i : Nat) : Nat := (low n i + d * low m i) / 65536 ^ i
theorem carryM_zero (n d m : Nat) : carryM n d m 0 = 0 := by simp [carryM, low_zero]
theorem carryM_le (n d m i : Nat) : carryM n d m i ≤ d := by
  unfold carryM
  have h1 := low_lt n i; have h2 := low_lt m i
  apply Nat.le_of_lt_succ
  rw [Nat.div_lt_iff_lt_mul (pow_pos' i)]
  have := Nat.mul_le_mul_left d (Nat.le_of_lt h2)
  rw [Nat.succ_mul]; omega
theorem mul_digit (n d m i : Nat) : (carryM n d m i + dg n i + d * dg m i) % 65536 = dg (n + d * m) i := by
  unfold dg carryM
  have e : (n + d * m) / 65536 ^ i = n / 65536 ^ i + d * (m / 65536 ^ i) + (low n i + d * low m i) / 65536 ^ i := by
    conv => lhs; rw [split_low n i, split_low m i]
    rw [show 65536 ^ i * (n / 65536 ^ i) + low n i + d * (65536 ^ i * (m / 65536 ^ i) + low m i) = (low n i + d * low m i) + 65536 ^ i * (n / 65536 ^ i + d * (m / 65536 ^ i)) by grind]
    rw [Nat.add_mul_div_left _ _ (pow_pos' i)]; omega
  rw [e]
  have hm := Nat.div_add_mod (m / 65536 ^ i) 65536
  generalize m / 65536 ^ i = y at *
  have : d * y = d * (y % 65536) + 65536 * (d * (y / 65536)) := by
    conv => lhs; rw [← hm, Nat.mul_add, Nat.mul_left_comm, Nat.add_comm]
  omega
theorem mul_carry (n d m i : Nat) : (carryM n d m i + dg n i + d * dg m i) / 65536 = carryM n d m (i + 1) := by
  unfold carryM
  rw [low_succ, low_succ, Nat.pow_succ, ← Nat.div_div_eq_div_mul]
  rw [show low n i + 65536 ^ i * dg n i + d * (low m i + 65536 ^ i * dg m i) = (low n i + d * low m i) + 65536 ^ i * (dg n i + d * dg m i) by grind]
  rw [Nat.add_mul_div_left _ _ (pow_pos' i)]
  congr 1; omega
theorem dg_add (n k j : Nat) : dg n (k + j) = dg (n / 65536 ^ k) j := by
  unfold dg
  rw [Nat.pow_add, Nat.div_div_eq_div_mul]
theorem dg_below {n x i j : Nat} (h : j < i) : dg (n + 65536 ^ i * x) j = dg n j := by
  unfold dg
  obtain ⟨d, rfl⟩ : ∃ d, i = j + 1 + d := ⟨i - (j + 1), by omega⟩
  rw [show 65536 ^ (j + 1 + d) * x = 65536 ^ j * (65536 * (65536 ^ d * x)) by rw [Nat.pow_add, Nat.pow_succ]; grind]
  rw [Nat.add_mul_div_left _ _ (pow_pos' j)]; omega
theorem dg_above {n x i j : Nat} : dg (n + 65536 ^ i * x) (i + j) = dg (n / 65536 ^ i + x) j := by
  rw [dg_add, Nat.add_mul_div_left _ _ (pow_pos' i)]
theorem mul_round (n m i : Nat) : low n (i + 1) * m = low n i * m + 65536 ^ i * (dg n i * m) := by
  rw [low_succ]; grind
theorem mul_part_lt {n m i : Nat} : low n i * m / 65536 ^ i ≤ m := by
  apply Nat.div_le_of_le_mul
  exact Nat.mul_le_mul_right _ (Nat.le_of_lt (low_lt n i))
theorem mul_inner (n m i k : Nat) : dg (low n (i + 1) * m) (i + k) = dg (low n i * m / 65536 ^ i + dg n i * m) k := by
  rw [mul_round, dg_above]
theorem mul_lower {n m i j : Nat} (h : j < i) : dg (low n (i + 1) * m) j = dg (low n i * m) j := by
  rw [mul_round, dg_below h]
theorem mul_upper {n m i j : Nat} (hm : m < 65536 ^ 8) (h : i + 9 ≤ j) : dg (low n (i + 1) * m) j = dg (low n i * m) j := by
  obtain ⟨k, rfl⟩ : ∃ k, j = i + k := ⟨j - i, by omega⟩
  have h1 : low n i * m / 65536 ^ i ≤ m := mul_part_lt
  have h2 : dg n i * m ≤ 65535 * m := Nat.mul_le_mul_right _ (by have := dg_lt n i; omega)
  rw [mul_inner, dg_add, dg_high (k := 9) (by omega) (by omega), dg_high (k := 9) (by omega) (by omega)]
/-! Differences. -/
theorem dec_digit : ∀ (k h t : Nat), (∀ s, s < k → dg h s = 0) → dg h k ≠ 0 →
    dg (h - 1) t = if t < k then 65535 else if t = k then dg h k - 1 else dg h t
  | 0, h, t, _, hk => by
    rw [dg_zero] at hk
    cases t with
    | zero => simp only [dg_zero, Nat.lt_irrefl, if_true, if_false]; omega
    | succ t =>
      rw [if_neg (by omega), if_neg (by omega), dg_succ, dg_succ]
      congr 1; omega
  | k + 1, h, t, hz, hk => by
    have h0 := hz 0 (by omega)
    rw [dg_zero] at h0
    rw [dg_succ] at hk
    have ih := dec_digit k (h / 65536)
    have hpos : h ≠ 0 := by rintro rfl; simp [dg] at hk
    have e : (h - 1) / 65536 = h / 65536 - 1 := by omega
    cases t with
    | zero => rw [if_pos (by omega), dg_zero]; omega
    | succ t =>
      rw [dg_succ, e, ih t (fun s hs => by rw [← dg_succ]; exact hz (s + 1) (by omega)) hk]
      simp only [dg_succ, Nat.add_lt_add_iff_right, Nat.add_right_cancel_iff]
def subN (n m i : Nat) : Nat := n - low m i
theorem subN_zero (n m : Nat) : subN n m 0 = n := by simp [subN, low_zero]
theorem low_le_self (m i : Nat) : low m i ≤ m := Nat.mod_le _ _
theorem subN_round {n m i : Nat} (h : m ≤ n) : subN n m i = subN n m (i + 1) + 65536 ^ i * dg m i := by
  have := low_le_self m (i + 1)
  unfold subN; rw [low_succ] at *; omega
theorem sub_plain {N R p i y : Nat} (hp : p = 65536 ^ i) (hN : N = R + p * y) (hy : y ≤ dg N i) (j : Nat) :
    dg R j = if j = i then dg N i - y else dg N j := by
  subst hp
  have e := split_low N (i + 1)
  rw [low_succ] at e
  have hz := dg_lt N i
  have hl := low_lt N i
  have eR : R = (low N i + 65536 ^ i * (dg N i - y)) + 65536 ^ (i + 1) * (N / 65536 ^ (i + 1)) := by
    have : 65536 ^ i * dg N i = 65536 ^ i * (dg N i - y) + 65536 ^ i * y := by rw [← Nat.mul_add]; congr 1; omega
    omega
  rcases Nat.lt_trichotomy j i with h | h | h
  · rw [if_neg (by omega), eR, dg_below (by omega), dg_below h]
    conv => rhs; rw [e]
    rw [Nat.add_comm, dg_below (by omega), dg_below h]
  · subst h
    rw [if_pos rfl, eR, dg_below (by omega), dg_of hl]; omega
  · obtain ⟨k, rfl⟩ : ∃ k, j = i + 1 + k := ⟨j - (i + 1), by omega⟩
    have hb : low N i + 65536 ^ i * (dg N i - y) < 65536 ^ (i + 1) := by
      have := Nat.mul_le_mul_left (65536 ^ i) (show dg N i - y ≤ 65535 by omega)
      rw [Nat.pow_succ]; omega
    rw [if_neg (by omega), eR, dg_above, Nat.div_eq_of_lt hb, Nat.zero_add, dg_add]
theorem sub_borrow {N R p i y k : Nat} (hp : p = 65536 ^ i) (hN : N = R + p * y) (hyb : y < 65536) (hy : dg N i < y)
    (hik : i < k) (hz : ∀ s, i < s → s < k → dg N s = 0) (hk : dg N k ≠ 0) (j : Nat) :
    dg R j = if j < i then dg N j else if j = i then dg N i + 65536 - y else if j < k then 65535 else if j = k then dg N k - 1 else dg N j := by
  subst hp
  have e := split_low N (i + 1)
  rw [low_succ] at e
  have hl := low_lt N i
  obtain ⟨q, hq⟩ : ∃ q, q = N / 65536 ^ (i + 1) := ⟨_, rfl⟩
  rw [← hq] at e
  have hqd : ∀ s, dg N (i + 1 + s) = dg q s := fun s => by rw [dg_add, hq]
  obtain ⟨k', rfl⟩ : ∃ k', k = i + 1 + k' := ⟨k - (i + 1), by omega⟩
  have hdec := dec_digit k' q
  have hz' : ∀ s, s < k' → dg q s = 0 := fun s hs => by rw [← hqd]; exact hz _ (by omega) (by omega)
  rw [hqd] at hk ⊢
  have hqpos : q ≠ 0 := by rintro rfl; simp [dg] at hk
  have eR : R = (low N i + 65536 ^ i * (dg N i + 65536 - y)) + 65536 ^ (i + 1) * (q - 1) := by
    have h1 : 65536 ^ (i + 1) * q = 65536 ^ (i + 1) * (q - 1) + 65536 ^ i * 65536 := by
      rw [← Nat.pow_succ]
      conv => lhs; rw [show q = q - 1 + 1 by omega]
      rw [Nat.mul_add, Nat.mul_one]
    have h2 : 65536 ^ i * dg N i + 65536 ^ i * 65536 = 65536 ^ i * (dg N i + 65536 - y) + 65536 ^ i * y := by
      rw [← Nat.mul_add, ← Nat.mul_add]; congr 1; omega
    omega
  have hb : low N i + 65536 ^ i * (dg N i + 65536 - y) < 65536 ^ (i + 1) := by
    have := Nat.mul_le_mul_left (65536 ^ i) (show dg N i + 65536 - y ≤ 65535 by omega)
    rw [Nat.pow_succ]; omega
  rcases Nat.lt_trichotomy j i with h | h | h
  · rw [if_pos h, eR, dg_below (by omega), dg_below h]
    conv => rhs; rw [e]
    rw [Nat.add_comm, dg_below (by omega), dg_below h]
  · subst h
    rw [if_neg (by omega), if_pos rfl, eR, dg_below (by omega), dg_of hl]; omega
  · obtain ⟨s, rfl⟩ : ∃ s, j = i + 1 + s := ⟨j - (i + 1), by omega⟩
    rw [if_neg (by omega), if_neg (by omega), eR, dg_above, Nat.div_eq_of_lt hb, Nat.zero_add, hdec s hz' hk, hqd]
    simp only [Nat.add_lt_add_iff_left, Nat.add_left_cancel_iff]
theorem sub_exists {N R i y : Nat} (hN : N = R + 65536 ^ i * y) (hy : dg N i < y) (hb : N < 65536 ^ 17) (k : Nat) (hz : ∀ s, i < s → s < k → dg N s = 0) : k < 17 := by
  apply Nat.lt_of_not_le; intro hk17
  have : N / 65536 ^ (i + 1) = 0 := by
    have hlt : N / 65536 ^ (i + 1) < 65536 ^ 17 := Nat.lt_of_le_of_lt (Nat.div_le_self _ _) hb
    apply eq_of_dg 17 hlt (by simp)
    intro s _
    rw [← dg_add, show dg 0 s = 0 by simp [dg]]
    rcases Nat.lt_or_ge (i + 1 + s) k with h | h
    · exact hz _ (by omega) h
    · exact dg_high hb (by omega)
  have e := split_low N (i + 1)
  rw [low_succ, this, Nat.mul_zero, Nat.zero_add] at e
  have hl := low_lt N i
  have := Nat.mul_le_mul_left (65536 ^ i) (show dg N i + 1 ≤ y by omega)
  rw [Nat.mul_add] at this; omega
/-! Comparing. -/
theorem less_digit {n m i : Nat} (hn : n < 65536 ^ 17) (hm : m < 65536 ^ 17) (he : ∀ j, i < j → j < 17 → dg n j = dg m j) (hd : dg n i ≠ dg m i) :
    n < m ↔ dg n i < dg m i := by
  have hq : n / 65536 ^ (i + 1) = m / 65536 ^ (i + 1) := by
    apply eq_of_dg 17 (Nat.lt_of_le_of_lt (Nat.div_le_self _ _) hn) (Nat.lt_of_le_of_lt (Nat.div_le_self _ _) hm)
    intro s _
    rw [← dg_add, ← dg_add]
    rcases Nat.lt_or_ge (i + 1 + s) 17 with h | h
    · exact he _ (by omega) h
    · rw [dg_high hn h, dg_high hm h]
  have e1 := split_low n (i + 1); have e2 := split_low m (i + 1)
  rw [low_succ] at e1 e2
  rw [hq] at e1
  have l1 := low_lt n i; have l2 := low_lt m i
  have key : ∀ a b : Nat, a < b → 65536 ^ i * a + 65536 ^ i ≤ 65536 ^ i * b := fun a b h => by
    have := Nat.mul_le_mul_left (65536 ^ i) (show a + 1 ≤ b by omega)
    rwa [Nat.mul_add, Nat.mul_one] at this
  constructor
  · intro h
    apply Nat.lt_of_not_le; intro h3
    have := key _ _ (Nat.lt_of_le_of_ne h3 (Ne.symm hd)); omega
  · intro h
    have := key _ _ h; omega
theorem eq_of_all {n m : Nat} (hn : n < 65536 ^ 17) (hm : m < 65536 ^ 17) (he : ∀ j, j < 17 → dg n j = dg m j) : n = m := eq_of_dg 17 hn hm he
end Go.Proofs.Ytkmelddejdikgaa.PM
namespace Go.Proofs.Ytkmelddejdikgaa
open Go.RowKit
variable {P : Program}
def blk (w : World) (b : Nat) (c : Array Value) (t : TypeId) : Prop := w.heap[b]? = some (.cells c t (0, 0))
theorem blk.lt {w : World} {b : Nat} {c : Array Value} {t : TypeId} (h : blk w b c t) : b < w.heap.size := by
  unfold blk at h
  exact (Array.getElem?_eq_some_iff.1 h).1
theorem blk.new (w : World) (c : Array Value) (t : TypeId) : blk (w.alloc (.cells c t)) w.heap.size c t := heap_alloc_new w _
theorem blk.new' {w : World} {c : Array Value} {t : TypeId} {b : Nat} (h : b = w.heap.size) : blk (w.alloc (.cells c t)) b c t := by subst h; exact heap_alloc_new w _
theorem blk.alloc {w : World} {b : Nat} {c : Array Value} {t : TypeId} (h : blk w b c t) (o : Obj) : blk (w.alloc o) b c t := by
  have := h.lt
  unfold blk at *
  rw [Below.heap_alloc _ _ _ this]; exact h
theorem blk.drew {w : World} {b : Nat} {c : Array Value} {t : TypeId} (h : blk w b c t) : blk w.drew b c t := h
theorem blk.drewN {w : World} {b : Nat} {c : Array Value} {t : TypeId} (h : blk w b c t) (n : Nat) : blk (w.drewN n) b c t := h
theorem blk.set {w : World} {b : Nat} {c : Array Value} {t : TypeId} (h : blk w b c t) (i : Nat) (v : Value) : blk (w.setCell ⟨b, i, none⟩ v) b (c.setIfInBounds i v) t := heap_setCell_same w b i c t v h
theorem blk.set' {w : World} {b : Nat} {c c' : Array Value} {t : TypeId} (h : blk w b c t) {i : Nat} {v : Value} (hc : c.setIfInBounds i v = c') : blk (w.setCell ⟨b, i, none⟩ v) b c' t := by subst hc; exact h.set i v
theorem blk.setOther {w : World} {b : Nat} {c : Array Value} {t : TypeId} (h : blk w b c t) {a : Addr} (ha : b ≠ a.block) (v : Value) : blk (w.setCell a v) b c t := by
  unfold blk at *
  rw [heap_setCell_other _ _ _ _ ha]; exact h
theorem blk.row {w : World} {b : Nat} {c : Array Value} {t : TypeId} (h : blk w b c t) (c' : Array Value) : blk (w.setRow b c') b c' t := setRow_heap w b c c' t _ h
theorem blk.rowOther {w : World} {b : Nat} {c : Array Value} {t : TypeId} (h : blk w b c t) {g : Nat} (hg : b ≠ g) (c' : Array Value) : blk (w.setRow g c') b c t := by
  unfold blk at *
  rw [setRow_other _ _ _ _ hg]; exact h
theorem blk.cell {w : World} {b : Nat} {c : Array Value} {t : TypeId} (h : blk w b c t) (i : Nat) : w.cell? ⟨b, i, none⟩ = c[i]? := cell_of_row w b i c t _ h
theorem blk.cellIs {w : World} {b : Nat} {c : Array Value} {t : TypeId} (h : blk w b c t) {i : Nat} {v : Value} (hv : c[i]? = some v) : w.cell? ⟨b, i, none⟩ = some v := (h.cell i).trans hv
theorem blk.free {w : World} {b : Nat} {c : Array Value} {t : TypeId} (h : blk w b c t) (i : Nat) : w.frozen? ⟨b, i, none⟩ = false := frozen_of_row w b i c t h
theorem blk.below {w w' : World} {b B : Nat} {c : Array Value} {t : TypeId} (h : blk w b c t) (hb : Below B w w') (hB : b < B) : blk w' b c t := by
  unfold blk at *
  rw [hb.block b hB]; exact h
theorem Below.setRow {B : Nat} {a w : World} (h : Below B a w) {g : Nat} (hB : B ≤ g) (c : Array Value) : Below B a (w.setRow g c) :=
  h.trans ⟨rfl, rfl, rfl, by simp, fun k hk => setRow_other _ _ _ _ (by omega)⟩
theorem wpList_store_row {ops : Array Oper} {rest : List Oper} {o : Oper} {a : Act} {w : World} {Q : Exit → Act → World → Prop} (hgd : o.guard = none) (ty : TypeId) (x y : Operand) (ho : o.op = .store ty x y)
    (g : Nat) (hx : a.eval x = .pointer (some ⟨g, 0, none⟩)) (c' : Array Value) (hy : a.eval y = .agg c') (t : TypeId) (c : Array Value) (hg : blk w g c t)
    (hi : (P.info? ty).map (·.size) = some c'.size) (hs : c.size = c'.size) (h1 : c'.all (·.oneCell') = true)
    (h : wpList P ops Q rest (a.put o.dst undef) (w.setRow g c')) : wpList P ops Q (o :: rest) a w :=
  wpList_plain hgd fun _ hK => by
    unfold Oper.wp execOp
    simp only [ho, hx, hy, Instr.storeAt, Instr.sureAddr, Sem.run_bind, Sem.run_pure, Result.andThen_ok, run_storeVar_row w g t ty c c' hg hi hs h1]
    exact hK _ _ h
def fnC (f : Nat → Nat) : Array Value := ((List.range 17).map fun i => Value.int .u64 (f i : Nat)).toArray
abbrev bigC (n : Nat) : Array Value := fnC (PM.dg n)
theorem fnC_size (f : Nat → Nat) : (fnC f).size = 17 := by simp [fnC]
theorem bigC_size (n : Nat) : (bigC n).size = 17 := fnC_size _
theorem fnC_one (f : Nat → Nat) : (fnC f).all (·.oneCell') = true := by
  simp [fnC, Value.oneCell']
theorem fnC_get (f : Nat → Nat) {i : Nat} (h : i < 17) : (fnC f)[i]? = some (.int .u64 (f i : Nat)) := by
  simp [fnC, List.getElem?_range h]
theorem fnC_congr {f g : Nat → Nat} (h : ∀ i, i < 17 → f i = g i) : fnC f = fnC g := by
  apply Array.ext_getElem?
  intro j
  by_cases hj : j < 17
  · rw [fnC_get _ hj, fnC_get _ hj, h j hj]
  · rw [Array.getElem?_eq_none (by rw [fnC_size]; omega), Array.getElem?_eq_none (by rw [fnC_size]; omega)]
theorem fnC_set {f g : Nat → Nat} {i : Nat} {v : Int} (h : i < 17) (hx : v = (g i : Nat)) (hg : ∀ j, j < 17 → j ≠ i → f j = g j) : (fnC f).setIfInBounds i (.int .u64 v) = fnC g := by
  subst hx
  apply Array.ext_getElem?
  intro j
  rw [Array.getElem?_setIfInBounds, fnC_size]
  by_cases hj : j < 17
  · by_cases e : i = j
    · subst e; rw [if_pos rfl, if_pos h, fnC_get _ h]
    · rw [if_neg e, fnC_get _ hj, fnC_get _ hj, hg j hj (Ne.symm e)]
  · by_cases e : i = j
    · omega
    · rw [if_neg e]
      rw [Array.getElem?_eq_none (by rw [fnC_size]; omega), Array.getElem?_eq_none (by rw [fnC_size]; omega)]
theorem zero_big : fnC (fun _ => 0) = #[.int .u64 0, .int .u64 0, .int .u64 0, .int .u64 0, .int .u64 0, .int .u64 0, .int .u64 0, .int .u64 0, .int .u64 0, .int .u64 0, .int .u64 0, .int .u64 0, .int .u64 0, .int .u64 0, .int .u64 0, .int .u64 0, .int .u64 0] := rfl
theorem bigC_zero : bigC 0 = fnC (fun _ => 0) := fnC_congr fun i _ => by simp [PM.dg]
theorem zero_eq_big : #[Value.int .u64 0, .int .u64 0, .int .u64 0, .int .u64 0, .int .u64 0, .int .u64 0, .int .u64 0, .int .u64 0, .int .u64 0, .int .u64 0, .int .u64 0, .int .u64 0, .int .u64 0, .int .u64 0, .int .u64 0, .int .u64 0, .int .u64 0] = bigC 0 := by rw [bigC_zero]; rfl
theorem ret2I {j k : IntKind} {a b c d : Int} (h1 : a = c) (h2 : b = d) : Ending.returned (.tuple #[.int j a, .int k b]) = Ending.returned (.tuple #[.int j c, .int k d]) := by rw [h1, h2]
theorem fitV_no {q : Int} (h : PM.inI q = false) : PM.fitV q = 0 := by unfold PM.fitV; rw [h]; rfl
theorem fitE_no {q : Int} (h : PM.inI q = false) : PM.fitE q = 7 := by unfold PM.fitE; rw [h]; rfl
theorem fitV_yes {q : Int} (h : PM.inI q = true) : PM.fitV q = q := by unfold PM.fitV; rw [h]; rfl
theorem fitE_yes {q : Int} (h : PM.inI q = true) : PM.fitE q = 0 := by unfold PM.fitE; rw [h]; rfl
def sgn (neg : Bool) (n : Nat) : Int := if neg then -(n : Int) else n
section
variable {P : Program}
theorem run_eqItems_ints {e : TypeId} {k : IntKind} (he : P.underlying e = some (.int k)) (f g : Nat → Int) (xs ys : Array Value) (d : Nat) (w : World) :
    ∀ (l : List Nat), (∀ j ∈ l, xs[j]? = some (.int k (f j))) → (∀ j ∈ l, ys[j]? = some (.int k (g j))) →
    (Op.eqItems (d + 1) e 1 xs ys l).run P w = .ok (l.all fun j => f j == g j) w
  | [], _, _ => by simp [Op.eqItems]
  | j :: l, hx, hy => by
    have px : (part e xs (j * 1)).run P w = .ok (.int k (f j)) w := by
      simp [part, isAgg, run_underlying he, hx j (by simp)]
    have py : (part e ys (j * 1)).run P w = .ok (.int k (g j)) w := by
      simp [part, isAgg, run_underlying he, hy j (by simp)]
    have pe := run_equalIn_int (P := P) w d e k k (f j) (g j) he
    simp only [Op.eqItems, Sem.run_bind, px, py, pe, Result.andThen_ok, List.all_cons]
    cases hb : (f j == g j)
    · simp
    · simpa using run_eqItems_ints he f g xs ys d w l (fun i hi => hx i (by simp [hi])) (fun i hi => hy i (by simp [hi]))
theorem run_equalIn_ints {t e : TypeId} {n : Nat} {k : IntKind} {i : TypeInfo} (hu : P.underlying t = some (.array n e)) (hi : P.info? e = some i) (hc : P.cellsOf e = 1) (he : P.underlying e = some (.int k))
    (f g : Nat → Int) (xs ys : Array Value) (hx : ∀ j, j < n → xs[j]? = some (.int k (f j))) (hy : ∀ j, j < n → ys[j]? = some (.int k (g j))) (d : Nat) (w : World) :
    (Op.equalIn (d + 2) t (.agg xs) (.agg ys)).run P w = .ok ((List.range n).all fun j => f j == g j) w := by
  rw [run_equalIn_array w (d + 1) xs ys hu hi, hc]
  exact run_eqItems_ints he f g xs ys d w _ (fun j hj => hx j (List.mem_range.1 hj)) (fun j hj => hy j (List.mem_range.1 hj))
end
theorem run_equalIn_big (n m : Nat) (hn : n < 65536 ^ 17) (hm : m < 65536 ^ 17) (w : World) :
    (Op.equalIn 10000 176 (.agg (bigC n)) (.agg (bigC m))).run Try.prog w = .ok (decide (n = m)) w := by
  obtain ⟨i, hi⟩ : ∃ i, Try.prog.info? 174 = some i := Option.isSome_iff_exists.1 (by kernel_rfl)
  have hc : Try.prog.cellsOf 174 = 1 := by kernel_rfl
  have key := run_equalIn_ints (P := Try.prog) Try.underlying176 hi hc Try.underlying174 (fun j => (PM.dg n j : Nat)) (fun j => (PM.dg m j : Nat)) (bigC n) (bigC m) (fun j hj => fnC_get _ hj) (fun j hj => fnC_get _ hj) 9998 w
  have e1 : ((List.range 17).all fun j => ((PM.dg n j : Nat) : Int) == ((PM.dg m j : Nat) : Int)) = decide (n = m) := ?_
  · rw [← e1]
    exact key
  rw [Bool.eq_iff_iff]
  simp only [List.all_eq_true, List.mem_range, beq_iff_eq, decide_eq_true_eq]
  constructor
  · intro h
    exact PM.eq_of_all hn hm fun j hj => by have := h j hj; omega
  · rintro rfl j _; rfl
attribute [irreducible] fnC
end Go.Proofs.Ytkmelddejdikgaa
namespace Go.Proofs.Ytkmelddejdikgaa.Dt
open Go Go.RowKit
section
variable {P : Program} {ops : Array Oper} {md : Region.Mode} {S : World → Prop}
def DetR (P : Program) (S : World → Prop) (v : Value) : Result Next → Prop
  | .ok (.value u) w => u = v ∧ S w
  | .ok .skip w => v = undef ∧ S w
  | .ok (.enter f args) w => Calls P f args w fun e w' => e = .returned v ∧ S w'
  | _ => False
abbrev More (w w' : World) : Prop := Below w.heap.size w w'
theorem More.trans {a b c : World} (h : More a b) (k : More b c) : More a c := Below.trans h (Below.mono k h.size)
def DetW (P : Program) (ops : Array Oper) (o : Oper) (v : Value) (a : Act) (w : World) : Prop :=
  (Region.wanted o (yielded ops a.tmps) = true ∧ ∀ w1, More w w1 → DetR P (More w1) v ((execOp a.eval o).run P w1)) ∨
  (Region.wanted o (yielded ops a.tmps) = false ∧ v = undef)
theorem DetW.of_same {o : Oper} {v : Value} {a a' : Act} {w : World} (hy : DetW P ops o v a w) (he : execOp a'.eval o = execOp a.eval o)
    (hw : Region.wanted o (yielded ops a'.tmps) = Region.wanted o (yielded ops a.tmps)) : DetW P ops o v a' w := by
  unfold DetW at *
  rw [he, hw]
  exact hy
theorem DetW.more {o : Oper} {v : Value} {a : Act} {w w' : World} (hy : DetW P ops o v a w) (h : More w w') : DetW P ops o v a w' := by
  rcases hy with ⟨hw, hv⟩ | hy
  · exact .inl ⟨hw, fun w1 h1 => hv w1 (h.trans h1)⟩
  · exact .inr hy
def NoQ : Exit → Act → World → Prop := fun _ _ _ => False
theorem wpOp_noQ {Q : Exit → Act → World → Prop} {i : Nat} {K : Act → World → Prop} {a : Act} {w : World} (h : wpOp P ops NoQ i K a w) : wpOp P ops Q i K a w := by
  unfold wpOp at *
  cases ho : ops[i]? with
  | none => simp only [ho] at h ⊢; exact h
  | some o =>
    simp only [ho] at h ⊢
    split
    · rename_i hw
      simp only [hw, if_true] at h
      rcases h with h | ⟨_, _, _, h⟩
      · left
        unfold Oper.wp at *
        generalize (execOp a.eval o).run P w = r at *
        cases r with
        | ok n w' =>
          cases n <;> simp only [Oper.upon] at h ⊢ <;> try exact h
          case enter f args =>
            refine Calls.mono h fun e w'' he => ?_
            cases e with
            | returned u => exact he
            | panicked c => exact he.elim
            | outgrown => obtain ⟨_, _, he⟩ := he; exact he.elim
        | halt x w' =>
          cases x <;> simp only [Oper.upon] at h ⊢
          exact h.elim
      · exact h.elim
    · rename_i hw
      simp only [hw] at h
      exact h
theorem DetW.wpOp {i : Nat} {o : Oper} {v : Value} {a : Act} {w : World} (hi : ops[i]? = some o) (hy : DetW P ops o v a w)
    {K : Act → World → Prop} (h : ∀ w', More w w' → K (a.put o.dst v) w') : wpOp P ops NoQ i K a w := by
  unfold Go.wpOp
  simp only [hi]
  rcases hy with ⟨hw, hv⟩ | ⟨hw, rfl⟩
  · simp only [hw, if_true]
    left
    have := hv w (Below.refl _ _)
    unfold Oper.wp
    generalize (execOp a.eval o).run P w = r at *
    cases r with
    | ok n w' =>
      cases n <;> simp only [DetR] at this <;> simp only [Oper.upon]
      case value u => obtain ⟨rfl, hs⟩ := this; exact h _ hs
      case skip => obtain ⟨rfl, hs⟩ := this; exact h _ hs
      case enter f args =>
        refine Calls.mono this fun e w'' he => ?_
        obtain ⟨rfl, hs⟩ := he
        exact h _ hs
    | halt x w' => exact this.elim
  · simp only [hw, Bool.false_eq_true, if_false]; exact h _ (Below.refl _ _)
theorem wpOp_putW {j : Nat} {oi oj : Oper} {v : Value} (hj : ops[j]? = some oj) (hap : oi.apart ops oj = true)
    (hsi : ∀ cs b, oi.op ≠ .select cs b) (hsj : ∀ cs b, oj.op ≠ .select cs b) {K : Act → World → Prop} {a : Act} {w : World}
    (hy : DetW P ops oi v a w) (h : wpOp P ops NoQ j K (a.put oi.dst v) w) :
    wpOp P ops NoQ j (fun a' w' => DetW P ops oi v a' w ∧ K (a'.put oi.dst v) w') a w := by
  obtain ⟨h1, h2, h3⟩ := Oper.apart_spec hap
  have keep : ∀ (a : Act), DetW P ops oi v a w → ∀ u, DetW P ops oi v (a.put oj.dst u) w := fun a hy u =>
    hy.of_same (execOp_put oi hsi a oj.dst u h3) (wanted_put oi a oj.dst u h3)
  have keepD : ∀ d, DetW P ops oi v { a with defers := d :: a.defers } w := fun d => hy.of_same rfl rfl
  unfold Go.wpOp at *
  simp only [hj] at *
  rw [wanted_put oj a oi.dst v h1] at h
  split
  · rename_i hw
    simp only [hw, if_true] at h
    rcases h with h | ⟨_, _, _, h⟩
    case inr => exact h.elim
    left
    unfold Oper.wp at *
    rw [execOp_put oj hsj a oi.dst v h1] at h
    generalize (execOp a.eval oj).run P w = r at *
    cases r with
    | ok n w' =>
      cases n <;> simp only [Oper.upon] at h ⊢
      case value u => exact ⟨keep a hy u, by rw [← Act.put_comm a v u h2]; exact h⟩
      case skip => exact ⟨keep a hy _, by rw [← Act.put_comm a v undef h2]; exact h⟩
      case defer d =>
        refine ⟨keep _ (keepD d) _, ?_⟩
        rw [← Act.put_comm _ v undef h2, ← Act.put_defers]
        exact h
      case enter f args =>
        refine Calls.mono h fun e w'' he => ?_
        cases e with
        | returned u => exact ⟨keep a hy u, by rw [← Act.put_comm a v u h2]; exact he⟩
        | panicked c => exact he.elim
        | outgrown => obtain ⟨_, _, he⟩ := he; exact he.elim
      case row row args => exact Rows.mono h fun u w'' he => ⟨keep a hy u, by rw [← Act.put_comm a v u h2]; exact he⟩
    | halt x w' =>
      cases x <;> simp only [Oper.upon] at h ⊢
      exact h.elim
  · rename_i hw
    simp only [hw] at h
    exact ⟨keep a hy _, by rw [← Act.put_comm a v undef h2]; exact h⟩
def wpX (P : Program) (md : Region.Mode) (ops : Array Oper) (n : Nat) (L : Array Bool → Act → World → Prop) : Nat → Array Bool → Act → World → Prop
  | 0, listed, a, w => ∀ w1, More w w1 → L listed a w1
  | f + 1, listed, a, w => ∀ w1, More w w1 →
    Region.ready md ops listed ≠ [] ∧ ∀ i ∈ Region.ready md ops listed, i < n ∧ wpOp P ops NoQ i (fun a' w' => More w1 w' ∧ wpX P md ops n L f (listed.setIfInBounds i true) a' w') a w1
theorem wpX.more {n : Nat} {L : Array Bool → Act → World → Prop} {f : Nat} {listed : Array Bool} {a : Act} {w w' : World} (h : wpX P md ops n L f listed a w) (hm : More w w') : wpX P md ops n L f listed a w' := by
  cases f with
  | zero => exact fun w1 h1 => h w1 (hm.trans h1)
  | succ f => exact fun w1 h1 => h w1 (hm.trans h1)
theorem wpAny_of_X {n g : Nat} {L : Array Bool → Act → World → Prop} {Q : Exit → Act → World → Prop} (hL : ∀ listed a w, L listed a w → wpAny P md ops Q g listed a w) :
    ∀ (f : Nat) (listed : Array Bool) (a : Act) (w : World), wpX P md ops n L f listed a w → wpAny P md ops Q (f + g) listed a w
  | 0, listed, a, w, h => by rw [Nat.zero_add]; exact hL _ _ _ (h w (Below.refl _ _))
  | f + 1, listed, a, w, h => by
    rw [show f + 1 + g = (f + g) + 1 by omega]
    have h := h w (Below.refl _ _)
    exact ⟨fun h0 => absurd h0 h.1, fun i hi => wpOp_noQ (wpOp_mono (fun a' w' h' => wpAny_of_X hL f _ a' w' h'.2) (h.2 i hi).2)⟩
theorem wpX_first {n i : Nat} {oi : Oper} {v : Value} {L : Array Bool → Act → World → Prop} (hi : ops[i]? = some oi) (hsel : ∀ (j : Nat) (o : Oper) cs b, ops[j]? = some o → o.op ≠ .select cs b)
    (hs : Region.sinkB md ops n = true) (hc : Region.chainB md ops n = true) (hn : n < ops.size) (hin : i < n)
    (hdone : ∀ listed a w, L listed a w → ∀ j ∈ Region.ready md ops listed, n ≤ j) :
    ∀ (f : Nat) (listed : Array Bool) (a : Act) (w : World), HeadInv md ops n listed →
      (∀ j oj, ops[j]? = some oj → j ≠ i → listed.getD j true = false → (∀ e ∈ oj.after, Region.binds md e = true → e.on ≠ i) → oi.apart ops oj = true) →
      i ∈ Region.ready md ops listed → DetW P ops oi v a w →
      wpX P md ops n L f (listed.setIfInBounds i true) (a.put oi.dst v) w → wpX P md ops n L (f + 1) listed a w := by
  intro f
  induction f with
  | zero =>
    intro listed a w inv _ hr hy H
    have hun := (mem_ready.1 hr).1
    intro w1 h1
    refine ⟨fun h => (by rw [h] at hr; cases hr), fun j hj => ?_⟩
    have hjn : j < n := by
      rcases Nat.lt_or_ge j n with h | h
      · exact h
      · exact absurd hj (tail_waits hs hc hn inv _ i rfl hin hun j h)
    refine ⟨hjn, ?_⟩
    by_cases hji : j = i
    · subst hji; exact (hy.more h1).wpOp hi fun w' hS' => ⟨hS', H.more (h1.trans hS')⟩
    · have := hdone _ _ _ (H w1 h1) j (ready_mono hj hji)
      omega
  | succ f ih =>
    intro listed a w inv hfree hr hy H
    have hun := (mem_ready.1 hr).1
    intro w1 h1
    refine ⟨fun h => (by rw [h] at hr; cases hr), fun j hj => ?_⟩
    have hjn : j < n := by
      rcases Nat.lt_or_ge j n with h | h
      · exact h
      · exact absurd hj (tail_waits hs hc hn inv _ i rfl hin hun j h)
    refine ⟨hjn, ?_⟩
    by_cases hji : j = i
    · subst hji; exact (hy.more h1).wpOp hi fun w' hS' => ⟨hS', H.more (h1.trans hS')⟩
    · have h2 := ((H w1 h1).2 j (ready_mono hj hji)).2
      obtain ⟨hjun, oj, hoj, hall⟩ := mem_ready.1 hj
      have hnot : ∀ e ∈ oj.after, Region.binds md e = true → e.on ≠ i := fun e he hb heq => by
        have h1 := hall e he hb
        rw [heq, getD_both hun] at h1
        cases h1
      have h3 := wpOp_putW hoj (hfree j oj hoj hji hjun hnot) (fun cs b => hsel i oi cs b hi) (fun cs b => hsel j oj cs b hoj) (hy.more h1) h2
      have hfree' : ∀ k ok, ops[k]? = some ok → k ≠ i → (listed.setIfInBounds j true).getD k true = false →
          (∀ e ∈ ok.after, Region.binds md e = true → e.on ≠ i) → oi.apart ops ok = true := fun k ok hk hki hun hno => by
        refine hfree k ok hk hki ?_ hno
        by_cases hjk : j = k
        · subst hjk; exact hjun
        · rw [getD_set_ne true hjk] at hun; exact hun
      refine wpOp_mono (fun a' w' h4 => ⟨h4.2.1, ih (listed.setIfInBounds j true) a' w' (inv.set hj hjn) hfree' (ready_mono hr (Ne.symm hji)) (h4.1.more h4.2.1) ?_⟩) h3
      rw [Array.setIfInBounds_comm _ _ hji]
      exact h4.2.2
def wpXI (P : Program) (ops : Array Oper) (n : Nat) (Q : Exit → Act → World → Prop) (f : Nat) (listed : Array Bool) (a : Act) (w : World) : Prop :=
  HeadInv .any ops n listed → wpX P .any ops n (fun listed' a' w' => Region.seqB .any ops (ops.size - n) n listed' = true ∧ wpList P ops Q (ops.toList.drop n) a' w') f listed a w
def fitB (ops : Array Oper) (n : Nat) : Bool := Region.noSelect ops && decide (n < ops.size) && Region.sinkB .any ops n && Region.chainB .any ops n
def takeB (ops : Array Oper) (n i : Nat) (listed : Array Bool) : Bool :=
  fitB ops n && decide (i < n) && (Region.ready .any ops listed).contains i && Region.free .any ops listed i
theorem wpX_take {l : List Oper} {n : Nat} {Q : Exit → Act → World → Prop} {f : Nat} {listed : Array Bool} {a : Act} {w : World} (i : Nat) {o : Oper} (v : Value) (ho' : l[i]? = some o) (hg : o.guard = none)
    (hB : takeB l.toArray n i listed = true) (h : ∀ w1, More w w1 → DetR P (More w1) v ((execOp a.eval o).run P w1))
    (h2 : wpXI P l.toArray n Q f (listed.setIfInBounds i true) (a.put o.dst v) w) : wpXI P l.toArray n Q (f + 1) listed a w := by
  have ho : l.toArray[i]? = some o := by simpa using ho'
  intro inv
  simp only [takeB, fitB, Bool.and_eq_true, decide_eq_true_eq] at hB
  obtain ⟨⟨⟨⟨⟨⟨hsel, hn⟩, hs⟩, hc⟩, hin⟩, hr⟩, hf⟩ := hB
  have hr' : i ∈ Region.ready .any l.toArray listed := by simpa using hr
  exact wpX_first ho (Region.noSelect_spec hsel) hs hc hn hin (fun listed' a' w' hL => seqB_ready hL.1) f listed a w inv (Region.free_spec ho hf) hr'
    (.inl ⟨by simp [Region.wanted, hg], h⟩) (h2 (inv.set hr' hin))
theorem wpX_one {l : List Oper} {n : Nat} {Q : Exit → Act → World → Prop} {f : Nat} {listed : Array Bool} {a : Act} {w : World} (i : Nat) {o : Oper} (ho' : l[i]? = some o) (hg : o.guard = none) (hin : i < n)
    (hr : Region.ready .any l.toArray listed = [i])
    (h : ∀ w1, More w w1 → ∀ K : Act → World → Prop, (∀ a' w', More w1 w' → wpXI P l.toArray n Q f (listed.setIfInBounds i true) a' w' → K a' w') → o.wp P a w1 K NoQ) : wpXI P l.toArray n Q (f + 1) listed a w := by
  have ho : l.toArray[i]? = some o := by simpa using ho'
  intro inv w1 h1
  refine ⟨by rw [hr]; simp, fun j hj => ?_⟩
  have hj' := hj
  rw [hr] at hj
  have : j = i := by simpa using hj
  subst this
  refine ⟨hin, ?_⟩
  unfold Go.wpOp
  simp only [ho, Region.wanted, hg, if_true]
  exact .inl (h w1 h1 _ fun a' w' hm hx => ⟨hm, hx (inv.set hj' hin)⟩)
theorem wpX_two {l : List Oper} {n : Nat} {Q : Exit → Act → World → Prop} {f : Nat} {listed : Array Bool} {a : Act} {w : World} (i j : Nat) {oi oj : Oper} (hoi' : l[i]? = some oi) (hgi : oi.guard = none) (hoj' : l[j]? = some oj) (hgj : oj.guard = none) (hin : i < n) (hjn : j < n)
    (hr : Region.ready .any l.toArray listed = [i, j])
    (h1 : ∀ w1, More w w1 → ∀ K : Act → World → Prop, (∀ a' w', More w1 w' → wpXI P l.toArray n Q f (listed.setIfInBounds i true) a' w' → K a' w') → oi.wp P a w1 K NoQ)
    (h2 : ∀ w1, More w w1 → ∀ K : Act → World → Prop, (∀ a' w', More w1 w' → wpXI P l.toArray n Q f (listed.setIfInBounds j true) a' w' → K a' w') → oj.wp P a w1 K NoQ) : wpXI P l.toArray n Q (f + 1) listed a w := by
  have hoi : l.toArray[i]? = some oi := by simpa using hoi'
  have hoj : l.toArray[j]? = some oj := by simpa using hoj'
  intro inv w1 hm1
  refine ⟨by rw [hr]; simp, fun k hk => ?_⟩
  have hk' := hk
  rw [hr] at hk
  have : k = i ∨ k = j := by simpa using hk
  rcases this with rfl | rfl
  · refine ⟨hin, ?_⟩
    unfold Go.wpOp
    simp only [hoi, Region.wanted, hgi, if_true]
    exact .inl (h1 w1 hm1 _ fun a' w' hm hx => ⟨hm, hx (inv.set hk' hin)⟩)
  · refine ⟨hjn, ?_⟩
    unfold Go.wpOp
    simp only [hoj, Region.wanted, hgj, if_true]
    exact .inl (h2 w1 hm1 _ fun a' w' hm hx => ⟨hm, hx (inv.set hk' hjn)⟩)
theorem wpX_tail {n : Nat} {Q : Exit → Act → World → Prop} {listed : Array Bool} {a : Act} {w : World} (hB : Region.seqB .any ops (ops.size - n) n listed = true)
    (h : ∀ w1, More w w1 → wpList P ops Q (ops.toList.drop n) a w1) : wpXI P ops n Q 0 listed a w := fun _ w1 h1 => ⟨hB, h w1 h1⟩
theorem wp_region_X {id : Nat} {Q : Exit → Act → World → Prop} {a : Act} {w : World} {l : List Oper} (n : Nat) (hm : P.follows .mixedOrders = true) (hB : fitB l.toArray n = true)
    (h : wpXI P l.toArray n Q n (Array.replicate l.toArray.size false) a w.drew) : (Code.region id l.toArray true).wp P Q a w := by
  simp only [fitB, Bool.and_eq_true, decide_eq_true_eq] at hB
  obtain ⟨⟨⟨hsel, hn⟩, hs⟩, hc⟩ := hB
  have hn' : n < l.length := by simpa using hn
  have hdl : (l.drop n).length = l.toArray.size - n := by simp
  have inv0 : HeadInv .any l.toArray n (Array.replicate l.toArray.size false) :=
    ⟨by simp, fun j oj _ hl => (by rw [getD_replicate_false] at hl; cases hl), fun t _ ht => getD_in (by simpa using ht) (getD_replicate_false _ _)⟩
  refine wp_region_any hm ?_
  have := wpAny_of_X (Q := Q) (g := l.toArray.size - n) (fun listed a' w' hL => by
    have := wpAny_of_seq (md := .any) (Q' := Q) (l.drop n) n listed a' w' (fun j => by simp [List.getElem?_drop]) (by rw [hdl]; exact hL.1) hL.2
    rwa [hdl] at this) _ _ _ _ (h inv0)
  rw [show n + (l.toArray.size - n) = l.toArray.size by omega] at this
  exact this
theorem detR_row {v : Value} {o : Oper} {a : Act} {w : World} (ty : TypeId) (x : Operand) (ho : o.op = .load ty x) (g : Nat) (hx : a.eval x = .pointer (some ⟨g, 0, none⟩)) (t : TypeId) (cs : Array Value) (d : TypeDesc)
    (hg : w.heap[g]? = some (.cells cs t (0, 0))) (hu : P.underlying ty = some d) (hd : (match d with | .struct _ | .array _ _ => true | _ => false) = true) (hi : (P.info? ty).map (·.size) = some cs.size)
    (hv : v = .agg cs) : DetR P (More w) v ((execOp a.eval o).run P w) := by
  unfold execOp
  simp only [ho, hx, Instr.loadAt, Instr.sureAddr, Sem.run_bind, Sem.run_pure, Result.andThen_ok, run_loadVar_row w g t ty cs (0, 0) d hg hu hd hi]
  exact ⟨hv.symm, Below.refl _ _⟩
end
end Go.Proofs.Ytkmelddejdikgaa.Dt
namespace Go.Proofs.Ytkmelddejdikgaa.Dt
open Go Go.RowKit
section
variable {P : Program} {ops : Array Oper} {md : Region.Mode}
def DetU (P : Program) (ops : Array Oper) (o : Oper) (v : Value) (a : Act) : Prop :=
  (Region.wanted o (yielded ops a.tmps) = true ∧ ∀ w1, DetR P (More w1) v ((execOp a.eval o).run P w1)) ∨
  (Region.wanted o (yielded ops a.tmps) = false ∧ v = undef)
theorem DetU.of_same {o : Oper} {v : Value} {a a' : Act} (hy : DetU P ops o v a) (he : execOp a'.eval o = execOp a.eval o)
    (hw : Region.wanted o (yielded ops a'.tmps) = Region.wanted o (yielded ops a.tmps)) : DetU P ops o v a' := by
  unfold DetU at *
  rw [he, hw]
  exact hy
theorem DetU.toW {o : Oper} {v : Value} {a : Act} (h : DetU P ops o v a) (w : World) : DetW P ops o v a w := by
  rcases h with ⟨h1, h2⟩ | h
  · exact .inl ⟨h1, fun w1 _ => h2 w1⟩
  · exact .inr h
theorem wpOp_putU {j : Nat} {oi oj : Oper} {v : Value} (hj : ops[j]? = some oj) (hap : oi.apart ops oj = true)
    (hsi : ∀ cs b, oi.op ≠ .select cs b) (hsj : ∀ cs b, oj.op ≠ .select cs b) {K : Act → World → Prop} {a : Act} {w : World}
    (hy : DetU P ops oi v a) (h : wpOp P ops NoQ j K (a.put oi.dst v) w) :
    wpOp P ops NoQ j (fun a' w' => DetU P ops oi v a' ∧ K (a'.put oi.dst v) w') a w := by
  obtain ⟨h1, h2, h3⟩ := Oper.apart_spec hap
  have keep : ∀ (a : Act), DetU P ops oi v a → ∀ u, DetU P ops oi v (a.put oj.dst u) := fun a hy u =>
    hy.of_same (execOp_put oi hsi a oj.dst u h3) (wanted_put oi a oj.dst u h3)
  have keepD : ∀ d, DetU P ops oi v { a with defers := d :: a.defers } := fun d => hy.of_same rfl rfl
  unfold Go.wpOp at *
  simp only [hj] at *
  rw [wanted_put oj a oi.dst v h1] at h
  split
  · rename_i hw
    simp only [hw, if_true] at h
    rcases h with h | ⟨_, _, _, h⟩
    case inr => exact h.elim
    left
    unfold Oper.wp at *
    rw [execOp_put oj hsj a oi.dst v h1] at h
    generalize (execOp a.eval oj).run P w = r at *
    cases r with
    | ok n w' =>
      cases n <;> simp only [Oper.upon] at h ⊢
      case value u => exact ⟨keep a hy u, by rw [← Act.put_comm a v u h2]; exact h⟩
      case skip => exact ⟨keep a hy _, by rw [← Act.put_comm a v undef h2]; exact h⟩
      case defer d =>
        refine ⟨keep _ (keepD d) _, ?_⟩
        rw [← Act.put_comm _ v undef h2, ← Act.put_defers]
        exact h
      case enter f args =>
        refine Calls.mono h fun e w'' he => ?_
        cases e with
        | returned u => exact ⟨keep a hy u, by rw [← Act.put_comm a v u h2]; exact he⟩
        | panicked c => exact he.elim
        | outgrown => obtain ⟨_, _, he⟩ := he; exact he.elim
      case row row args => exact Rows.mono h fun u w'' he => ⟨keep a hy u, by rw [← Act.put_comm a v u h2]; exact he⟩
    | halt x w' =>
      cases x <;> simp only [Oper.upon] at h ⊢
      exact h.elim
  · rename_i hw
    simp only [hw] at h
    exact ⟨keep a hy _, by rw [← Act.put_comm a v undef h2]; exact h⟩
def wpY (P : Program) (md : Region.Mode) (ops : Array Oper) (e : Nat) (Q : Exit → Act → World → Prop) : Nat → Array Bool → Act → World → Prop
  | 0, listed, a, w => ∀ w1, More w w1 → Region.ready md ops listed = [] ∧ Q .normal a w1
  | f + 1, listed, a, w => ∀ w1, More w w1 →
    Region.ready md ops listed ≠ [] ∧ ∀ i ∈ Region.ready md ops listed, wpOp P ops NoQ i (fun a' w' => (i ≠ e → More w1 w') ∧ wpY P md ops e Q f (listed.setIfInBounds i true) a' w') a w1
theorem wpY.more {e : Nat} {Q : Exit → Act → World → Prop} {f : Nat} {listed : Array Bool} {a : Act} {w w' : World} (h : wpY P md ops e Q f listed a w) (hm : More w w') : wpY P md ops e Q f listed a w' := by
  cases f with
  | zero => exact fun w1 h1 => h w1 (hm.trans h1)
  | succ f => exact fun w1 h1 => h w1 (hm.trans h1)
theorem wpAny_of_Y {e : Nat} {Q : Exit → Act → World → Prop} :
    ∀ (f : Nat) (listed : Array Bool) (a : Act) (w : World), wpY P md ops e Q f listed a w → wpAny P md ops Q f listed a w
  | 0, listed, a, w, h => h w (Below.refl _ _)
  | f + 1, listed, a, w, h => by
    have h := h w (Below.refl _ _)
    exact ⟨fun h0 => absurd h0 h.1, fun i hi => wpOp_noQ (wpOp_mono (fun a' w' h' => wpAny_of_Y f _ a' w' h'.2) (h.2 i hi))⟩
theorem wpY_firstA {e i : Nat} {oi : Oper} {v : Value} {Q : Exit → Act → World → Prop} (hi : ops[i]? = some oi) (hsel : ∀ (j : Nat) (o : Oper) cs b, ops[j]? = some o → o.op ≠ .select cs b)
    (hie : i ≠ e) (hwait : ∀ oe, ops[e]? = some oe → ∃ d ∈ oe.after, Region.binds md d = true ∧ d.on = i) :
    ∀ (f : Nat) (listed : Array Bool) (a : Act) (w : World),
      (∀ j oj, ops[j]? = some oj → j ≠ i → listed.getD j true = false → (∀ e ∈ oj.after, Region.binds md e = true → e.on ≠ i) → oi.apart ops oj = true) →
      i ∈ Region.ready md ops listed → DetW P ops oi v a w →
      wpY P md ops e Q f (listed.setIfInBounds i true) (a.put oi.dst v) w → wpY P md ops e Q (f + 1) listed a w := by
  intro f
  induction f with
  | zero =>
    intro listed a w _ hr hy H
    intro w1 h1
    refine ⟨fun h => (by rw [h] at hr; cases hr), fun j hj => ?_⟩
    by_cases hji : j = i
    · subst hji; exact (hy.more h1).wpOp hi fun w' hS' => ⟨fun _ => hS', H.more (h1.trans hS')⟩
    · have h0 := (H w1 h1).1
      have := ready_mono hj hji
      rw [h0] at this; cases this
  | succ f ih =>
    intro listed a w hfree hr hy H
    have hun := (mem_ready.1 hr).1
    intro w1 h1
    refine ⟨fun h => (by rw [h] at hr; cases hr), fun j hj => ?_⟩
    by_cases hji : j = i
    · subst hji; exact (hy.more h1).wpOp hi fun w' hS' => ⟨fun _ => hS', H.more (h1.trans hS')⟩
    · have h2 := (H w1 h1).2 j (ready_mono hj hji)
      obtain ⟨hjun, oj, hoj, hall⟩ := mem_ready.1 hj
      have hnot : ∀ e ∈ oj.after, Region.binds md e = true → e.on ≠ i := fun e he hb heq => by
        have h1 := hall e he hb
        rw [heq, getD_both hun] at h1
        cases h1
      have hje : j ≠ e := by
        rintro rfl
        obtain ⟨d, hd, hb, hon⟩ := hwait oj hoj
        exact hnot d hd hb hon
      have h3 := wpOp_putW hoj (hfree j oj hoj hji hjun hnot) (fun cs b => hsel i oi cs b hi) (fun cs b => hsel j oj cs b hoj) (hy.more h1) h2
      have hfree' : ∀ k ok, ops[k]? = some ok → k ≠ i → (listed.setIfInBounds j true).getD k true = false →
          (∀ e ∈ ok.after, Region.binds md e = true → e.on ≠ i) → oi.apart ops ok = true := fun k ok hk hki hun hno => by
        refine hfree k ok hk hki ?_ hno
        by_cases hjk : j = k
        · subst hjk; exact hjun
        · rw [getD_set_ne true hjk] at hun; exact hun
      refine wpOp_mono (fun a' w' h4 => ⟨h4.2.1, ih (listed.setIfInBounds j true) a' w' hfree' (ready_mono hr (Ne.symm hji)) (h4.1.more (h4.2.1 hje)) ?_⟩) h3
      rw [Array.setIfInBounds_comm _ _ hji]
      exact h4.2.2
theorem wpY_firstB {e i : Nat} {oi : Oper} {v : Value} {Q : Exit → Act → World → Prop} (hi : ops[i]? = some oi) (hsel : ∀ (j : Nat) (o : Oper) cs b, ops[j]? = some o → o.op ≠ .select cs b) :
    ∀ (f : Nat) (listed : Array Bool) (a : Act) (w : World),
      (∀ j oj, ops[j]? = some oj → j ≠ i → listed.getD j true = false → (∀ e ∈ oj.after, Region.binds md e = true → e.on ≠ i) → oi.apart ops oj = true) →
      i ∈ Region.ready md ops listed → DetU P ops oi v a →
      wpY P md ops e Q f (listed.setIfInBounds i true) (a.put oi.dst v) w → wpY P md ops e Q (f + 1) listed a w := by
  intro f
  induction f with
  | zero =>
    intro listed a w _ hr hy H
    intro w1 h1
    refine ⟨fun h => (by rw [h] at hr; cases hr), fun j hj => ?_⟩
    by_cases hji : j = i
    · subst hji; exact (hy.toW w1).wpOp hi fun w' hS' => ⟨fun _ => hS', H.more (h1.trans hS')⟩
    · have h0 := (H w1 h1).1
      have := ready_mono hj hji
      rw [h0] at this; cases this
  | succ f ih =>
    intro listed a w hfree hr hy H
    have hun := (mem_ready.1 hr).1
    intro w1 h1
    refine ⟨fun h => (by rw [h] at hr; cases hr), fun j hj => ?_⟩
    by_cases hji : j = i
    · subst hji; exact (hy.toW w1).wpOp hi fun w' hS' => ⟨fun _ => hS', H.more (h1.trans hS')⟩
    · have h2 := (H w1 h1).2 j (ready_mono hj hji)
      obtain ⟨hjun, oj, hoj, hall⟩ := mem_ready.1 hj
      have hnot : ∀ e ∈ oj.after, Region.binds md e = true → e.on ≠ i := fun e he hb heq => by
        have h1 := hall e he hb
        rw [heq, getD_both hun] at h1
        cases h1
      have h3 := wpOp_putU hoj (hfree j oj hoj hji hjun hnot) (fun cs b => hsel i oi cs b hi) (fun cs b => hsel j oj cs b hoj) hy h2
      have hfree' : ∀ k ok, ops[k]? = some ok → k ≠ i → (listed.setIfInBounds j true).getD k true = false →
          (∀ e ∈ ok.after, Region.binds md e = true → e.on ≠ i) → oi.apart ops ok = true := fun k ok hk hki hun hno => by
        refine hfree k ok hk hki ?_ hno
        by_cases hjk : j = k
        · subst hjk; exact hjun
        · rw [getD_set_ne true hjk] at hun; exact hun
      refine wpOp_mono (fun a' w' h4 => ⟨h4.2.1, ih (listed.setIfInBounds j true) a' w' hfree' (ready_mono hr (Ne.symm hji)) h4.1 ?_⟩) h3
      rw [Array.setIfInBounds_comm _ _ hji]
      exact h4.2.2
def takeYB (ops : Array Oper) (i : Nat) (listed : Array Bool) : Bool :=
  Region.noSelect ops && (Region.ready .any ops listed).contains i && Region.free .any ops listed i
def waitB (ops : Array Oper) (e i : Nat) : Bool :=
  decide (i ≠ e) && (match ops[e]? with | some oe => oe.after.any fun d => Region.binds .any d && d.on == i | none => true)
theorem wpY_takeA {l : List Oper} {e : Nat} {Q : Exit → Act → World → Prop} {f : Nat} {listed : Array Bool} {a : Act} {w : World} (i : Nat) {o : Oper} (v : Value) (ho' : l[i]? = some o) (hg : o.guard = none)
    (hB : takeYB l.toArray i listed = true) (hW : waitB l.toArray e i = true) (h : ∀ w1, More w w1 → DetR P (More w1) v ((execOp a.eval o).run P w1))
    (h2 : wpY P .any l.toArray e Q f (listed.setIfInBounds i true) (a.put o.dst v) w) : wpY P .any l.toArray e Q (f + 1) listed a w := by
  have ho : l.toArray[i]? = some o := by simpa using ho'
  simp only [takeYB, Bool.and_eq_true] at hB
  obtain ⟨⟨hsel, hr⟩, hf⟩ := hB
  have hr' : i ∈ Region.ready .any l.toArray listed := by simpa using hr
  simp only [waitB, Bool.and_eq_true, decide_eq_true_eq] at hW
  refine wpY_firstA ho (Region.noSelect_spec hsel) hW.1 (fun oe hoe => ?_) f listed a w (Region.free_spec ho hf) hr' (.inl ⟨by simp [Region.wanted, hg], h⟩) h2
  have := hW.2
  rw [hoe] at this
  simp only [Array.any_eq_true, Bool.and_eq_true, beq_iff_eq] at this
  obtain ⟨k, hk, hb, hon⟩ := this
  exact ⟨_, Array.getElem_mem hk, hb, hon⟩
theorem wpY_takeB {l : List Oper} {e : Nat} {Q : Exit → Act → World → Prop} {f : Nat} {listed : Array Bool} {a : Act} {w : World} (i : Nat) {o : Oper} (v : Value) (ho' : l[i]? = some o) (hg : o.guard = none)
    (hB : takeYB l.toArray i listed = true) (h : ∀ w1, DetR P (More w1) v ((execOp a.eval o).run P w1))
    (h2 : wpY P .any l.toArray e Q f (listed.setIfInBounds i true) (a.put o.dst v) w) : wpY P .any l.toArray e Q (f + 1) listed a w := by
  have ho : l.toArray[i]? = some o := by simpa using ho'
  simp only [takeYB, Bool.and_eq_true] at hB
  obtain ⟨⟨hsel, hr⟩, hf⟩ := hB
  have hr' : i ∈ Region.ready .any l.toArray listed := by simpa using hr
  exact wpY_firstB ho (Region.noSelect_spec hsel) f listed a w (Region.free_spec ho hf) hr' (.inl ⟨by simp [Region.wanted, hg], h⟩) h2
theorem wpY_one {l : List Oper} {e : Nat} {Q : Exit → Act → World → Prop} {f : Nat} {listed : Array Bool} {a : Act} {w : World} {o : Oper} (ho' : l[e]? = some o) (hg : o.guard = none)
    (hr : Region.ready .any l.toArray listed = [e])
    (h : ∀ w1, More w w1 → o.wp P a w1 (fun a' w' => wpY P .any l.toArray e Q f (listed.setIfInBounds e true) a' w') NoQ) : wpY P .any l.toArray e Q (f + 1) listed a w := by
  have ho : l.toArray[e]? = some o := by simpa using ho'
  intro w1 h1
  refine ⟨by rw [hr]; simp, fun j hj => ?_⟩
  rw [hr] at hj
  have : j = e := by simpa using hj
  subst this
  unfold Go.wpOp
  simp only [ho, Region.wanted, hg, if_true]
  refine .inl ?_
  have := h w1 h1
  unfold Oper.wp at *
  generalize (execOp a.eval o).run P w1 = r at *
  cases r with
  | ok n w' =>
    cases n <;> simp only [Oper.upon] at this ⊢ <;> try exact ⟨fun hn => absurd rfl hn, this⟩
    case enter f args =>
      refine Calls.mono this fun x w'' he => ?_
      cases x with
      | returned u => exact ⟨fun hn => absurd rfl hn, he⟩
      | panicked c => exact he.elim
      | outgrown => obtain ⟨_, _, he⟩ := he; exact he.elim
    case row row args => exact Rows.mono this fun u w'' he => ⟨fun hn => absurd rfl hn, he⟩
  | halt x w' =>
    cases x <;> simp only [Oper.upon] at this ⊢
    exact this.elim
theorem wpY_end {l : List Oper} {e : Nat} {Q : Exit → Act → World → Prop} {listed : Array Bool} {a : Act} {w : World} (hr : Region.ready .any l.toArray listed = []) (h : ∀ w1, More w w1 → wpList P l.toArray Q [] a w1) :
    wpY P .any l.toArray e Q 0 listed a w := fun w1 h1 => ⟨hr, h w1 h1⟩
theorem wp_region_Y {id : Nat} {Q : Exit → Act → World → Prop} {a : Act} {w : World} {l : List Oper} (e n : Nat) (hn : l.length = n) (hm : P.follows .mixedOrders = true)
    (h : wpY P .any l.toArray e Q n (Array.replicate n false) a w.drew) : (Code.region id l.toArray true).wp P Q a w := by
  refine wp_region_any hm ?_
  have := wpAny_of_Y (Q := Q) _ _ _ _ h
  have hs : l.toArray.size = n := by simpa using hn
  rw [hs]
  exact this
end
end Go.Proofs.Ytkmelddejdikgaa.Dt
namespace Go.Proofs.Ytkmelddejdikgaa.Dt
open Go Go.RowKit
section
variable {P : Program}
theorem wpY_two {l : List Oper} {e : Nat} {Q : Exit → Act → World → Prop} {f : Nat} {listed : Array Bool} {a : Act} {w : World} (i j : Nat) {oi oj : Oper} (hoi' : l[i]? = some oi) (hgi : oi.guard = none) (hoj' : l[j]? = some oj) (hgj : oj.guard = none)
    (hr : Region.ready .any l.toArray listed = [i, j])
    (h1 : ∀ w1, More w w1 → ∀ K : Act → World → Prop, (∀ a' w', More w1 w' → wpY P .any l.toArray e Q f (listed.setIfInBounds i true) a' w' → K a' w') → oi.wp P a w1 K NoQ)
    (h2 : ∀ w1, More w w1 → ∀ K : Act → World → Prop, (∀ a' w', More w1 w' → wpY P .any l.toArray e Q f (listed.setIfInBounds j true) a' w' → K a' w') → oj.wp P a w1 K NoQ) : wpY P .any l.toArray e Q (f + 1) listed a w := by
  have hoi : l.toArray[i]? = some oi := by simpa using hoi'
  have hoj : l.toArray[j]? = some oj := by simpa using hoj'
  intro w1 hm1
  refine ⟨by rw [hr]; simp, fun k hk => ?_⟩
  rw [hr] at hk
  have : k = i ∨ k = j := by simpa using hk
  rcases this with rfl | rfl
  · unfold Go.wpOp
    simp only [hoi, Region.wanted, hgi, if_true]
    exact .inl (h1 w1 hm1 _ fun a' w' hm hx => ⟨fun _ => hm, hx⟩)
  · unfold Go.wpOp
    simp only [hoj, Region.wanted, hgj, if_true]
    exact .inl (h2 w1 hm1 _ fun a' w' hm hx => ⟨fun _ => hm, hx⟩)
theorem wpY_more1 {l : List Oper} {e : Nat} {Q : Exit → Act → World → Prop} {f : Nat} {listed : Array Bool} {a : Act} {w : World} (i : Nat) {o : Oper} (ho' : l[i]? = some o) (hg : o.guard = none)
    (hr : Region.ready .any l.toArray listed = [i])
    (h : ∀ w1, More w w1 → ∀ K : Act → World → Prop, (∀ a' w', More w1 w' → wpY P .any l.toArray e Q f (listed.setIfInBounds i true) a' w' → K a' w') → o.wp P a w1 K NoQ) : wpY P .any l.toArray e Q (f + 1) listed a w := by
  have ho : l.toArray[i]? = some o := by simpa using ho'
  intro w1 h1
  refine ⟨by rw [hr]; simp, fun j hj => ?_⟩
  rw [hr] at hj
  have : j = i := by simpa using hj
  subst this
  unfold Go.wpOp
  simp only [ho, Region.wanted, hg, if_true]
  exact .inl (h w1 h1 _ fun a' w' hm hx => ⟨fun _ => hm, hx⟩)
end
end Go.Proofs.Ytkmelddejdikgaa.Dt
namespace Go.Proofs.Ytkmelddejdikgaa.Dt
open Go Go.RowKit
section
variable {P : Program}
end
end Go.Proofs.Ytkmelddejdikgaa.Dt
namespace Go.Proofs.Ytkmelddejdikgaa.Dt
open Go Go.RowKit
section
variable {P : Program} {ops : Array Oper} {md : Region.Mode} {B : Nat}
def DetZ (P : Program) (ops : Array Oper) (B : Nat) (o : Oper) (v : Value) (a : Act) (w : World) : Prop :=
  (Region.wanted o (yielded ops a.tmps) = true ∧ ∀ w1, Below B w w1 → DetR P (More w1) v ((execOp a.eval o).run P w1)) ∨
  (Region.wanted o (yielded ops a.tmps) = false ∧ v = undef)
theorem DetZ.of_same {o : Oper} {v : Value} {a a' : Act} {w : World} (hy : DetZ P ops B o v a w) (he : execOp a'.eval o = execOp a.eval o)
    (hw : Region.wanted o (yielded ops a'.tmps) = Region.wanted o (yielded ops a.tmps)) : DetZ P ops B o v a' w := by
  unfold DetZ at *
  rw [he, hw]
  exact hy
theorem DetZ.more {o : Oper} {v : Value} {a : Act} {w w' : World} (hy : DetZ P ops B o v a w) (h : Below B w w') : DetZ P ops B o v a w' := by
  rcases hy with ⟨hw, hv⟩ | hy
  · exact .inl ⟨hw, fun w1 h1 => hv w1 (h.trans h1)⟩
  · exact .inr hy
theorem DetZ.toW {o : Oper} {v : Value} {a : Act} {w : World} (hy : DetZ P ops B o v a w) (hB : B ≤ w.heap.size) : DetW P ops o v a w := by
  rcases hy with ⟨hw, hv⟩ | hy
  · exact .inl ⟨hw, fun w1 h1 => hv w1 (h1.mono hB)⟩
  · exact .inr hy
theorem wpOp_putZ {j : Nat} {oi oj : Oper} {v : Value} (hj : ops[j]? = some oj) (hap : oi.apart ops oj = true)
    (hsi : ∀ cs b, oi.op ≠ .select cs b) (hsj : ∀ cs b, oj.op ≠ .select cs b) {K : Act → World → Prop} {a : Act} {w w0 : World}
    (hy : DetZ P ops B oi v a w0) (h : wpOp P ops NoQ j K (a.put oi.dst v) w) :
    wpOp P ops NoQ j (fun a' w' => DetZ P ops B oi v a' w0 ∧ K (a'.put oi.dst v) w') a w := by
  obtain ⟨h1, h2, h3⟩ := Oper.apart_spec hap
  have keep : ∀ (a : Act), DetZ P ops B oi v a w0 → ∀ u, DetZ P ops B oi v (a.put oj.dst u) w0 := fun a hy u =>
    hy.of_same (execOp_put oi hsi a oj.dst u h3) (wanted_put oi a oj.dst u h3)
  have keepD : ∀ d, DetZ P ops B oi v { a with defers := d :: a.defers } w0 := fun d => hy.of_same rfl rfl
  unfold Go.wpOp at *
  simp only [hj] at *
  rw [wanted_put oj a oi.dst v h1] at h
  split
  · rename_i hw
    simp only [hw, if_true] at h
    rcases h with h | ⟨_, _, _, h⟩
    case inr => exact h.elim
    left
    unfold Oper.wp at *
    rw [execOp_put oj hsj a oi.dst v h1] at h
    generalize (execOp a.eval oj).run P w = r at *
    cases r with
    | ok n w' =>
      cases n <;> simp only [Oper.upon] at h ⊢
      case value u => exact ⟨keep a hy u, by rw [← Act.put_comm a v u h2]; exact h⟩
      case skip => exact ⟨keep a hy _, by rw [← Act.put_comm a v undef h2]; exact h⟩
      case defer d =>
        refine ⟨keep _ (keepD d) _, ?_⟩
        rw [← Act.put_comm _ v undef h2, ← Act.put_defers]
        exact h
      case enter f args =>
        refine Calls.mono h fun e w'' he => ?_
        cases e with
        | returned u => exact ⟨keep a hy u, by rw [← Act.put_comm a v u h2]; exact he⟩
        | panicked c => exact he.elim
        | outgrown => obtain ⟨_, _, he⟩ := he; exact he.elim
      case row row args => exact Rows.mono h fun u w'' he => ⟨keep a hy u, by rw [← Act.put_comm a v u h2]; exact he⟩
    | halt x w' =>
      cases x <;> simp only [Oper.upon] at h ⊢
      exact h.elim
  · rename_i hw
    simp only [hw] at h
    exact ⟨keep a hy _, by rw [← Act.put_comm a v undef h2]; exact h⟩
def Gm (marks : List Nat) (H : List Bool → World → Prop) (listed : Array Bool) (w : World) : Prop := H (marks.map fun m => listed.getD m false) w
theorem Gm_set {marks : List Nat} {H : List Bool → World → Prop} {i : Nat} (hi : marks.contains i = false) (listed : Array Bool) : Gm marks H (listed.setIfInBounds i true) = Gm marks H listed := by
  unfold Gm
  funext w
  congr 1
  apply List.map_congr_left
  intro m hm
  have : i ≠ m := by
    rintro rfl
    have : marks.contains i = true := by simpa using hm
    rw [hi] at this; cases this
  exact getD_set_ne false this
def wpZ (P : Program) (md : Region.Mode) (ops : Array Oper) (B : Nat) (G : Array Bool → World → Prop) (Q : Exit → Act → World → Prop) : Nat → Array Bool → Act → World → Prop
  | 0, listed, a, w => ∀ w1, Below B w w1 → G listed w1 → Region.ready md ops listed = [] ∧ wpList P ops Q [] a w1
  | f + 1, listed, a, w => ∀ w1, Below B w w1 → G listed w1 →
    Region.ready md ops listed ≠ [] ∧ ∀ i ∈ Region.ready md ops listed, wpOp P ops NoQ i (fun a' w' => Below B w1 w' ∧ G (listed.setIfInBounds i true) w' ∧ wpZ P md ops B G Q f (listed.setIfInBounds i true) a' w') a w1
variable {G : Array Bool → World → Prop} {Q : Exit → Act → World → Prop}
theorem wpZ.more {f : Nat} {listed : Array Bool} {a : Act} {w w' : World} (h : wpZ P md ops B G Q f listed a w) (hm : Below B w w') : wpZ P md ops B G Q f listed a w' := by
  cases f with
  | zero => exact fun w1 h1 => h w1 (hm.trans h1)
  | succ f => exact fun w1 h1 => h w1 (hm.trans h1)
theorem wpAny_of_Z : ∀ (f : Nat) (listed : Array Bool) (a : Act) (w : World), G listed w → wpZ P md ops B G Q f listed a w → wpAny P md ops Q f listed a w
  | 0, listed, a, w, hg, h => h w (Below.refl _ _) hg
  | f + 1, listed, a, w, hg, h => by
    have h := h w (Below.refl _ _) hg
    exact ⟨fun h0 => absurd h0 h.1, fun i hi => wpOp_noQ (wpOp_mono (fun a' w' h' => wpAny_of_Z f _ a' w' h'.2.1 h'.2.2) (h.2 i hi))⟩
theorem wpZ_first {i : Nat} {oi : Oper} {v : Value} (hi : ops[i]? = some oi) (hsel : ∀ (j : Nat) (o : Oper) cs b, ops[j]? = some o → o.op ≠ .select cs b)
    (hGi : ∀ listed, G (listed.setIfInBounds i true) = G listed) (hGm : ∀ listed w w', G listed w → More w w' → G listed w') :
    ∀ (f : Nat) (listed : Array Bool) (a : Act) (w : World), B ≤ w.heap.size →
      (∀ j oj, ops[j]? = some oj → j ≠ i → listed.getD j true = false → (∀ e ∈ oj.after, Region.binds md e = true → e.on ≠ i) → oi.apart ops oj = true) →
      i ∈ Region.ready md ops listed → DetZ P ops B oi v a w →
      wpZ P md ops B G Q f (listed.setIfInBounds i true) (a.put oi.dst v) w → wpZ P md ops B G Q (f + 1) listed a w := by
  intro f
  induction f with
  | zero =>
    intro listed a w hBw _ hr hy H w1 h1 g1
    have hun := (mem_ready.1 hr).1
    refine ⟨fun h => (by rw [h] at hr; cases hr), fun j hj => ?_⟩
    by_cases hji : j = i
    · subst hji
      refine (((hy.more h1).toW (Nat.le_trans hBw h1.size)).wpOp hi fun w' hS' => ?_)
      have hb : Below B w1 w' := hS'.mono (Nat.le_trans hBw h1.size)
      exact ⟨hb, by rw [hGi]; exact hGm _ _ _ g1 hS', H.more (h1.trans hb)⟩
    · have := (H w1 h1 (by rw [hGi]; exact g1)).1
      have h3 := ready_mono hj hji
      rw [this] at h3; cases h3
  | succ f ih =>
    intro listed a w hBw hfree hr hy H w1 h1 g1
    have hun := (mem_ready.1 hr).1
    refine ⟨fun h => (by rw [h] at hr; cases hr), fun j hj => ?_⟩
    by_cases hji : j = i
    · subst hji
      refine (((hy.more h1).toW (Nat.le_trans hBw h1.size)).wpOp hi fun w' hS' => ?_)
      have hb : Below B w1 w' := hS'.mono (Nat.le_trans hBw h1.size)
      exact ⟨hb, by rw [hGi]; exact hGm _ _ _ g1 hS', H.more (h1.trans hb)⟩
    · have h2 := (H w1 h1 (by rw [hGi]; exact g1)).2 j (ready_mono hj hji)
      obtain ⟨hjun, oj, hoj, hall⟩ := mem_ready.1 hj
      have hnot : ∀ e ∈ oj.after, Region.binds md e = true → e.on ≠ i := fun e he hb heq => by
        have h1 := hall e he hb
        rw [heq, getD_both hun] at h1
        cases h1
      have h3 := wpOp_putZ hoj (hfree j oj hoj hji hjun hnot) (fun cs b => hsel i oi cs b hi) (fun cs b => hsel j oj cs b hoj) (hy.more h1) h2
      have hfree' : ∀ k ok, ops[k]? = some ok → k ≠ i → (listed.setIfInBounds j true).getD k true = false →
          (∀ e ∈ ok.after, Region.binds md e = true → e.on ≠ i) → oi.apart ops ok = true := fun k ok hk hki hun hno => by
        refine hfree k ok hk hki ?_ hno
        by_cases hjk : j = k
        · subst hjk; exact hjun
        · rw [getD_set_ne true hjk] at hun; exact hun
      refine wpOp_mono (fun a' w' h4 => ?_) h3
      obtain ⟨hz, hb, hg, hw⟩ := h4
      rw [Array.setIfInBounds_comm _ _ (Ne.symm hji), hGi] at hg
      refine ⟨hb, hg, ih (listed.setIfInBounds j true) a' w' (Nat.le_trans hBw (h1.trans hb).size) hfree' (ready_mono hr (Ne.symm hji)) (hz.more hb) ?_⟩
      rw [Array.setIfInBounds_comm _ _ hji]
      exact hw
end
section
variable {P : Program}
def takeZB (ops : Array Oper) (i : Nat) (listed : Array Bool) : Bool :=
  Region.noSelect ops && (Region.ready .any ops listed).contains i && Region.free .any ops listed i
def wpZI (P : Program) (l : List Oper) (B : Nat) (marks : List Nat) (H : List Bool → World → Prop) (Q : Exit → Act → World → Prop) (f : Nat) (listed : Array Bool) (a : Act) (w : World) : Prop :=
  B ≤ w.heap.size → (∀ bs w w', H bs w → More w w' → H bs w') → wpZ P .any l.toArray B (Gm marks H) Q f listed a w
theorem wpZ_take {l : List Oper} {B : Nat} {marks : List Nat} {H : List Bool → World → Prop} {Q : Exit → Act → World → Prop} {f : Nat} {listed : Array Bool} {a : Act} {w : World} (i : Nat) {o : Oper} (v : Value) (ho' : l[i]? = some o) (hg : o.guard = none)
    (hB : takeZB l.toArray i listed = true) (hM : marks.contains i = false) (h : ∀ w1, Below B w w1 → DetR P (More w1) v ((execOp a.eval o).run P w1))
    (h2 : wpZI P l B marks H Q f (listed.setIfInBounds i true) (a.put o.dst v) w) : wpZI P l B marks H Q (f + 1) listed a w := by
  have ho : l.toArray[i]? = some o := by simpa using ho'
  intro hBw hm
  simp only [takeZB, Bool.and_eq_true] at hB
  obtain ⟨⟨hsel, hr⟩, hf⟩ := hB
  have hr' : i ∈ Region.ready .any l.toArray listed := by simpa using hr
  exact wpZ_first ho (Region.noSelect_spec hsel) (fun listed => Gm_set hM listed) (fun _ _ _ h k => hm _ _ _ h k) f listed a w hBw (Region.free_spec ho hf) hr' (.inl ⟨by simp [Region.wanted, hg], h⟩) (h2 hBw hm)
theorem wpZ_one {l : List Oper} {B : Nat} {marks : List Nat} {H : List Bool → World → Prop} {Q : Exit → Act → World → Prop} {f : Nat} {listed : Array Bool} {a : Act} {w : World} (i : Nat) {o : Oper} (ho' : l[i]? = some o) (hg : o.guard = none)
    (hr : Region.ready .any l.toArray listed = [i]) (bs bs' : List Bool) (hb : (marks.map fun m => listed.getD m false) = bs) (hb' : (marks.map fun m => (listed.setIfInBounds i true).getD m false) = bs')
    (h : ∀ w1, Below B w w1 → H bs w1 → ∀ K : Act → World → Prop, (∀ a' w', Below B w1 w' → H bs' w' → wpZI P l B marks H Q f (listed.setIfInBounds i true) a' w' → K a' w') → o.wp P a w1 K NoQ) : wpZI P l B marks H Q (f + 1) listed a w := by
  have ho : l.toArray[i]? = some o := by simpa using ho'
  intro hBw hm w1 h1 g1
  refine ⟨by rw [hr]; simp, fun j hj => ?_⟩
  rw [hr] at hj
  have : j = i := by simpa using hj
  subst this
  unfold Go.wpOp
  simp only [ho, Region.wanted, hg, if_true]
  unfold Gm at g1 ⊢
  rw [hb] at g1
  exact .inl (h w1 h1 g1 _ fun a' w' hm' hx hz => ⟨hm', by rw [hb']; exact hx, hz (Nat.le_trans hBw (h1.trans hm').size) hm⟩)
theorem wpZ_end {l : List Oper} {B : Nat} {marks : List Nat} {H : List Bool → World → Prop} {Q : Exit → Act → World → Prop} {listed : Array Bool} {a : Act} {w : World} (hr : Region.ready .any l.toArray listed = []) (bs : List Bool) (hb : (marks.map fun m => listed.getD m false) = bs)
    (h : ∀ w1, Below B w w1 → H bs w1 → wpList P l.toArray Q [] a w1) : wpZI P l B marks H Q 0 listed a w := fun _ _ w1 h1 g1 => ⟨hr, h w1 h1 (by unfold Gm at g1; rw [hb] at g1; exact g1)⟩
theorem wp_region_Z {id : Nat} {Q : Exit → Act → World → Prop} {a : Act} {w : World} {l : List Oper} (n B : Nat) (marks : List Nat) (H : List Bool → World → Prop) (hn : l.length = n) (hm : P.follows .mixedOrders = true)
    (hBw : B ≤ w.heap.size) (hH : ∀ bs w w', H bs w → More w w' → H bs w') (h0 : H (marks.map fun m => (Array.replicate n false).getD m false) w.drew)
    (h : wpZI P l B marks H Q n (Array.replicate n false) a w.drew) : (Code.region id l.toArray true).wp P Q a w := by
  refine wp_region_any hm ?_
  have := wpAny_of_Z (Q := Q) (md := .any) (ops := l.toArray) (B := B) (G := Gm marks H) n (Array.replicate n false) a w.drew h0 (h hBw hH)
  have hs : l.toArray.size = n := by simpa using hn
  rw [hs]
  exact this
end
end Go.Proofs.Ytkmelddejdikgaa.Dt
namespace Go.Proofs.Ytkmelddejdikgaa.Dt
open Go Go.RowKit
section
variable {P : Program}
theorem wpList_pure {ops : Array Oper} {rest : List Oper} {o : Oper} {a : Act} {w : World} {Q : Exit → Act → World → Prop} (v : Value) (hg : o.guard = none)
    (h : DetR P (fun w' => w' = w) v ((execOp a.eval o).run P w)) (k : wpList P ops Q rest (a.put o.dst v) w) : wpList P ops Q (o :: rest) a w := by
  refine wpList_plain hg fun K hK => ?_
  unfold Oper.wp
  generalize (execOp a.eval o).run P w = r at *
  cases r with
  | ok n w' =>
    cases n <;> simp only [DetR] at h <;> simp only [Oper.upon]
    case value u => obtain ⟨rfl, rfl⟩ := h; exact hK _ _ k
    case skip => obtain ⟨rfl, rfl⟩ := h; exact hK _ _ k
    case enter f args =>
      refine Calls.mono h fun e w'' he => ?_
      obtain ⟨rfl, rfl⟩ := he
      exact hK _ _ k
  | halt x w' => exact h.elim
end
end Go.Proofs.Ytkmelddejdikgaa.Dt
namespace Go.Proofs.Ytkmelddejdikgaa.Dt
open Go Go.RowKit
section
variable {P : Program}
def dstAt (l : List Oper) (i : Nat) : Option Tmp := (l[i]?).bind (·.dst)
def putsF (l : List Oper) (v : Nat → Value) : List Nat → Act → Act
  | [], a => a
  | i :: r, a => putsF l v r (a.put (dstAt l i) (v i))
def updF (v : Nat → Value) (i : Nat) (u : Value) : Nat → Value := fun j => if j = i then u else v j
def apartB (l : List Oper) : List Nat → Bool
  | [] => true
  | i :: r => (dstAt l i).isSome && r.all (fun j => dstAt l i != dstAt l j) && apartB l r
theorem put_twice (a : Act) (x : Option Tmp) (v u : Value) : (a.put x v).put x u = a.put x u := by
  cases x with
  | none => rfl
  | some d => simp [Act.put]
theorem put_self (a : Act) (x : Option Tmp) : ∃ v, a.put x v = a := by
  cases x with
  | none => exact ⟨undef, rfl⟩
  | some d =>
    refine ⟨a.tmps.getD d undef, ?_⟩
    unfold Act.put
    have : a.tmps.setIfInBounds d (a.tmps.getD d undef) = a.tmps := by
      apply Array.ext
      · simp
      · intro k h1 h2
        rw [Array.getElem_setIfInBounds]
        split
        · rename_i h; subst h; simp [h2]
        · rfl
    simp only [this]
theorem putsF_put {l : List Oper} {v : Nat → Value} {x : Option Tmp} {u : Value} : ∀ (r : List Nat) (a : Act), (∀ j ∈ r, x ≠ dstAt l j) → (putsF l v r a).put x u = putsF l v r (a.put x u)
  | [], a, h => rfl
  | i :: r, a, h => by
    unfold putsF
    rw [putsF_put r _ (fun j hj => h j (List.mem_cons_of_mem _ hj)), Act.put_comm a (v i) u (x := dstAt l i) (y := x)]
    intro d hd hx
    exact h i (List.mem_cons_self ..) (hx.trans hd.symm)
theorem putsF_congr {l : List Oper} {v v' : Nat → Value} : ∀ (r : List Nat) (a : Act), (∀ j ∈ r, v j = v' j) → putsF l v r a = putsF l v' r a
  | [], _, _ => rfl
  | i :: r, a, h => by
    unfold putsF
    rw [h i (List.mem_cons_self ..), putsF_congr r _ (fun j hj => h j (List.mem_cons_of_mem _ hj))]
theorem putsF_upd {l : List Oper} {v : Nat → Value} {i : Nat} {u : Value} : ∀ (r : List Nat) (a : Act), apartB l r = true → i ∈ r → (putsF l v r a).put (dstAt l i) u = putsF l (updF v i u) r a
  | [], _, _, h => by cases h
  | j :: r, a, hB, hi => by
    simp only [apartB, Bool.and_eq_true, List.all_eq_true, bne_iff_ne, ne_eq] at hB
    obtain ⟨⟨_, hne⟩, hr⟩ := hB
    unfold putsF
    by_cases hij : i = j
    · subst hij
      rw [putsF_put r _ (fun k hk => hne k hk), put_twice]
      have : ∀ k ∈ r, v k = updF v i u k := fun k hk => by
        unfold updF
        rw [if_neg]
        rintro rfl
        exact hne k hk rfl
      rw [putsF_congr r _ this]
      unfold updF; rw [if_pos rfl]
    · have hir : i ∈ r := by
        rcases List.mem_cons.1 hi with h | h
        · exact absurd h hij
        · exact h
      rw [putsF_upd r _ hr hir]
      have : updF v i u j = v j := by unfold updF; rw [if_neg (Ne.symm hij)]
      rw [this]
theorem putsF_ex (l : List Oper) : ∀ (r : List Nat) (a : Act), apartB l r = true → ∃ v, a = putsF l v r a
  | [], _, _ => ⟨fun _ => undef, rfl⟩
  | i :: r, a, hB => by
    simp only [apartB, Bool.and_eq_true, List.all_eq_true, bne_iff_ne, ne_eq] at hB
    obtain ⟨⟨_, hne⟩, hr⟩ := hB
    obtain ⟨x, hx⟩ := put_self a (dstAt l i)
    obtain ⟨v, hv⟩ := putsF_ex l r (a.put (dstAt l i) x) hr
    refine ⟨updF v i x, ?_⟩
    unfold putsF
    have h1 : updF v i x i = x := by unfold updF; rw [if_pos rfl]
    rw [h1, ← putsF_congr (v := v) r _ (fun j hj => by unfold updF; rw [if_neg]; rintro rfl; exact hne j hj rfl), ← hv, hx]
def topoB (ops : Array Oper) (n : Nat) : Bool := (List.range n).all fun i => match ops[i]? with | some o => o.after.all fun e => !Region.binds .any e || decide (e.on < i) | none => false
def cnt (listed : Array Bool) (n : Nat) : Nat := (List.range n).countP fun i => listed.getD i true == false
theorem countP_dec {f g : Nat → Bool} {i : Nat} : ∀ (l : List Nat), l.Nodup → i ∈ l → f i = true → g i = false → (∀ j, j ≠ i → f j = g j) → l.countP f = l.countP g + 1
  | [], _, h, _, _, _ => by cases h
  | j :: r, hn, hi, h1, h2, h3 => by
    rw [List.nodup_cons] at hn
    rw [List.countP_cons, List.countP_cons]
    by_cases hij : j = i
    · subst hij
      have : r.countP f = r.countP g := List.countP_congr fun k hk => by
        rw [h3 k (by rintro rfl; exact hn.1 hk)]
      rw [this, h1, h2]; simp
    · have hir : i ∈ r := by
        rcases List.mem_cons.1 hi with h | h
        · exact absurd h.symm hij
        · exact h
      rw [countP_dec r hn.2 hir h1 h2 h3, h3 j hij]; omega
theorem cnt_set {listed : Array Bool} {n i : Nat} (hi : i < n) (hf : listed.getD i true = false) : cnt listed n = cnt (listed.setIfInBounds i true) n + 1 := by
  refine countP_dec (List.range n) List.nodup_range (List.mem_range.2 hi) (by simp [hf]) ?_ (fun j hj => by rw [getD_set_ne true (Ne.symm hj)])
  have : (listed.setIfInBounds i true).getD i true = true := by
    have hlt : i < listed.size := by
      rcases Nat.lt_or_ge i listed.size with h' | h'
      · exact h'
      · simp [Array.getElem?_eq_none h'] at hf
    simp [hlt]
  rw [this]; rfl
theorem cnt_zero {listed : Array Bool} {n : Nat} (h : cnt listed n = 0) : ∀ i, i < n → listed.getD i true = true := by
  intro i hi
  have := List.countP_eq_zero.1 h i (List.mem_range.2 hi)
  cases hb : listed.getD i true with
  | true => rfl
  | false => rw [hb] at this; simp at this
inductive Fact where
  | val (v : Value)
  | sl (cells : Array Value) (t : TypeId) (n : Nat)
  | any
def Fact.holds : Fact → Value → World → Prop
  | .val c, v, _ => v = c
  | .sl cs t n, v, w => ∃ b, v = .slice (some ⟨b, 0, none⟩) n n ∧ blk w b cs t
  | .any, _, _ => True
theorem Fact.mono {F : Fact} {v : Value} {w w' : World} (h : F.holds v w) (hm : More w w') : F.holds v w' := by
  cases F with
  | val c => exact h
  | any => trivial
  | sl cs t n =>
    obtain ⟨b, hv, hb⟩ := h
    exact ⟨b, hv, hb.below hm hb.lt⟩
def putsD (v : Nat → Value) : List (Nat × Nat) → Act → Act
  | [], a => a
  | x :: r, a => putsD v r (a.put (some x.2) (v x.1))
def slotsB (l : List Oper) (ds : List (Nat × Nat)) : Bool := ds.all fun x => dstAt l x.1 == some x.2
theorem putsF_D {l : List Oper} {v : Nat → Value} : ∀ (ds : List (Nat × Nat)) (a : Act), slotsB l ds = true → putsF l v (ds.map (·.1)) a = putsD v ds a
  | [], _, _ => rfl
  | x :: r, a, h => by
    simp only [slotsB, List.all_cons, Bool.and_eq_true, beq_iff_eq] at h
    show putsF l v (r.map (·.1)) (a.put (dstAt l x.1) (v x.1)) = putsD v r (a.put (some x.2) (v x.1))
    rw [h.1]
    exact putsF_D r _ h.2
theorem flow_buildI {o : Oper} {a : Act} {w : World} {K : Act → World → Prop} {F : Value → World → Prop} (t e : TypeId) (len : Nat) (parts : Array (Nat × Operand)) (ho : o.op = .buildSlice t len parts)
    (zs : List Int) (hu : P.underlying t = some (.slice e)) (hsz : (P.info? e).map (·.size) = some 1) (hz : ((P.info? e).bind (·.zero)).isSome = true)
    (hlen : len = zs.length) (hpos : 0 < len) (hsmall : len ≤ 2 ^ 24)
    (hparts : (parts.map fun (i, x) => (i, a.eval x)).toList = ((zs.map (Value.int .i64)).zipIdx 0).map fun x => (x.2, x.1))
    (hF : ∀ u w2, (∃ b, u = .slice (some ⟨b, 0, none⟩) len len ∧ blk w2 b (zs.map (Value.int .i64)).toArray e) → F u w2)
    (hK : ∀ a' u w2, a' = a.put o.dst u → More w w2 → F u w2 → K a' w2) : o.wp P a w K NoQ := by
  cases hie : P.info? e with
  | none => simp [hie] at hsz
  | some ie =>
    simp only [hie, Option.map_some, Option.some.injEq, Option.bind_some] at hsz hz
    obtain ⟨z, hzz⟩ := Option.isSome_iff_exists.1 hz
    refine wp_buildSlice t e len parts ho (zs.map (Value.int .i64)).toArray ie z hu hie hzz (by rw [hsz]; omega) (by rw [hsz]; omega) ?_ (hK _ _ _ rfl ((Below.refl _ _).alloc (Nat.le_refl _) _) (hF _ _ ⟨_, rfl, blk.new _ _ _⟩))
    rw [hparts, hsz]
    exact Great.fill_flat _ _ (fun v hv => by obtain ⟨n, _, rfl⟩ := List.mem_map.1 hv; rfl) (by simp [hlen])
def AllocOp (P : Program) (o : Oper) (a : Act) (cells : Array Value) (t : TypeId) (n : Nat) : Prop :=
  ∀ (w : World) (K : Act → World → Prop), (∀ b w', More w w' → blk w' b cells t → K (a.put o.dst (.slice (some ⟨b, 0, none⟩) n n)) w') → o.wp P a w K NoQ
theorem allocI {o : Oper} {a : Act} (t e : TypeId) (len : Nat) (parts : Array (Nat × Operand)) (ho : o.op = .buildSlice t len parts)
    (zs : List Int) (hu : P.underlying t = some (.slice e)) (hsz : (P.info? e).map (·.size) = some 1) (hz : ((P.info? e).bind (·.zero)).isSome = true)
    (hlen : len = zs.length) (hpos : 0 < len) (hsmall : len ≤ 2 ^ 24)
    (hparts : (parts.map fun (i, x) => (i, a.eval x)).toList = ((zs.map (Value.int .i64)).zipIdx 0).map fun x => (x.2, x.1)) : AllocOp P o a (zs.map (Value.int .i64)).toArray e len := by
  intro w K hK
  refine flow_buildI (F := fun u w2 => ∃ b, u = .slice (some ⟨b, 0, none⟩) len len ∧ blk w2 b (zs.map (Value.int .i64)).toArray e) t e len parts ho zs hu hsz hz hlen hpos hsmall hparts (fun _ _ h => h) ?_
  rintro a' u w2 rfl hm ⟨b, rfl, nb⟩
  exact hK b w2 hm nb
theorem alloc4 {o : Oper} {a : Act} {t e : TypeId} {x0 x1 x2 x3 : Operand} (ho : o.op = .buildSlice t 4 #[(0, x0), (1, x1), (2, x2), (3, x3)])
    {n0 n1 n2 n3 : Int} (h0 : a.eval x0 = .int .i64 n0) (h1 : a.eval x1 = .int .i64 n1) (h2 : a.eval x2 = .int .i64 n2) (h3 : a.eval x3 = .int .i64 n3)
    (hu : P.underlying t = some (.slice e)) (hsz : (P.info? e).map (·.size) = some 1) (hz : ((P.info? e).bind (·.zero)).isSome = true) : AllocOp P o a #[.int .i64 n0, .int .i64 n1, .int .i64 n2, .int .i64 n3] e 4 :=
  allocI t e 4 _ ho [n0, n1, n2, n3] hu hsz hz rfl (by omega) (by decide) (by simp [h0, h1, h2, h3])
theorem alloc2 {o : Oper} {a : Act} {t e : TypeId} {x0 x1 : Operand} (ho : o.op = .buildSlice t 2 #[(0, x0), (1, x1)])
    {n0 n1 : Int} (h0 : a.eval x0 = .int .i64 n0) (h1 : a.eval x1 = .int .i64 n1)
    (hu : P.underlying t = some (.slice e)) (hsz : (P.info? e).map (·.size) = some 1) (hz : ((P.info? e).bind (·.zero)).isSome = true) : AllocOp P o a #[.int .i64 n0, .int .i64 n1] e 2 :=
  allocI t e 2 _ ho [n0, n1] hu hsz hz rfl (by omega) (by decide) (by simp [h0, h1])
theorem wpY_allocs {l : List Oper} {e : Nat} {Q : Exit → Act → World → Prop} {f : Nat} {listed : Array Bool} {a : Act} {w : World} (i j : Nat) {oi oj : Oper} {ci cj : Array Value} {ti tj : TypeId} {ni nj : Nat}
    (hoi : l[i]? = some oi) (hgi : oi.guard = none) (hoj : l[j]? = some oj) (hgj : oj.guard = none) (hij : i ≠ j)
    (hr : Region.ready .any l.toArray listed = [i, j]) (hri : Region.ready .any l.toArray (listed.setIfInBounds i true) = [j]) (hrj : Region.ready .any l.toArray (listed.setIfInBounds j true) = [i])
    (hd : oi.dst ≠ oj.dst) (hai : AllocOp P oi a ci ti ni) (haj : AllocOp P oj a cj tj nj) (hai' : ∀ u, AllocOp P oi (a.put oj.dst u) ci ti ni) (haj' : ∀ u, AllocOp P oj (a.put oi.dst u) cj tj nj)
    (h : ∀ b1 b2 w', More w w' → blk w' b1 ci ti → blk w' b2 cj tj → wpY P .any l.toArray e Q f ((listed.setIfInBounds i true).setIfInBounds j true) ((a.put oi.dst (.slice (some ⟨b1, 0, none⟩) ni ni)).put oj.dst (.slice (some ⟨b2, 0, none⟩) nj nj)) w') :
    wpY P .any l.toArray e Q (f + 1 + 1) listed a w := by
  refine wpY_two i j hoi hgi hoj hgj hr (fun w1 h1 K hK => hai w1 K fun b w2 h2 nb => hK _ _ h2 ?_) (fun w1 h1 K hK => haj w1 K fun b w2 h2 nb => hK _ _ h2 ?_)
  · exact wpY_more1 j hoj hgj hri fun w3 h3 K' hK' => haj' _ w3 K' fun b' w4 h4 nb' => hK' _ _ h4 (h b b' w4 (((h1.trans h2).trans h3).trans h4) ((nb.below h3 nb.lt).below h4 (nb.below h3 nb.lt).lt) nb')
  · refine wpY_more1 i hoi hgi hrj fun w3 h3 K' hK' => hai' _ w3 K' fun b' w4 h4 nb' => hK' _ _ h4 ?_
    have := h b' b w4 (((h1.trans h2).trans h3).trans h4) nb' ((nb.below h3 nb.lt).below h4 (nb.below h3 nb.lt).lt)
    rw [Array.setIfInBounds_comm _ _ hij] at this
    rw [Act.put_comm a _ _ (fun d hd1 hd2 => hd (hd1.trans hd2.symm))] at this
    exact this
end
end Go.Proofs.Ytkmelddejdikgaa.Dt
namespace Go.Proofs.Ytkmelddejdikgaa.Dt
open Go Go.RowKit
section
variable {P : Program}
theorem run_index_cell {t e : TypeId} {n i : Nat} {cs : Array Value} {v : Value} {d : TypeDesc} {inf : TypeInfo} (ht : P.underlying t = some (.array n e)) (he : P.underlying e = some d)
    (hd : (match d with | .struct _ | .array _ _ => true | _ => false) = false) (hs : P.info? e = some inf) (hc : P.cellsOf e = 1) (hi : i < n) (hv : cs[i]? = some v) (w : World) : (Instr.index t (.agg cs) (.int .i64 i)).run P w = .ok v w := by
  have ha : ∀ w, (isAgg e).run P w = .ok false w := fun w => by cases d <;> simp_all [isAgg, run_underlying he]
  have hz : ∀ w, (sizeOf e).run P w = .ok 1 w := fun w => by rw [run_sizeOf w hs, hc]
  simp [Instr.index, asIntOf, run_underlying ht, hi, hz, part, ha, hv]
theorem wpList_index {ops : Array Oper} {rest : List Oper} {o : Oper} {a : Act} {w : World} {Q : Exit → Act → World → Prop} (hw : Region.wanted o (yielded ops a.tmps) = true) (t : TypeId) (x y : Operand) (ho : o.op = .index t x y)
    (cs : Array Value) (hx : a.eval x = .agg cs) (i : Nat) (z : Int) (hz : z = i) (hy : a.eval y = .int .i64 z) (v : Value) (h1 : ∀ w, (Instr.index t (.agg cs) (.int .i64 (i : Nat))).run P w = .ok v w)
    (h : wpList P ops Q rest (a.put o.dst v) w) : wpList P ops Q (o :: rest) a w :=
  wpList_step fun K hK => by
    rw [if_pos hw]
    subst hz
    unfold Oper.wp execOp
    simp only [ho, hx, hy, Sem.run_bind, h1, Result.andThen_ok, Sem.run_pure]
    exact hK _ _ h
end
end Go.Proofs.Ytkmelddejdikgaa.Dt
namespace Go.Proofs.Ytkmelddejdikgaa
open Go Go.RowKit
section
variable {P : Program}
end
end Go.Proofs.Ytkmelddejdikgaa
