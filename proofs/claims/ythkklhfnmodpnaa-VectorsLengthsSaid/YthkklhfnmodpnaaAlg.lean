/-
  Plain laws on products and quotients: Mul commutes, One is neutral, signs, and the way back from a quotient. No program in sight.
-/
import Derived.Test.YthkklhfnmodpnaaMath
set_option linter.unusedSimpArgs false
namespace Go.Proofs.Ythkklhfnmodpnaa.PM
theorem ratioQ_comm (a b c : Int) : ratioQ a b c = ratioQ b a c := by unfold ratioQ; rw [Int.mul_comm a b]
theorem ratioV_comm (a b c : Int) : ratioV a b c = ratioV b a c := by unfold ratioV; rw [ratioQ_comm]
theorem ratioE_comm (a b c : Int) : ratioE a b c = ratioE b a c := by unfold ratioE; rw [ratioQ_comm]
theorem ratioV_M (a b : Int) : ratioV a b 1073741824 = fitV (rnd (a * b)) := by
  unfold ratioV ratioQ; rw [if_neg (by decide), if_neg (by decide), nearest_one]
theorem ratioE_M (a b : Int) : ratioE a b 1073741824 = fitE (rnd (a * b)) := by
  unfold ratioE ratioQ; rw [if_neg (by decide), if_neg (by decide), nearest_one]
theorem inI_iff (q : Int) : inI q = true ↔ (-9223372036854775808 ≤ q ∧ q ≤ 9223372036854775807) := by
  unfold inI; rw [Bool.and_eq_true, decide_eq_true_eq, decide_eq_true_eq]
theorem fit_of {q : Int} (h1 : -9223372036854775808 ≤ q) (h2 : q ≤ 9223372036854775807) : fitV q = q ∧ fitE q = 0 := by
  have h : inI q = true := (inI_iff q).2 ⟨h1, h2⟩
  unfold fitV fitE; rw [h]; exact ⟨rfl, rfl⟩
theorem fit_zero {q : Int} (h : fitE q = 0) : -9223372036854775808 ≤ q ∧ q ≤ 9223372036854775807 ∧ fitV q = q := by
  unfold fitE at h
  cases hi : inI q with
  | false => rw [hi] at h; cases h
  | true =>
    have := (inI_iff q).1 hi
    unfold fitV; rw [hi]; exact ⟨this.1, this.2, rfl⟩
theorem fit_bad {q : Int} (h : fitE q ≠ 0) : fitV q = 0 := by
  unfold fitE at h
  cases hi : inI q with
  | true => rw [hi] at h; exact absurd rfl h
  | false => unfold fitV; rw [hi]; rfl
theorem ratioV_one {a : Int} (h1 : -9223372036854775808 ≤ a) (h2 : a ≤ 9223372036854775807) : ratioV a 1073741824 1073741824 = a ∧ ratioE a 1073741824 1073741824 = 0 := by
  rw [ratioV_M, ratioE_M]
  have : rnd (a * 1073741824) = a := by unfold rnd; omega
  rw [this]; exact fit_of h1 h2
/-- The product with the sign changed. -/
theorem alg_neg {a b p : Int} (hp : p = ratioV a b 1073741824) (h0 : ratioE a b 1073741824 = 0) (h1 : -1152921504606846976 < p) (h2 : p < 1152921504606846976) :
    ∃ m, m = ratioV (-a) b 1073741824 ∧ ratioE (-a) b 1073741824 = 0 ∧ m - 1 ≤ -p ∧ -p - 1 ≤ m := by
  rw [ratioE_M] at h0
  rw [ratioV_M] at hp
  obtain ⟨_, _, h3⟩ := fit_zero h0
  rw [h3] at hp
  rw [ratioV_M, ratioE_M, Int.neg_mul]
  generalize a * b = X at *
  have e : rnd (-X) = -p ∨ rnd (-X) = -p + 1 := by unfold rnd at *; omega
  obtain ⟨f1, f2⟩ := fit_of (q := rnd (-X)) (by omega) (by omega)
  exact ⟨_, rfl, f2, by omega, by omega⟩
/-- The quotient times the divisor. -/
theorem alg_back {a b d : Int} (hd : d = ratioV a 1073741824 b) (h0 : ratioE a 1073741824 b = 0) (a1 : -1152921504606846976 ≤ a) (a2 : a ≤ 1152921504606846976) (b1 : -1152921504606846976 ≤ b) (b2 : b ≤ 1152921504606846976) (B : Int) (hB : B = if b < 0 then -b else b) :
    ∃ m, m = ratioV d b 1073741824 ∧ ratioE d b 1073741824 = 0 ∧ m - (B / 2147483648 + 1) ≤ a ∧ a - (B / 2147483648 + 1) ≤ m := by
  by_cases hb : b = 0
  · subst hb; unfold ratioE at h0; rw [if_pos rfl] at h0; cases h0
  unfold ratioE at h0; rw [if_neg hb] at h0
  unfold ratioV at hd; rw [if_neg hb] at hd
  obtain ⟨_, _, h3⟩ := fit_zero h0
  rw [h3] at hd
  rw [ratioV_M, ratioE_M]
  have key : ∃ X, d * b = X ∧ 2 * X ≤ 2 * (a * 1073741824) + B ∧ 2 * (a * 1073741824) - B ≤ 2 * X := by
    refine ⟨_, rfl, ?_⟩
    unfold ratioQ nearest at hd
    by_cases hn : b < 0
    · rw [if_pos hn] at hd hB
      obtain ⟨C, rfl⟩ : ∃ C, b = -C := ⟨-b, by omega⟩
      rw [Int.neg_neg] at hd hB
      have e1 := Int.mul_ediv_add_emod (2 * -(a * 1073741824) + C) (2 * C)
      have e2 := Int.emod_nonneg (2 * -(a * 1073741824) + C) (show 2 * C ≠ 0 by omega)
      have e3 := Int.emod_lt_of_pos (2 * -(a * 1073741824) + C) (show 0 < 2 * C by omega)
      rw [← hd] at e1
      generalize (2 * -(a * 1073741824) + C) % (2 * C) = r at *
      rw [Int.mul_neg, Int.mul_comm d C]
      rw [Int.mul_assoc] at e1
      generalize C * d = X at *
      omega
    · rw [if_neg hn] at hd hB
      have e1 := Int.mul_ediv_add_emod (2 * (a * 1073741824) + b) (2 * b)
      have e2 := Int.emod_nonneg (2 * (a * 1073741824) + b) (show 2 * b ≠ 0 by omega)
      have e3 := Int.emod_lt_of_pos (2 * (a * 1073741824) + b) (show 0 < 2 * b by omega)
      rw [← hd] at e1
      generalize (2 * (a * 1073741824) + b) % (2 * b) = r at *
      rw [Int.mul_comm d b]
      rw [Int.mul_assoc] at e1
      generalize b * d = X at *
      omega
  obtain ⟨X, hX, k1, k2⟩ := key
  rw [hX]
  have hB0 : 0 ≤ B ∧ B ≤ 1152921504606846976 := by rw [hB]; split <;> omega
  obtain ⟨f1, f2⟩ := fit_of (q := rnd X) (by unfold rnd; omega) (by unfold rnd; omega)
  refine ⟨_, rfl, f2, ?_, ?_⟩ <;> rw [f1] <;> unfold rnd <;> omega
end Go.Proofs.Ythkklhfnmodpnaa.PM
