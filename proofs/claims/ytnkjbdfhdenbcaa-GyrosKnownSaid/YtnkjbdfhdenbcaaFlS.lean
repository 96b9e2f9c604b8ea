/-
  Small vectors, and parts of them.
-/
import Derived.Test.YtnkjbdfhdenbcaaFlC
set_option linter.unusedSimpArgs false
set_option linter.unusedVariables false
namespace Go.Proofs.Ytnkjbdfhdenbcaa
open Go.RowKit PM Dt
theorem small_bd {f : Nat → Int} {m : Int} (h : smallB f m = true) : ∀ i, i < 3 → -m ≤ f i ∧ f i ≤ m := by
  simp only [smallB, sb, Bool.and_eq_true, decide_eq_true_eq] at h
  intro i hi
  rcases (show i = 0 ∨ i = 1 ∨ i = 2 by omega) with rfl | rfl | rfl
  · exact h.1
  · exact h.2.1
  · exact h.2.2
theorem vb_of {a : Int} (h : -1099511627776 ≤ a ∧ a ≤ 1099511627776) : vb a = true := (vb_iff _).2 h
theorem okV_of {f : Nat → Int} (h : ∀ i, i < 3 → -1099511627776 ≤ f i ∧ f i ≤ 1099511627776) : okV f = true := (okV_iff f).2 fun i hi => vb_of (h i hi)
theorem vsub_small {r B : Nat → Int} (hr : smallB r 268435456 = true) (hB : ∀ i, i < 3 → -16777216 ≤ B i ∧ B i ≤ 16777216) : ∀ i, i < 3 → vsubF r B i = r i - B i := by
  have h1 := small_bd hr
  have o1 : okV r = true := okV_of fun i hi => by have := h1 i hi; omega
  have o2 : okV B = true := okV_of fun i hi => by have := hB i hi; omega
  have o3 : okV (subF r B) = true := okV_of fun i hi => by have := hB i hi; have := h1 i hi; unfold subF; omega
  intro i hi
  unfold vsubF resF
  rw [o1, o2, o3]
  rfl
theorem ratio1 {a d : Int} (hd : 0 < d) (hd2 : d ≤ 1099511627776) (ha : I64 a) : ratioV a 1 d = (2 * a + d) / (2 * d) := by
  have h3 : d ≠ 0 := by omega
  have h4 : ¬ d < 0 := by omega
  have h0 : (2 * a + d) / (2 * d) ≤ 9223372036854775807 ∧ -9223372036854775808 ≤ (2 * a + d) / (2 * d) := by
    constructor
    · refine Int.le_of_lt_add_one ((Int.ediv_lt_iff_lt_mul (by omega)).2 ?_)
      have := ha.2
      have h5 : 9223372036854775808 * (2 * d) ≥ 9223372036854775808 * 2 := by omega
      by_cases h6 : d = 1
      · subst h6; omega
      · omega
    · refine (Int.le_ediv_iff_mul_le (by omega)).2 ?_
      have := ha.1
      omega
  unfold ratioV ratioQ
  rw [if_neg h3, if_neg h4, Int.mul_one]
  unfold nearest fitV inI
  rw [if_pos (by rw [Bool.and_eq_true, decide_eq_true_eq, decide_eq_true_eq]; exact ⟨h0.2, h0.1⟩)]
end Go.Proofs.Ytnkjbdfhdenbcaa
