/-
  Sums of vectors, and small vectors.
-/
import Derived.Test.YtkmelddejdikgaaVecF
set_option linter.unusedSimpArgs false
set_option linter.unusedVariables false
namespace Go.Proofs.Ytkmelddejdikgaa
open Go.RowKit PM Dt
def sb (m a : Int) : Bool := decide (-m ≤ a) && decide (a ≤ m)
theorem sb_iff (m a : Int) : sb m a = true ↔ (-m ≤ a ∧ a ≤ m) := by unfold sb; rw [Bool.and_eq_true, decide_eq_true_eq, decide_eq_true_eq]
def smallB (f : Nat → Int) (m : Int) : Bool := sb m (f 0) && (sb m (f 1) && sb m (f 2))
theorem smallB_iff (f : Nat → Int) (m : Int) : smallB f m = true ↔ ∀ i, i < 3 → sb m (f i) = true := by
  unfold smallB
  rw [Bool.and_eq_true, Bool.and_eq_true]
  constructor
  · rintro ⟨h0, h1, h2⟩ i hi
    have : i = 0 ∨ i = 1 ∨ i = 2 := by omega
    rcases this with rfl | rfl | rfl <;> assumption
  · intro h; exact ⟨h 0 (by omega), h 1 (by omega), h 2 (by omega)⟩
theorem smallB_no {f : Nat → Int} {m : Int} {i : Nat} (h : i < 3) (hb : ¬ (-m ≤ f i ∧ f i ≤ m)) : smallB f m = false := by
  rw [Bool.eq_false_iff]; intro h2
  exact hb ((sb_iff _ _).1 ((smallB_iff f m).1 h2 i h))
end Go.Proofs.Ytkmelddejdikgaa
