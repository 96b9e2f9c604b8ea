/-
  Rotations keep norms, and Back undoes Rotate, within the bounds of the document. No program in sight.
-/
import Derived.Test.YtkmelddejdikgaaKeep
set_option linter.unusedSimpArgs false
set_option linter.unusedVariables false
namespace Go.Proofs.Ytkmelddejdikgaa
open Go.RowKit PM Dt
theorem apply_ap (g v : Nat → Int) {i : Nat} (hi : i < 3) : ∃ e, 1073741824 * applyX g v i = ap g v i + e ∧ -536870912 ≤ e ∧ e ≤ 536870912 := by
  have : d3 (mrow g i) v = ap g v i := by
    unfold d3 ap mrow
    rw [dotS_cons, dotS_cons, dotS_cons, dotS_nil]
    show g (3 * i + 0) * v 0 + (g (3 * i + 1) * v 1 + (g (3 * i + 2) * v 2 + 0)) = _
    rw [Nat.add_zero]; omega
  unfold applyX
  rw [this]
  exact rnd_err _
theorem back_ap (g v : Nat → Int) {i : Nat} (hi : i < 3) : ∃ e, 1073741824 * backX g v i = ap (tr g) v i + e ∧ -536870912 ≤ e ∧ e ≤ 536870912 := by
  have : d3 (mcol g i) v = ap (tr g) v i := by
    unfold d3 mcol
    rw [dotS_cons, dotS_cons, dotS_cons, dotS_nil]
    have : i = 0 ∨ i = 1 ∨ i = 2 := by omega
    rcases this with rfl | rfl | rfl
    · show g 0 * v 0 + (g 3 * v 1 + (g 6 * v 2 + 0)) = g 0 * v 0 + g 3 * v 1 + g 6 * v 2
      omega
    · show g 1 * v 0 + (g 4 * v 1 + (g 7 * v 2 + 0)) = g 1 * v 0 + g 4 * v 1 + g 7 * v 2
      omega
    · show g 2 * v 0 + (g 5 * v 1 + (g 8 * v 2 + 0)) = g 2 * v 0 + g 5 * v 1 + g 8 * v 2
      omega
  unfold backX
  rw [this]
  exact rnd_err _
theorem mat_err (u : Nat → Int) : ∀ j, j < 9 → ∃ d, 1073741824 * qmatX u j = qent u j + d ∧ -536870912 ≤ d ∧ d ≤ 536870912 := fun j hj => rnd_err _
theorem mat_err' (u : Nat → Int) : ∀ j, j < 9 → ∃ d, 1073741824 * tr (qmatX u) j = tr (qent u) j + d ∧ -536870912 ≤ d ∧ d ≤ 536870912 := fun j hj => rnd_err _
end Go.Proofs.Ytkmelddejdikgaa
