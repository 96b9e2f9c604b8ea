/-
  Residuals of the program.
-/
import Derived.Test.YtkmelddejdikgaaSkB
import Derived.Test.YtkmelddejdikgaaLawQ
import Derived.Test.YtkmelddejdikgaaLenN
import Derived.Test.YtkmelddejdikgaaVecG
import Derived.Test.YtkmelddejdikgaaLawVec
import Derived.Test.YtkmelddejdikgaaBase
set_option linter.unusedSimpArgs false
set_option linter.unusedVariables false
namespace Go.Proofs.Ytkmelddejdikgaa
open Go.RowKit PM Dt
theorem over_v' (a b : Nat → Int) : over (vfn a) 0 (vfn b).toList = vfn b := by unfold vfn; rfl
theorem valS_iff {S : Nat → Sgt} {n : Nat} : valS S n = true ↔ (0 < n ∧ n ≤ 16 ∧ ∀ k, k < n → sgOk (S k) = true) := by
  unfold valS
  simp only [Bool.and_eq_true, decide_eq_true_eq, List.all_eq_true, List.mem_range]
end Go.Proofs.Ytkmelddejdikgaa
