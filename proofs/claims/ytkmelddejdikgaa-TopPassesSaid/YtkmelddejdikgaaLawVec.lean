/-
  What the statements on vectors ask for first, and the equality of vectors.
-/
import Derived.Test.YtkmelddejdikgaaVecF
set_option linter.unusedSimpArgs false
set_option linter.unusedVariables false
namespace Go.Proofs.Ytkmelddejdikgaa
open Go.RowKit PM Dt
/-- The components of a vector out of three numbers. -/
def of3 (a b c : Int) : Nat → Int
  | 0 => a
  | 1 => b
  | _ => c
theorem of3_cells (a b c : Int) : #[Value.int .i64 a, .int .i64 b, .int .i64 c] = vfn (of3 a b c) := by unfold vfn; rfl
end Go.Proofs.Ytkmelddejdikgaa
