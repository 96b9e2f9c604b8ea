/-
  Sums of vectors, and small vectors.
-/
import Derived.Test.YtkmelddejdikgaaVecF
set_option linter.unusedSimpArgs false
set_option linter.unusedVariables false
namespace Go.Proofs.Ytkmelddejdikgaa
open Go.RowKit PM Dt
def sb (m a : Int) : Bool := decide (-m ≤ a) && decide (a ≤ m)
end Go.Proofs.Ytkmelddejdikgaa
