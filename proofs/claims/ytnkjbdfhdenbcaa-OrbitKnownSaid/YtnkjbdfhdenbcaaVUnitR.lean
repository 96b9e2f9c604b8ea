/-
  Unit vectors in the specification.
-/
import Derived.Test.YtnkjbdfhdenbcaaVUnit
set_option linter.unusedSimpArgs false
set_option linter.unusedVariables false
namespace Go.Proofs.Ytnkjbdfhdenbcaa
open Go.RowKit PM Dt
end Go.Proofs.Ytnkjbdfhdenbcaa
