/-
  The matrix of a quaternion, in the specification.
-/
import Derived.Test.YtcgpcehdeihalaaQuatE
set_option linter.unusedSimpArgs false
set_option linter.unusedVariables false
namespace Go.Proofs.Ytcgpcehdeihalaa
open Go.RowKit PM Dt
end Go.Proofs.Ytcgpcehdeihalaa
