/-
  The matrix of a quaternion, in the specification.
-/
import Derived.Test.YtipnonmejifknaaQuatE
set_option linter.unusedSimpArgs false
set_option linter.unusedVariables false
namespace Go.Proofs.Ytipnonmejifknaa
open Go.RowKit PM Dt
end Go.Proofs.Ytipnonmejifknaa
