/-
  Shortened vectors: Limit of the package.
-/
import Derived.Test.YtkmelddejdikgaaVUnit
import Derived.Test.YtkmelddejdikgaaShift
set_option linter.unusedSimpArgs false
set_option linter.unusedVariables false
namespace Go.Proofs.Ytkmelddejdikgaa
open Go.RowKit PM Dt
def okL (f : Nat → Int) (m : Int) : Prop := okV f = true ∧ 0 ≤ m ∧ m ≤ 1099511627776
instance (f : Nat → Int) (m : Int) : Decidable (okL f m) := by unfold okL; infer_instance
end Go.Proofs.Ytkmelddejdikgaa
