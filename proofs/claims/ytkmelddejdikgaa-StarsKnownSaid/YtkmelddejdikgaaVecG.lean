/-
  Sums of vectors, and small vectors.
-/
import Derived.Test.YtkmelddejdikgaaVecF
set_option linter.unusedSimpArgs false
set_option linter.unusedVariables false
namespace Go.Proofs.Ytkmelddejdikgaa
open Go.RowKit PM Dt
def addF (f g : Nat → Int) : Nat → Int := fun i => f i + g i
def vaddF (f g : Nat → Int) : Nat → Int := if okV f && okV g then resF (addF f g) else fun _ => 0
def vaddE (f g : Nat → Int) : Int := if okV f && okV g then resE (addF f g) else 2
end Go.Proofs.Ytkmelddejdikgaa
