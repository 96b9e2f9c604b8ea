/-
  The rotation between two attitudes, in the package and in its specification.
-/
import Derived.Test.YtkmelddejdikgaaTurn
import Derived.Test.YtkmelddejdikgaaBase
set_option linter.unusedSimpArgs false
set_option linter.unusedVariables false
namespace Go.Proofs.Ytkmelddejdikgaa
open Go.RowKit PM Dt
def negF (p : Nat → Int) : Nat → Int := fun i => -p i
def betX (f g : Nat → Int) : Nat → Int := if qprodF (conjF f) g 0 < 0 then negF (qprodF (conjF f) g) else qprodF (conjF f) g
def betF (f g : Nat → Int) : Nat → Int := if validQ f && validQ g then betX f g else fun _ => 0
def betE (f g : Nat → Int) : Int := if validQ f && validQ g then 0 else 2
end Go.Proofs.Ytkmelddejdikgaa
