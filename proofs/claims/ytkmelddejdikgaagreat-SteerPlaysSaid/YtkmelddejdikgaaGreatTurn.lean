/-
  Turned attitudes, in the package: Turn.
-/
import Derived.Test.YtkmelddejdikgaaGreatUnitR
import Derived.Test.YtkmelddejdikgaaGreatQEq
import Derived.Test.YtkmelddejdikgaaGreatVecG
set_option linter.unusedSimpArgs false
set_option linter.unusedVariables false
namespace Go.Proofs.YtkmelddejdikgaaGreat
open Go.RowKit PM Dt
def rq (g : Nat → Int) : Nat → Int := fun i => if i = 0 then 1073741824 else if i = 1 then g 0 else if i = 2 then g 1 else g 2
def turnOk (f g : Nat → Int) : Bool := validQ f && smallB g 1073741824
def turnF (f g : Nat → Int) : Nat → Int := if turnOk f g then qunF (qprodF f (rq g)) else fun _ => 0
def turnE (f g : Nat → Int) : Int := if turnOk f g then qunE (qprodF f (rq g)) else 2
end Go.Proofs.YtkmelddejdikgaaGreat
