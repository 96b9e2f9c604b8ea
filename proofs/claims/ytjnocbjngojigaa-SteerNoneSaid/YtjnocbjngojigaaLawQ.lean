/-
  The matrix of a quaternion, in the package. Vectors turned by a quaternion, in the package and in the specification. What the statements on quaternions ask for first, and the equality of quaternions. A quaternion of four numbers as a row's argument: opened and shut.
-/
import Derived.Test.YtjnocbjngojigaaQuatD
import Derived.Test.YtjnocbjngojigaaVecO
import Derived.Test.YtjnocbjngojigaaBase
import Derived.Test.YtjnocbjngojigaaQEq
import Derived.Test.YtjnocbjngojigaaLawVec
import Derived.Test.YtjnocbjngojigaaFrameV
import Derived.Laws.IdiomArrays
import Derived.WalkKit
import Derived.ProofKit
import Derived.OpenShut
import Derived.ShutString
import Derived.ChangeOld
import Derived.Below
set_option linter.unusedSimpArgs false
set_option linter.unusedVariables false
namespace Go.Proofs.Ytjnocbjngojigaa
open Go.RowKit PM Dt
/-- The entries of the matrix, as integers ahead of rounding. -/
def qent (f : Nat → Int) : Nat → Int
  | 0 => f 0 * f 0 + f 1 * f 1 - f 2 * f 2 - f 3 * f 3
  | 1 => 2 * (f 1 * f 2) - 2 * (f 0 * f 3)
  | 2 => 2 * (f 1 * f 3) + 2 * (f 0 * f 2)
  | 3 => 2 * (f 1 * f 2) + 2 * (f 0 * f 3)
  | 4 => f 0 * f 0 - f 1 * f 1 + f 2 * f 2 - f 3 * f 3
  | 5 => 2 * (f 2 * f 3) - 2 * (f 0 * f 1)
  | 6 => 2 * (f 1 * f 3) - 2 * (f 0 * f 2)
  | 7 => 2 * (f 2 * f 3) + 2 * (f 0 * f 1)
  | _ => f 0 * f 0 - f 1 * f 1 - f 2 * f 2 + f 3 * f 3
def qmatX (f : Nat → Int) (j : Nat) : Int := rnd (qent f j)
end Go.Proofs.Ytjnocbjngojigaa
namespace Go.Proofs.Ytjnocbjngojigaa
open Go.RowKit PM Dt
def qrotF (f v : Nat → Int) : Nat → Int := if validQ f then vapplyF (qmatX f) v else fun _ => 0
def qrotE (f v : Nat → Int) : Int := if validQ f then vapplyE (qmatX f) v else 2
def qbackF (f v : Nat → Int) : Nat → Int := if validQ f then vbackF (qmatX f) v else fun _ => 0
def qbackE (f v : Nat → Int) : Int := if validQ f then vbackE (qmatX f) v else 2
end Go.Proofs.Ytjnocbjngojigaa
namespace Go.Proofs.Ytjnocbjngojigaa
open Go.RowKit PM Dt
end Go.Proofs.Ytjnocbjngojigaa
namespace Go.Proofs.Ytjnocbjngojigaa
open Go.ChangeShapes Go.WideShapes Go.ChangeAt Go.RowKit
end Go.Proofs.Ytjnocbjngojigaa
