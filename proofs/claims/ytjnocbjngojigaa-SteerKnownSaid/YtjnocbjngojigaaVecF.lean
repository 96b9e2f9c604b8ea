/-
  Sines and cosines of package fixed and of its specification: what they return. The same of the specification of vectors: dot, two, Dot, Norm, result, Cross. Vector products, in the package and in its specification. Vector products as a whole, in the package and in its specification.
-/
import Derived.Test.YtjnocbjngojigaaHyp
import Derived.Test.YtjnocbjngojigaaVecA
import Derived.Test.YtjnocbjngojigaaBase
set_option linter.unusedSimpArgs false
set_option linter.unusedVariables false
namespace Go.Proofs.Ytjnocbjngojigaa
open Go.RowKit PM Dt
/-- A product. -/
def mulV (a b : Int) : Int := ratioV a b 1073741824
/-- The sum of k terms, the last first. -/
def psum (y : Int) (t : Nat → Int) : Nat → Int
  | 0 => 0
  | k + 1 => mulV y (wrap64 (t (4 - k) - psum y t k))
attribute [irreducible] psum mulV
end Go.Proofs.Ytjnocbjngojigaa
namespace Go.Proofs.Ytjnocbjngojigaa
open Go.RowKit PM Dt
theorem vb_neg {a : Int} (h : vb a = true) : vb (-a) = true := (vb_iff _).2 (by have := (vb_iff a).1 h; omega)
end Go.Proofs.Ytjnocbjngojigaa
namespace Go.Proofs.Ytjnocbjngojigaa
open Go.RowKit PM Dt
end Go.Proofs.Ytjnocbjngojigaa
namespace Go.Proofs.Ytjnocbjngojigaa
open Go.RowKit PM Dt
def resF (x : Nat → Int) : Nat → Int := if okV x then x else fun _ => 0
def resE (x : Nat → Int) : Int := if okV x then 0 else 7
end Go.Proofs.Ytjnocbjngojigaa
