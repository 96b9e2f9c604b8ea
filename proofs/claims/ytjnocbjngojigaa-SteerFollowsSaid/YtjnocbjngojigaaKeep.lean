/-
  Rotations keep norms, and Back undoes Rotate: arithmetic. No program in sight.
-/
import Derived.Test.YtjnocbjngojigaaLenQ
import Derived.Test.YtjnocbjngojigaaLawQ
set_option linter.unusedSimpArgs false
set_option linter.unusedVariables false
namespace Go.Proofs.Ytjnocbjngojigaa
open Go.RowKit PM Dt
theorem abs_le_of_sq {x p : Int} (hp : 0 ≤ p) (h : x * x ≤ p * p) : -p ≤ x ∧ x ≤ p := by
  have := sqv_lt (a := x) (b := p + 1) (by omega) (by
    have e : (p + 1) * (p + 1) = p * p + 2 * p + 1 := by grind
    omega)
  omega
def vv (f : Nat → Int) : Int := f 0 * f 0 + f 1 * f 1 + f 2 * f 2
def ap (E : Nat → Int) (v : Nat → Int) (i : Nat) : Int := E (3 * i) * v 0 + E (3 * i + 1) * v 1 + E (3 * i + 2) * v 2
def tr (E : Nat → Int) : Nat → Int := fun j => E (3 * (j % 3) + j / 3)
theorem qent_orth (f v : Nat → Int) : vv (ap (qent f) v) = nn f * nn f * vv v := by
  unfold vv ap nn qent
  grind
theorem qent_orth' (f v : Nat → Int) : vv (ap (tr (qent f)) v) = nn f * nn f * vv v := by
  unfold vv ap nn tr
  show (qent f 0 * v 0 + qent f 3 * v 1 + qent f 6 * v 2) * (qent f 0 * v 0 + qent f 3 * v 1 + qent f 6 * v 2) + (qent f 1 * v 0 + qent f 4 * v 1 + qent f 7 * v 2) * (qent f 1 * v 0 + qent f 4 * v 1 + qent f 7 * v 2) + (qent f 2 * v 0 + qent f 5 * v 1 + qent f 8 * v 2) * (qent f 2 * v 0 + qent f 5 * v 1 + qent f 8 * v 2) = _
  unfold qent
  grind
end Go.Proofs.Ytjnocbjngojigaa
