/-
  Rotations keep norms, and Back undoes Rotate: arithmetic. No program in sight.
-/
import Derived.Test.YtkmelddejdikgaaLenQ
import Derived.Test.YtkmelddejdikgaaLawQ
set_option linter.unusedSimpArgs false
set_option linter.unusedVariables false
namespace Go.Proofs.Ytkmelddejdikgaa
open Go.RowKit PM Dt
theorem abs_le_of_sq {x p : Int} (hp : 0 ≤ p) (h : x * x ≤ p * p) : -p ≤ x ∧ x ≤ p := by
  have := sqv_lt (a := x) (b := p + 1) (by omega) (by
    have e : (p + 1) * (p + 1) = p * p + 2 * p + 1 := by grind
    omega)
  omega
theorem cauchy3 (x0 x1 x2 y0 y1 y2 : Int) : (x0 * y0 + x1 * y1 + x2 * y2) * (x0 * y0 + x1 * y1 + x2 * y2) ≤ (x0 * x0 + x1 * x1 + x2 * x2) * (y0 * y0 + y1 * y1 + y2 * y2) := by
  have h1 := sq_nn (x0 * y1 - x1 * y0)
  have h2 := sq_nn (x0 * y2 - x2 * y0)
  have h3 := sq_nn (x1 * y2 - x2 * y1)
  have e : (x0 * x0 + x1 * x1 + x2 * x2) * (y0 * y0 + y1 * y1 + y2 * y2) = (x0 * y0 + x1 * y1 + x2 * y2) * (x0 * y0 + x1 * y1 + x2 * y2) + ((x0 * y1 - x1 * y0) * (x0 * y1 - x1 * y0) + (x0 * y2 - x2 * y0) * (x0 * y2 - x2 * y0) + (x1 * y2 - x2 * y1) * (x1 * y2 - x2 * y1)) := by grind
  omega
theorem tri3 {x0 x1 x2 y0 y1 y2 X Y : Int} (hX : 0 ≤ X) (hY : 0 ≤ Y) (hx : x0 * x0 + x1 * x1 + x2 * x2 ≤ X * X) (hy : y0 * y0 + y1 * y1 + y2 * y2 ≤ Y * Y) :
    (x0 + y0) * (x0 + y0) + (x1 + y1) * (x1 + y1) + (x2 + y2) * (x2 + y2) ≤ (X + Y) * (X + Y) := by
  have hc := cauchy3 x0 x1 x2 y0 y1 y2
  have n0 := sq_nn x0
  have n1 := sq_nn x1
  have n2 := sq_nn x2
  have m0 := sq_nn y0
  have m1 := sq_nn y1
  have m2 := sq_nn y2
  have hp : (x0 * x0 + x1 * x1 + x2 * x2) * (y0 * y0 + y1 * y1 + y2 * y2) ≤ (X * X) * (Y * Y) := Int.mul_le_mul hx hy (by omega) (sq_nn X)
  have e : (X * X) * (Y * Y) = (X * Y) * (X * Y) := by grind
  have hd := (abs_le_of_sq (x := x0 * y0 + x1 * y1 + x2 * y2) (p := X * Y) (Int.mul_nonneg hX hY) (by omega)).2
  have e1 : (x0 + y0) * (x0 + y0) + (x1 + y1) * (x1 + y1) + (x2 + y2) * (x2 + y2) = (x0 * x0 + x1 * x1 + x2 * x2) + (y0 * y0 + y1 * y1 + y2 * y2) + 2 * (x0 * y0 + x1 * y1 + x2 * y2) := by grind
  have e2 : (X + Y) * (X + Y) = X * X + Y * Y + 2 * (X * Y) := by grind
  omega
def vv (f : Nat → Int) : Int := f 0 * f 0 + f 1 * f 1 + f 2 * f 2
def ap (E : Nat → Int) (v : Nat → Int) (i : Nat) : Int := E (3 * i) * v 0 + E (3 * i + 1) * v 1 + E (3 * i + 2) * v 2
def tr (E : Nat → Int) : Nat → Int := fun j => E (3 * (j % 3) + j / 3)
theorem qent_orth (f v : Nat → Int) : vv (ap (qent f) v) = nn f * nn f * vv v := by
  unfold vv ap nn qent
  grind
theorem qent_orth' (f v : Nat → Int) : vv (ap (tr (qent f)) v) = nn f * nn f * vv v := by
  unfold vv ap nn tr
  show (qent f 0 * v 0 + qent f 3 * v 1 + qent f 6 * v 2) * (qent f 0 * v 0 + qent f 3 * v 1 + qent f 6 * v 2) + (qent f 1 * v 0 + qent f 4 * v 1 + qent f 7 * v 2) * (qent f 1 * v 0 + qent f 4 * v 1 + qent f 7 * v 2) + (qent f 2 * v 0 + qent f 5 * v 1 + qent f 8 * v 2) * (qent f 2 * v 0 + qent f 5 * v 1 + qent f 8 * v 2) = _
  unfold qent
  grind
end Go.Proofs.Ytkmelddejdikgaa
