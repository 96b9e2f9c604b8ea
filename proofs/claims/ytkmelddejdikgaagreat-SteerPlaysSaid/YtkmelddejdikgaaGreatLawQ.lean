/-
  Matrices of nine numbers: rows, and what it is that one is valid. The product of a matrix and a vector: Apply, in the package and in its specification. Columns of matrices, the transposed matrix, and its product with a vector: Back. The matrix of a quaternion, in the package. Vectors turned by a quaternion, in the package and in the specification. What the statements on quaternions ask for first, and the equality of quaternions. A quaternion of four numbers as a row's argument: opened and shut.
-/
import Derived.Test.YtkmelddejdikgaaGreatVecF
import Derived.Deep.MidRow
import Derived.Test.YtkmelddejdikgaaGreatBase
import Derived.Test.YtkmelddejdikgaaGreatQuatD
import Derived.Test.YtkmelddejdikgaaGreatQEq
import Derived.Test.YtkmelddejdikgaaGreatLawVec
import Derived.Test.YtkmelddejdikgaaGreatFrameV
import Derived.Laws.IdiomArrays
import Derived.WalkKit
import Derived.ProofKit
import Derived.OpenShut
import Derived.ShutString
import Derived.ChangeOld
import Derived.Below
set_option linter.unusedSimpArgs false
set_option linter.unusedVariables false
namespace Go.Proofs.YtkmelddejdikgaaGreat
open Go.RowKit PM Dt
def mfn (g : Nat → Int) : Array Value := ((List.range 9).map fun i => Value.int .i64 (g i)).toArray
attribute [irreducible] mfn
def mrow (g : Nat → Int) (r : Nat) : Nat → Int := fun k => g (3 * r + k)
def okM (g : Nat → Int) : Bool := okV (mrow g 0) && (okV (mrow g 1) && okV (mrow g 2))
theorem okM_iff (g : Nat → Int) : okM g = true ↔ ∀ r, r < 3 → okV (mrow g r) = true := by
 unfold okM
 rw [Bool.and_eq_true, Bool.and_eq_true]
 constructor
 ·rintro ⟨h0, h1, h2⟩ i hi
  have : i = 0 ∨ i = 1 ∨ i = 2 := by omega
  rcases this with rfl | rfl | rfl <;> assumption
 ·intro h; exact ⟨h 0 (by omega), h 1 (by omega), h 2 (by omega)⟩
def applyX (g f : Nat → Int) (i : Nat) : Int := rnd (d3 (mrow g i) f)
def vapplyF (g f : Nat → Int) : Nat → Int := if okM g && okV f then resF (applyX g f) else fun _ => 0
def vapplyE (g f : Nat → Int) : Int := if okM g && okV f then resE (applyX g f) else 2
def mcol (g : Nat → Int) (k : Nat) : Nat → Int := fun r => g (3 * r + k)
def backX (g f : Nat → Int) (i : Nat) : Int := rnd (d3 (mcol g i) f)
def vbackF (g f : Nat → Int) : Nat → Int := if okM g && okV f then resF (backX g f) else fun _ => 0
def vbackE (g f : Nat → Int) : Int := if okM g && okV f then resE (backX g f) else 2
abbrev Wd (a : Int) : Prop := -2199023255552 ≤ a ∧ a ≤ 2199023255552
theorem Wd.I {a : Int} (h : Wd a) : I64 a := ⟨by have := h.1; omega, by have := h.2; omega⟩
def qent (f : Nat → Int) : Nat → Int
 | 0 => f 0 * f 0 + f 1 * f 1 - f 2 * f 2 - f 3 * f 3
 | 1 => 2 * (f 1 * f 2) - 2 * (f 0 * f 3)
 | 2 => 2 * (f 1 * f 3) + 2 * (f 0 * f 2)
 | 3 => 2 * (f 1 * f 2) + 2 * (f 0 * f 3)
 | 4 => f 0 * f 0 - f 1 * f 1 + f 2 * f 2 - f 3 * f 3
 | 5 => 2 * (f 2 * f 3) - 2 * (f 0 * f 1)
 | 6 => 2 * (f 1 * f 3) - 2 * (f 0 * f 2)
 | 7 => 2 * (f 2 * f 3) + 2 * (f 0 * f 1)
 | _ => f 0 * f 0 - f 1 * f 1 - f 2 * f 2 + f 3 * f 3
def qmatX (f : Nat → Int) (j : Nat) : Int := rnd (qent f j)
def qrotF (f v : Nat → Int) : Nat → Int := if validQ f then vapplyF (qmatX f) v else fun _ => 0
def qrotE (f v : Nat → Int) : Int := if validQ f then vapplyE (qmatX f) v else 2
def qbackF (f v : Nat → Int) : Nat → Int := if validQ f then vbackF (qmatX f) v else fun _ => 0
def qbackE (f v : Nat → Int) : Int := if validQ f then vbackE (qmatX f) v else 2
end Go.Proofs.YtkmelddejdikgaaGreat
namespace Go.Proofs.YtkmelddejdikgaaGreat
open Go.ChangeShapes Go.WideShapes Go.ChangeAt Go.RowKit
end Go.Proofs.YtkmelddejdikgaaGreat
