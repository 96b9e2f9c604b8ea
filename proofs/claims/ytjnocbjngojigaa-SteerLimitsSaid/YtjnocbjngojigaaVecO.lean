/-
  Matrices of nine numbers: rows, and what it is that one is valid. The product of a matrix and a vector: Apply, in the package and in its specification. Columns of matrices, the transposed matrix, and its product with a vector: Back.
-/
import Derived.Test.YtjnocbjngojigaaVecF
import Derived.Deep.MidRow
import Derived.Test.YtjnocbjngojigaaBase
set_option linter.unusedSimpArgs false
set_option linter.unusedVariables false
namespace Go.Proofs.Ytjnocbjngojigaa
open Go.RowKit PM Dt
/-- Nine numbers, as cells. -/
def mfn (g : Nat → Int) : Array Value := ((List.range 9).map fun i => Value.int .i64 (g i)).toArray
attribute [irreducible] mfn
/-- Row r. -/
def mrow (g : Nat → Int) (r : Nat) : Nat → Int := fun k => g (3 * r + k)
def okM (g : Nat → Int) : Bool := okV (mrow g 0) && (okV (mrow g 1) && okV (mrow g 2))
theorem okM_iff (g : Nat → Int) : okM g = true ↔ ∀ r, r < 3 → okV (mrow g r) = true := by
  unfold okM
  rw [Bool.and_eq_true, Bool.and_eq_true]
  constructor
  · rintro ⟨h0, h1, h2⟩ i hi
    have : i = 0 ∨ i = 1 ∨ i = 2 := by omega
    rcases this with rfl | rfl | rfl <;> assumption
  · intro h; exact ⟨h 0 (by omega), h 1 (by omega), h 2 (by omega)⟩
end Go.Proofs.Ytjnocbjngojigaa
namespace Go.Proofs.Ytjnocbjngojigaa
open Go.RowKit PM Dt
/-- A component of the product. -/
def applyX (g f : Nat → Int) (i : Nat) : Int := rnd (d3 (mrow g i) f)
def vapplyF (g f : Nat → Int) : Nat → Int := if okM g && okV f then resF (applyX g f) else fun _ => 0
def vapplyE (g f : Nat → Int) : Int := if okM g && okV f then resE (applyX g f) else 2
end Go.Proofs.Ytjnocbjngojigaa
namespace Go.Proofs.Ytjnocbjngojigaa
open Go.RowKit PM Dt
/-- Column k. -/
def mcol (g : Nat → Int) (k : Nat) : Nat → Int := fun r => g (3 * r + k)
def backX (g f : Nat → Int) (i : Nat) : Int := rnd (d3 (mcol g i) f)
def vbackF (g f : Nat → Int) : Nat → Int := if okM g && okV f then resF (backX g f) else fun _ => 0
def vbackE (g f : Nat → Int) : Int := if okM g && okV f then resE (backX g f) else 2
end Go.Proofs.Ytjnocbjngojigaa
