/-
  Unit vectors, in the package and in the specification.
-/
import Derived.Test.YtkmelddejdikgaaShift
set_option linter.unusedSimpArgs false
set_option linter.unusedVariables false
namespace Go.Proofs.Ytkmelddejdikgaa
open Go.RowKit PM Dt
def n3 (f : Nat → Int) : Int := hypQ [f 0, f 1, f 2]
theorem sqs3_i (f : Nat → Int) : ((sqs [f 0, f 1, f 2] : Nat) : Int) = f 0 * f 0 + f 1 * f 1 + f 2 * f 2 := by
  rw [sqs_cons, sqs_cons, sqs_cons, sqs_nil]
  have e : ∀ a : Int, ((a.natAbs * a.natAbs : Nat) : Int) = a * a := fun a => by rw [Int.natCast_mul]; exact Int.natAbs_mul_self' a
  have := e (f 0)
  have := e (f 1)
  have := e (f 2)
  omega
end Go.Proofs.Ytkmelddejdikgaa
