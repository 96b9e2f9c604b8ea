/-
  Quaternions of four numbers: what it is that one is bounded, conjugates, and what it is that one is valid, in the package and in its specification. Conjugates of quaternions, and what it is that one is valid, in the package and in its specification.
-/
import Derived.Test.YtkmelddejdikgaaVecF
import Derived.Test.YtkmelddejdikgaaBase
set_option linter.unusedSimpArgs false
set_option linter.unusedVariables false
namespace Go.Proofs.Ytkmelddejdikgaa
open Go.RowKit PM Dt
/-- Four numbers, as cells. -/
def qfn (f : Nat → Int) : Array Value := #[.int .i64 (f 0), .int .i64 (f 1), .int .i64 (f 2), .int .i64 (f 3)]
attribute [irreducible] qfn
end Go.Proofs.Ytkmelddejdikgaa
namespace Go.Proofs.Ytkmelddejdikgaa
open Go.RowKit PM Dt
end Go.Proofs.Ytkmelddejdikgaa
