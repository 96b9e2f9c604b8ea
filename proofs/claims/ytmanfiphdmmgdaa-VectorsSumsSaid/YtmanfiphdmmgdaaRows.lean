/-
  No cell of these rows narrows 'for every input' (looked for: loops, veiled, ifaces, maps, wideKeys, modest, calm, conditions, laid).
  DERIVED. THE GIVEN ROWS OF THIS SEAT. 11 by the template 'for every input the law returns true; each argument reads behind the call as it read before'; 0 by the template 'total and deterministic' (their statements: YtmanfiphdmmgdaaTotals.lean).
  GIVEN WITH THE SEED: the statements are not yours to turn. If you find one false, say at which input.
  Laid BY PROGRAM, IN A SANDBOX (cutbox-rows.mjs): the forced cells as the released guide's own fill.sh prints them over the translation 240ff6538ac33acf… (all of the seat's roots in one cut). By AI agents, Wed Nov 11 2026. No macro, syntax, notation, axiom, sorry.
-/
import Derived.Test.YtmanfiphdmmgdaaChecked
import GoSem.Claim
import GoSem.ClaimJoined
import GoSem.ClaimMapViews
import Derived.JoinedTies
import Derived.KernelRfl
namespace Go.Proofs.Ytmanfiphdmmgdaa
/- THE CELL 'sum', in the pinned program and in every row, IS THE sha256 OF THE DUMP (.gsa) THAT YtmanfiphdmmgdaaProg.lean LOADS. Nothing in Lean hashes anything: it is a label: what it is worth is what the hold of that sum in a sandbox is worth. -/
noncomputable def Try.pinned : Pinned := { name := "ytmanfiphdmmgdaa", sum := "240ff6538ac33acfee723012952519c76f14ab07d5bb77047b9eecdf23554a48", checked := Try.checked }
namespace Rows
def none {H : Type} : Left H := { results := [], args := [] }

/-- 'perigeelaw18.VectorsProducts': WHATEVER THE INPUT: true; the input reads as it did. -/
def vectorsProductsSpec : ChangeSpec := { name := "vectorsProducts", fn := fun _ => fun
  | [d1, d2] => { results := [.lit (.bool true)], args := [d1, d2] }
  | _ => none }
def vectorsProductsRow : OpenClaim := { program := "ytmanfiphdmmgdaa", sum := "240ff6538ac33acfee723012952519c76f14ab07d5bb77047b9eecdf23554a48", func := "perigee/perigeelaw18.VectorsProducts", spec := "vectorsProducts", inPlace := ["math/bits.Add64", "math/bits.Sub64"], unfollowed := true, recurses := true, apart := false }
def VectorsProductsSaid : Prop := vectorsProductsRow.holds Try.pinned (OpenSpec.ofChange vectorsProductsSpec)

/-- ITS FALSE NEIGHBOUR: 'it returns false'. Refute it at one input. -/
def vectorsProductsWrong : ChangeSpec := { name := "vectorsProducts", fn := fun _ => fun
  | [d1, d2] => { results := [.lit (.bool false)], args := [d1, d2] }
  | _ => none }
def VectorsProductsWrongFalsely : Prop := vectorsProductsRow.holds Try.pinned (OpenSpec.ofChange vectorsProductsWrong)

/-- 'perigeelaw18.VectorsCrossed': WHATEVER THE INPUT: true; the input reads as it did. -/
def vectorsCrossedSpec : ChangeSpec := { name := "vectorsCrossed", fn := fun _ => fun
  | [d1, d2] => { results := [.lit (.bool true)], args := [d1, d2] }
  | _ => none }
def vectorsCrossedRow : OpenClaim := { program := "ytmanfiphdmmgdaa", sum := "240ff6538ac33acfee723012952519c76f14ab07d5bb77047b9eecdf23554a48", func := "perigee/perigeelaw18.VectorsCrossed", spec := "vectorsCrossed", inPlace := ["math/bits.Add64", "math/bits.Sub64"], unfollowed := true, recurses := true, apart := false }
def VectorsCrossedSaid : Prop := vectorsCrossedRow.holds Try.pinned (OpenSpec.ofChange vectorsCrossedSpec)

/-- ITS FALSE NEIGHBOUR: 'it returns false'. Refute it at one input. -/
def vectorsCrossedWrong : ChangeSpec := { name := "vectorsCrossed", fn := fun _ => fun
  | [d1, d2] => { results := [.lit (.bool false)], args := [d1, d2] }
  | _ => none }
def VectorsCrossedWrongFalsely : Prop := vectorsCrossedRow.holds Try.pinned (OpenSpec.ofChange vectorsCrossedWrong)

/-- 'perigeelaw18.VectorsMatrices': WHATEVER THE INPUT: true; the input reads as it did. -/
def vectorsMatricesSpec : ChangeSpec := { name := "vectorsMatrices", fn := fun _ => fun
  | [d1, d2, d3] => { results := [.lit (.bool true)], args := [d1, d2, d3] }
  | _ => none }
def vectorsMatricesRow : OpenClaim := { program := "ytmanfiphdmmgdaa", sum := "240ff6538ac33acfee723012952519c76f14ab07d5bb77047b9eecdf23554a48", func := "perigee/perigeelaw18.VectorsMatrices", spec := "vectorsMatrices", inPlace := ["math/bits.Add64", "math/bits.Sub64"], unfollowed := true, recurses := true, apart := false }
def VectorsMatricesSaid : Prop := vectorsMatricesRow.holds Try.pinned (OpenSpec.ofChange vectorsMatricesSpec)

/-- ITS FALSE NEIGHBOUR: 'it returns false'. Refute it at one input. -/
def vectorsMatricesWrong : ChangeSpec := { name := "vectorsMatrices", fn := fun _ => fun
  | [d1, d2, d3] => { results := [.lit (.bool false)], args := [d1, d2, d3] }
  | _ => none }
def VectorsMatricesWrongFalsely : Prop := vectorsMatricesRow.holds Try.pinned (OpenSpec.ofChange vectorsMatricesWrong)

/-- 'perigeelaw19.QuatsProducts': WHATEVER THE INPUT: true; the input reads as it did. -/
def quatsProductsSpec : ChangeSpec := { name := "quatsProducts", fn := fun _ => fun
  | [d1, d2] => { results := [.lit (.bool true)], args := [d1, d2] }
  | _ => none }
def quatsProductsRow : OpenClaim := { program := "ytmanfiphdmmgdaa", sum := "240ff6538ac33acfee723012952519c76f14ab07d5bb77047b9eecdf23554a48", func := "perigee/perigeelaw19.QuatsProducts", spec := "quatsProducts", inPlace := ["math/bits.Add64", "math/bits.Sub64"], unfollowed := true, recurses := true, apart := false }
def QuatsProductsSaid : Prop := quatsProductsRow.holds Try.pinned (OpenSpec.ofChange quatsProductsSpec)

/-- ITS FALSE NEIGHBOUR: 'it returns false'. Refute it at one input. -/
def quatsProductsWrong : ChangeSpec := { name := "quatsProducts", fn := fun _ => fun
  | [d1, d2] => { results := [.lit (.bool false)], args := [d1, d2] }
  | _ => none }
def QuatsProductsWrongFalsely : Prop := quatsProductsRow.holds Try.pinned (OpenSpec.ofChange quatsProductsWrong)

/-- 'perigeelaw19.QuatsRotates': WHATEVER THE INPUT: true; the input reads as it did. -/
def quatsRotatesSpec : ChangeSpec := { name := "quatsRotates", fn := fun _ => fun
  | [d1, d2] => { results := [.lit (.bool true)], args := [d1, d2] }
  | _ => none }
def quatsRotatesRow : OpenClaim := { program := "ytmanfiphdmmgdaa", sum := "240ff6538ac33acfee723012952519c76f14ab07d5bb77047b9eecdf23554a48", func := "perigee/perigeelaw19.QuatsRotates", spec := "quatsRotates", inPlace := ["math/bits.Add64", "math/bits.Sub64"], unfollowed := true, recurses := true, apart := false }
def QuatsRotatesSaid : Prop := quatsRotatesRow.holds Try.pinned (OpenSpec.ofChange quatsRotatesSpec)

/-- ITS FALSE NEIGHBOUR: 'it returns false'. Refute it at one input. -/
def quatsRotatesWrong : ChangeSpec := { name := "quatsRotates", fn := fun _ => fun
  | [d1, d2] => { results := [.lit (.bool false)], args := [d1, d2] }
  | _ => none }
def QuatsRotatesWrongFalsely : Prop := quatsRotatesRow.holds Try.pinned (OpenSpec.ofChange quatsRotatesWrong)

/-- 'perigeelaw01.FixedAlgebra': WHATEVER THE INPUT: true; the input reads as it did. -/
def fixedAlgebraSpec : ChangeSpec := { name := "fixedAlgebra", fn := fun _ => fun
  | [d1, d2] => { results := [.lit (.bool true)], args := [d1, d2] }
  | _ => none }
def fixedAlgebraRow : OpenClaim := { program := "ytmanfiphdmmgdaa", sum := "240ff6538ac33acfee723012952519c76f14ab07d5bb77047b9eecdf23554a48", func := "perigee/perigeelaw01.FixedAlgebra", spec := "fixedAlgebra", inPlace := ["math/bits.Add64"], unfollowed := true, recurses := true, named := ["math/bits.divideError", "math/bits.overflowError"], apart := false }
def FixedAlgebraSaid : Prop := fixedAlgebraRow.holds Try.pinned (OpenSpec.ofChange fixedAlgebraSpec)

/-- ITS FALSE NEIGHBOUR: 'it returns false'. Refute it at one input. -/
def fixedAlgebraWrong : ChangeSpec := { name := "fixedAlgebra", fn := fun _ => fun
  | [d1, d2] => { results := [.lit (.bool false)], args := [d1, d2] }
  | _ => none }
def FixedAlgebraWrongFalsely : Prop := fixedAlgebraRow.holds Try.pinned (OpenSpec.ofChange fixedAlgebraWrong)

/-- 'perigeelaw01.FixedCircle': WHATEVER THE INPUT: true; the input reads as it did. -/
def fixedCircleSpec : ChangeSpec := { name := "fixedCircle", fn := fun _ => fun
  | [d] => { results := [.lit (.bool true)], args := [d] }
  | _ => none }
def fixedCircleRow : OpenClaim := { program := "ytmanfiphdmmgdaa", sum := "240ff6538ac33acfee723012952519c76f14ab07d5bb77047b9eecdf23554a48", func := "perigee/perigeelaw01.FixedCircle", spec := "fixedCircle", inPlace := ["math/bits.Add64"], unfollowed := true, recurses := true, named := ["math/bits.divideError", "math/bits.overflowError"], apart := false }
def FixedCircleSaid : Prop := fixedCircleRow.holds Try.pinned (OpenSpec.ofChange fixedCircleSpec)

/-- ITS FALSE NEIGHBOUR: 'it returns false'. Refute it at one input. -/
def fixedCircleWrong : ChangeSpec := { name := "fixedCircle", fn := fun _ => fun
  | [d] => { results := [.lit (.bool false)], args := [d] }
  | _ => none }
def FixedCircleWrongFalsely : Prop := fixedCircleRow.holds Try.pinned (OpenSpec.ofChange fixedCircleWrong)

/-- 'perigeelaw01.FixedRoots': WHATEVER THE INPUT: true; the input reads as it did. -/
def fixedRootsSpec : ChangeSpec := { name := "fixedRoots", fn := fun _ => fun
  | [d1, d2] => { results := [.lit (.bool true)], args := [d1, d2] }
  | _ => none }
def fixedRootsRow : OpenClaim := { program := "ytmanfiphdmmgdaa", sum := "240ff6538ac33acfee723012952519c76f14ab07d5bb77047b9eecdf23554a48", func := "perigee/perigeelaw01.FixedRoots", spec := "fixedRoots", inPlace := ["math/bits.Add64"], unfollowed := true, recurses := true, named := ["math/bits.divideError", "math/bits.overflowError"], apart := false }
def FixedRootsSaid : Prop := fixedRootsRow.holds Try.pinned (OpenSpec.ofChange fixedRootsSpec)

/-- ITS FALSE NEIGHBOUR: 'it returns false'. Refute it at one input. -/
def fixedRootsWrong : ChangeSpec := { name := "fixedRoots", fn := fun _ => fun
  | [d1, d2] => { results := [.lit (.bool false)], args := [d1, d2] }
  | _ => none }
def FixedRootsWrongFalsely : Prop := fixedRootsRow.holds Try.pinned (OpenSpec.ofChange fixedRootsWrong)

/-- 'perigeelaw01.FixedLeast': WHATEVER THE INPUT: true; the input reads as it did. -/
def fixedLeastSpec : ChangeSpec := { name := "fixedLeast", fn := fun _ => fun
  | [d1, d2] => { results := [.lit (.bool true)], args := [d1, d2] }
  | _ => none }
def fixedLeastRow : OpenClaim := { program := "ytmanfiphdmmgdaa", sum := "240ff6538ac33acfee723012952519c76f14ab07d5bb77047b9eecdf23554a48", func := "perigee/perigeelaw01.FixedLeast", spec := "fixedLeast", inPlace := ["math/bits.Add64"], unfollowed := true, recurses := true, named := ["math/bits.divideError", "math/bits.overflowError"], apart := false }
def FixedLeastSaid : Prop := fixedLeastRow.holds Try.pinned (OpenSpec.ofChange fixedLeastSpec)

/-- ITS FALSE NEIGHBOUR: 'it returns false'. Refute it at one input. -/
def fixedLeastWrong : ChangeSpec := { name := "fixedLeast", fn := fun _ => fun
  | [d1, d2] => { results := [.lit (.bool false)], args := [d1, d2] }
  | _ => none }
def FixedLeastWrongFalsely : Prop := fixedLeastRow.holds Try.pinned (OpenSpec.ofChange fixedLeastWrong)

/-- 'perigeelaw18.VectorsSums': WHATEVER THE INPUT: true; the input reads as it did. -/
def vectorsSumsSpec : ChangeSpec := { name := "vectorsSums", fn := fun _ => fun
  | [d1, d2, d3] => { results := [.lit (.bool true)], args := [d1, d2, d3] }
  | _ => none }
def vectorsSumsRow : OpenClaim := { program := "ytmanfiphdmmgdaa", sum := "240ff6538ac33acfee723012952519c76f14ab07d5bb77047b9eecdf23554a48", func := "perigee/perigeelaw18.VectorsSums", spec := "vectorsSums", inPlace := ["math/bits.Add64", "math/bits.Sub64"], unfollowed := true, recurses := true, named := ["math/bits.divideError", "math/bits.overflowError"], apart := false }
def VectorsSumsSaid : Prop := vectorsSumsRow.holds Try.pinned (OpenSpec.ofChange vectorsSumsSpec)

/-- ITS FALSE NEIGHBOUR: 'it returns false'. Refute it at one input. -/
def vectorsSumsWrong : ChangeSpec := { name := "vectorsSums", fn := fun _ => fun
  | [d1, d2, d3] => { results := [.lit (.bool false)], args := [d1, d2, d3] }
  | _ => none }
def VectorsSumsWrongFalsely : Prop := vectorsSumsRow.holds Try.pinned (OpenSpec.ofChange vectorsSumsWrong)

/-- 'perigeelaw01.FixedKnown': WHATEVER THE INPUT: true; the input reads as it did. -/
def fixedKnownSpec : ChangeSpec := { name := "fixedKnown", fn := fun _ => fun
  | [] => { results := [.lit (.bool true)], args := [] }
  | _ => none }
def fixedKnownRow : OpenClaim := { program := "ytmanfiphdmmgdaa", sum := "240ff6538ac33acfee723012952519c76f14ab07d5bb77047b9eecdf23554a48", func := "perigee/perigeelaw01.FixedKnown", spec := "fixedKnown", inPlace := ["math/bits.Add64", "math/bits.Sub64"], unfollowed := true, recurses := true, named := ["math/bits.divideError", "math/bits.overflowError"], apart := false }
def FixedKnownSaid : Prop := fixedKnownRow.holds Try.pinned (OpenSpec.ofChange fixedKnownSpec)

/-- ITS FALSE NEIGHBOUR: 'it returns false'. Refute it at one input. -/
def fixedKnownWrong : ChangeSpec := { name := "fixedKnown", fn := fun _ => fun
  | [] => { results := [.lit (.bool false)], args := [] }
  | _ => none }
def FixedKnownWrongFalsely : Prop := fixedKnownRow.holds Try.pinned (OpenSpec.ofChange fixedKnownWrong)

/- THE SECOND FORM. 'bulk': how many values and letters a reading holds, each counted each time it is reached (what is shared counts as often as it is met; a slice's spare places count too). A statement '..UptoSaid' is the law's where the arguments, and the package variables that the reading takes, are together of bulk at most 1048576: NARROWER than '..Said'. Prove '..Said' where nothing that the law and all that it calls make is longer than what came in: it says more and counts as full. Else prove '..UptoSaid'. A law counts once. -/
mutual
def uptoBulk {H : Type} : DataW H → Nat
  | .lit (.string bytes) => bytes.length + 1
  | .lit _ => 1
  | .nil => 1
  | .ptr d => uptoBulk d + 1
  | .slice elems spare => uptoBulkAll elems + uptoBulkAll spare + 1
  | .agg parts => uptoBulkAll parts + 1
  | .iface _ d => uptoBulk d + 1
  | .map entries => uptoBulkEntries entries + 1
  | .held _ => 1
def uptoBulkAll {H : Type} : List (DataW H) → Nat
  | [] => 0
  | d :: r => uptoBulk d + uptoBulkAll r
def uptoBulkEntries {H : Type} : List (Lit × DataW H) → Nat
  | [] => 0
  | x :: r => uptoBulkEntry x + uptoBulkEntries r
def uptoBulkEntry {H : Type} : Lit × DataW H → Nat
  | (.string bytes, d) => bytes.length + uptoBulk d + 1
  | (_, d) => uptoBulk d + 1
 end
def uptoSmall : (H : Type) → List (DataW H) → Bool := fun _ ds => decide (uptoBulkAll ds ≤ 1048576)
def OpenSpec.upto (s : _root_.Go.ChangeSpec) : _root_.Go.OpenSpec := { _root_.Go.OpenSpec.ofChange s with cond := some uptoSmall }

/-- 'perigeelaw18.VectorsProducts', WHERE WHAT IT READS IS OF BULK AT MOST 1048576: true; the input reads as it did. -/
def vectorsProductsUptoRow : OpenClaim := { program := "ytmanfiphdmmgdaa", sum := "240ff6538ac33acfee723012952519c76f14ab07d5bb77047b9eecdf23554a48", func := "perigee/perigeelaw18.VectorsProducts", spec := "vectorsProducts", inPlace := ["math/bits.Add64", "math/bits.Sub64"], unfollowed := true, recurses := true, apart := false, narrowed := true }
def VectorsProductsUptoSaid : Prop := vectorsProductsUptoRow.holds Try.pinned (OpenSpec.upto vectorsProductsSpec)

/-- 'perigeelaw18.VectorsCrossed', WHERE WHAT IT READS IS OF BULK AT MOST 1048576: true; the input reads as it did. -/
def vectorsCrossedUptoRow : OpenClaim := { program := "ytmanfiphdmmgdaa", sum := "240ff6538ac33acfee723012952519c76f14ab07d5bb77047b9eecdf23554a48", func := "perigee/perigeelaw18.VectorsCrossed", spec := "vectorsCrossed", inPlace := ["math/bits.Add64", "math/bits.Sub64"], unfollowed := true, recurses := true, apart := false, narrowed := true }
def VectorsCrossedUptoSaid : Prop := vectorsCrossedUptoRow.holds Try.pinned (OpenSpec.upto vectorsCrossedSpec)

/-- 'perigeelaw18.VectorsMatrices', WHERE WHAT IT READS IS OF BULK AT MOST 1048576: true; the input reads as it did. -/
def vectorsMatricesUptoRow : OpenClaim := { program := "ytmanfiphdmmgdaa", sum := "240ff6538ac33acfee723012952519c76f14ab07d5bb77047b9eecdf23554a48", func := "perigee/perigeelaw18.VectorsMatrices", spec := "vectorsMatrices", inPlace := ["math/bits.Add64", "math/bits.Sub64"], unfollowed := true, recurses := true, apart := false, narrowed := true }
def VectorsMatricesUptoSaid : Prop := vectorsMatricesUptoRow.holds Try.pinned (OpenSpec.upto vectorsMatricesSpec)

/-- 'perigeelaw19.QuatsProducts', WHERE WHAT IT READS IS OF BULK AT MOST 1048576: true; the input reads as it did. -/
def quatsProductsUptoRow : OpenClaim := { program := "ytmanfiphdmmgdaa", sum := "240ff6538ac33acfee723012952519c76f14ab07d5bb77047b9eecdf23554a48", func := "perigee/perigeelaw19.QuatsProducts", spec := "quatsProducts", inPlace := ["math/bits.Add64", "math/bits.Sub64"], unfollowed := true, recurses := true, apart := false, narrowed := true }
def QuatsProductsUptoSaid : Prop := quatsProductsUptoRow.holds Try.pinned (OpenSpec.upto quatsProductsSpec)

/-- 'perigeelaw19.QuatsRotates', WHERE WHAT IT READS IS OF BULK AT MOST 1048576: true; the input reads as it did. -/
def quatsRotatesUptoRow : OpenClaim := { program := "ytmanfiphdmmgdaa", sum := "240ff6538ac33acfee723012952519c76f14ab07d5bb77047b9eecdf23554a48", func := "perigee/perigeelaw19.QuatsRotates", spec := "quatsRotates", inPlace := ["math/bits.Add64", "math/bits.Sub64"], unfollowed := true, recurses := true, apart := false, narrowed := true }
def QuatsRotatesUptoSaid : Prop := quatsRotatesUptoRow.holds Try.pinned (OpenSpec.upto quatsRotatesSpec)

/-- 'perigeelaw01.FixedAlgebra', WHERE WHAT IT READS IS OF BULK AT MOST 1048576: true; the input reads as it did. -/
def fixedAlgebraUptoRow : OpenClaim := { program := "ytmanfiphdmmgdaa", sum := "240ff6538ac33acfee723012952519c76f14ab07d5bb77047b9eecdf23554a48", func := "perigee/perigeelaw01.FixedAlgebra", spec := "fixedAlgebra", inPlace := ["math/bits.Add64"], unfollowed := true, recurses := true, named := ["math/bits.divideError", "math/bits.overflowError"], apart := false, narrowed := true }
def FixedAlgebraUptoSaid : Prop := fixedAlgebraUptoRow.holds Try.pinned (OpenSpec.upto fixedAlgebraSpec)

/-- 'perigeelaw01.FixedCircle', WHERE WHAT IT READS IS OF BULK AT MOST 1048576: true; the input reads as it did. -/
def fixedCircleUptoRow : OpenClaim := { program := "ytmanfiphdmmgdaa", sum := "240ff6538ac33acfee723012952519c76f14ab07d5bb77047b9eecdf23554a48", func := "perigee/perigeelaw01.FixedCircle", spec := "fixedCircle", inPlace := ["math/bits.Add64"], unfollowed := true, recurses := true, named := ["math/bits.divideError", "math/bits.overflowError"], apart := false, narrowed := true }
def FixedCircleUptoSaid : Prop := fixedCircleUptoRow.holds Try.pinned (OpenSpec.upto fixedCircleSpec)

/-- 'perigeelaw01.FixedRoots', WHERE WHAT IT READS IS OF BULK AT MOST 1048576: true; the input reads as it did. -/
def fixedRootsUptoRow : OpenClaim := { program := "ytmanfiphdmmgdaa", sum := "240ff6538ac33acfee723012952519c76f14ab07d5bb77047b9eecdf23554a48", func := "perigee/perigeelaw01.FixedRoots", spec := "fixedRoots", inPlace := ["math/bits.Add64"], unfollowed := true, recurses := true, named := ["math/bits.divideError", "math/bits.overflowError"], apart := false, narrowed := true }
def FixedRootsUptoSaid : Prop := fixedRootsUptoRow.holds Try.pinned (OpenSpec.upto fixedRootsSpec)

/-- 'perigeelaw01.FixedLeast', WHERE WHAT IT READS IS OF BULK AT MOST 1048576: true; the input reads as it did. -/
def fixedLeastUptoRow : OpenClaim := { program := "ytmanfiphdmmgdaa", sum := "240ff6538ac33acfee723012952519c76f14ab07d5bb77047b9eecdf23554a48", func := "perigee/perigeelaw01.FixedLeast", spec := "fixedLeast", inPlace := ["math/bits.Add64"], unfollowed := true, recurses := true, named := ["math/bits.divideError", "math/bits.overflowError"], apart := false, narrowed := true }
def FixedLeastUptoSaid : Prop := fixedLeastUptoRow.holds Try.pinned (OpenSpec.upto fixedLeastSpec)

/-- 'perigeelaw18.VectorsSums', WHERE WHAT IT READS IS OF BULK AT MOST 1048576: true; the input reads as it did. -/
def vectorsSumsUptoRow : OpenClaim := { program := "ytmanfiphdmmgdaa", sum := "240ff6538ac33acfee723012952519c76f14ab07d5bb77047b9eecdf23554a48", func := "perigee/perigeelaw18.VectorsSums", spec := "vectorsSums", inPlace := ["math/bits.Add64", "math/bits.Sub64"], unfollowed := true, recurses := true, named := ["math/bits.divideError", "math/bits.overflowError"], apart := false, narrowed := true }
def VectorsSumsUptoSaid : Prop := vectorsSumsUptoRow.holds Try.pinned (OpenSpec.upto vectorsSumsSpec)

/-- 'perigeelaw01.FixedKnown', WHERE WHAT IT READS IS OF BULK AT MOST 1048576: true; the input reads as it did. -/
def fixedKnownUptoRow : OpenClaim := { program := "ytmanfiphdmmgdaa", sum := "240ff6538ac33acfee723012952519c76f14ab07d5bb77047b9eecdf23554a48", func := "perigee/perigeelaw01.FixedKnown", spec := "fixedKnown", inPlace := ["math/bits.Add64", "math/bits.Sub64"], unfollowed := true, recurses := true, named := ["math/bits.divideError", "math/bits.overflowError"], apart := false, narrowed := true }
def FixedKnownUptoSaid : Prop := fixedKnownUptoRow.holds Try.pinned (OpenSpec.upto fixedKnownSpec)

end Rows
end Go.Proofs.Ytmanfiphdmmgdaa
