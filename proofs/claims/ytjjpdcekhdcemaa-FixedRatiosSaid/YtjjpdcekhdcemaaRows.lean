/-
  No cell of these rows narrows 'for every input' (looked for: loops, veiled, ifaces, maps, wideKeys, modest, calm, conditions, laid).
  DERIVED. THE GIVEN ROWS OF THIS SEAT. 29 by the template 'for every input the law returns true; each argument reads behind the call as it read before'; 0 by the template 'total and deterministic' (their statements: YtjjpdcekhdcemaaTotals.lean).
  GIVEN WITH THE SEED: the statements are not yours to turn. If you find one false, say at which input.
  Laid BY PROGRAM, IN A SANDBOX (cutbox-rows.mjs): the forced cells as the released guide's own fill.sh prints them over the translation 7f297a0a7ba91d35… (all of the seat's roots in one cut). By AI agents, Wed Nov 11 2026. No macro, syntax, notation, axiom, sorry.
-/
import Derived.Test.YtjjpdcekhdcemaaChecked
import GoSem.Claim
import GoSem.ClaimJoined
import GoSem.ClaimMapViews
import Derived.JoinedTies
import Derived.KernelRfl
namespace Go.Proofs.Ytjjpdcekhdcemaa
/- THE CELL 'sum', in the pinned program and in every row, IS THE sha256 OF THE DUMP (.gsa) THAT YtjjpdcekhdcemaaProg.lean LOADS. Nothing in Lean hashes anything: it is a label: what it is worth is what the hold of that sum in a sandbox is worth. -/
noncomputable def Try.pinned : Pinned := { name := "ytjjpdcekhdcemaa", sum := "7f297a0a7ba91d3582f791f930218b579e815eef44289bdc6153c16231872d59", checked := Try.checked }
namespace Rows
def none {H : Type} : Left H := { results := [], args := [] }

/-- 'perigeelaw18.VectorsProducts': WHATEVER THE INPUT: true; the input reads as it did. -/
def vectorsProductsSpec : ChangeSpec := { name := "vectorsProducts", fn := fun _ => fun
  | [d1, d2] => { results := [.lit (.bool true)], args := [d1, d2] }
  | _ => none }
def vectorsProductsRow : OpenClaim := { program := "ytjjpdcekhdcemaa", sum := "7f297a0a7ba91d3582f791f930218b579e815eef44289bdc6153c16231872d59", func := "perigee/perigeelaw18.VectorsProducts", spec := "vectorsProducts", inPlace := ["math/bits.Add64", "math/bits.Sub64"], unfollowed := true, recurses := true, apart := false }
def VectorsProductsSaid : Prop := vectorsProductsRow.holds Try.pinned (OpenSpec.ofChange vectorsProductsSpec)

/-- ITS FALSE NEIGHBOUR: 'it returns false'. Refute it at one input. -/
def vectorsProductsWrong : ChangeSpec := { name := "vectorsProducts", fn := fun _ => fun
  | [d1, d2] => { results := [.lit (.bool false)], args := [d1, d2] }
  | _ => none }
def VectorsProductsWrongFalsely : Prop := vectorsProductsRow.holds Try.pinned (OpenSpec.ofChange vectorsProductsWrong)

/-- 'perigeelaw18.VectorsCrossed': WHATEVER THE INPUT: true; the input reads as it did. -/
def vectorsCrossedSpec : ChangeSpec := { name := "vectorsCrossed", fn := fun _ => fun
  | [d1, d2] => { results := [.lit (.bool true)], args := [d1, d2] }
  | _ => none }
def vectorsCrossedRow : OpenClaim := { program := "ytjjpdcekhdcemaa", sum := "7f297a0a7ba91d3582f791f930218b579e815eef44289bdc6153c16231872d59", func := "perigee/perigeelaw18.VectorsCrossed", spec := "vectorsCrossed", inPlace := ["math/bits.Add64", "math/bits.Sub64"], unfollowed := true, recurses := true, apart := false }
def VectorsCrossedSaid : Prop := vectorsCrossedRow.holds Try.pinned (OpenSpec.ofChange vectorsCrossedSpec)

/-- ITS FALSE NEIGHBOUR: 'it returns false'. Refute it at one input. -/
def vectorsCrossedWrong : ChangeSpec := { name := "vectorsCrossed", fn := fun _ => fun
  | [d1, d2] => { results := [.lit (.bool false)], args := [d1, d2] }
  | _ => none }
def VectorsCrossedWrongFalsely : Prop := vectorsCrossedRow.holds Try.pinned (OpenSpec.ofChange vectorsCrossedWrong)

/-- 'perigeelaw18.VectorsMatrices': WHATEVER THE INPUT: true; the input reads as it did. -/
def vectorsMatricesSpec : ChangeSpec := { name := "vectorsMatrices", fn := fun _ => fun
  | [d1, d2, d3] => { results := [.lit (.bool true)], args := [d1, d2, d3] }
  | _ => none }
def vectorsMatricesRow : OpenClaim := { program := "ytjjpdcekhdcemaa", sum := "7f297a0a7ba91d3582f791f930218b579e815eef44289bdc6153c16231872d59", func := "perigee/perigeelaw18.VectorsMatrices", spec := "vectorsMatrices", inPlace := ["math/bits.Add64", "math/bits.Sub64"], unfollowed := true, recurses := true, apart := false }
def VectorsMatricesSaid : Prop := vectorsMatricesRow.holds Try.pinned (OpenSpec.ofChange vectorsMatricesSpec)

/-- ITS FALSE NEIGHBOUR: 'it returns false'. Refute it at one input. -/
def vectorsMatricesWrong : ChangeSpec := { name := "vectorsMatrices", fn := fun _ => fun
  | [d1, d2, d3] => { results := [.lit (.bool false)], args := [d1, d2, d3] }
  | _ => none }
def VectorsMatricesWrongFalsely : Prop := vectorsMatricesRow.holds Try.pinned (OpenSpec.ofChange vectorsMatricesWrong)

/-- 'perigeelaw19.QuatsProducts': WHATEVER THE INPUT: true; the input reads as it did. -/
def quatsProductsSpec : ChangeSpec := { name := "quatsProducts", fn := fun _ => fun
  | [d1, d2] => { results := [.lit (.bool true)], args := [d1, d2] }
  | _ => none }
def quatsProductsRow : OpenClaim := { program := "ytjjpdcekhdcemaa", sum := "7f297a0a7ba91d3582f791f930218b579e815eef44289bdc6153c16231872d59", func := "perigee/perigeelaw19.QuatsProducts", spec := "quatsProducts", inPlace := ["math/bits.Add64", "math/bits.Sub64"], unfollowed := true, recurses := true, apart := false }
def QuatsProductsSaid : Prop := quatsProductsRow.holds Try.pinned (OpenSpec.ofChange quatsProductsSpec)

/-- ITS FALSE NEIGHBOUR: 'it returns false'. Refute it at one input. -/
def quatsProductsWrong : ChangeSpec := { name := "quatsProducts", fn := fun _ => fun
  | [d1, d2] => { results := [.lit (.bool false)], args := [d1, d2] }
  | _ => none }
def QuatsProductsWrongFalsely : Prop := quatsProductsRow.holds Try.pinned (OpenSpec.ofChange quatsProductsWrong)

/-- 'perigeelaw19.QuatsRotates': WHATEVER THE INPUT: true; the input reads as it did. -/
def quatsRotatesSpec : ChangeSpec := { name := "quatsRotates", fn := fun _ => fun
  | [d1, d2] => { results := [.lit (.bool true)], args := [d1, d2] }
  | _ => none }
def quatsRotatesRow : OpenClaim := { program := "ytjjpdcekhdcemaa", sum := "7f297a0a7ba91d3582f791f930218b579e815eef44289bdc6153c16231872d59", func := "perigee/perigeelaw19.QuatsRotates", spec := "quatsRotates", inPlace := ["math/bits.Add64", "math/bits.Sub64"], unfollowed := true, recurses := true, apart := false }
def QuatsRotatesSaid : Prop := quatsRotatesRow.holds Try.pinned (OpenSpec.ofChange quatsRotatesSpec)

/-- ITS FALSE NEIGHBOUR: 'it returns false'. Refute it at one input. -/
def quatsRotatesWrong : ChangeSpec := { name := "quatsRotates", fn := fun _ => fun
  | [d1, d2] => { results := [.lit (.bool false)], args := [d1, d2] }
  | _ => none }
def QuatsRotatesWrongFalsely : Prop := quatsRotatesRow.holds Try.pinned (OpenSpec.ofChange quatsRotatesWrong)

/-- 'perigeelaw01.FixedAlgebra': WHATEVER THE INPUT: true; the input reads as it did. -/
def fixedAlgebraSpec : ChangeSpec := { name := "fixedAlgebra", fn := fun _ => fun
  | [d1, d2] => { results := [.lit (.bool true)], args := [d1, d2] }
  | _ => none }
def fixedAlgebraRow : OpenClaim := { program := "ytjjpdcekhdcemaa", sum := "7f297a0a7ba91d3582f791f930218b579e815eef44289bdc6153c16231872d59", func := "perigee/perigeelaw01.FixedAlgebra", spec := "fixedAlgebra", inPlace := ["math/bits.Add64"], unfollowed := true, recurses := true, named := ["math/bits.divideError", "math/bits.overflowError"], apart := false }
def FixedAlgebraSaid : Prop := fixedAlgebraRow.holds Try.pinned (OpenSpec.ofChange fixedAlgebraSpec)

/-- ITS FALSE NEIGHBOUR: 'it returns false'. Refute it at one input. -/
def fixedAlgebraWrong : ChangeSpec := { name := "fixedAlgebra", fn := fun _ => fun
  | [d1, d2] => { results := [.lit (.bool false)], args := [d1, d2] }
  | _ => none }
def FixedAlgebraWrongFalsely : Prop := fixedAlgebraRow.holds Try.pinned (OpenSpec.ofChange fixedAlgebraWrong)

/-- 'perigeelaw01.FixedRatios': WHATEVER THE INPUT: true; the input reads as it did. -/
def fixedRatiosSpec : ChangeSpec := { name := "fixedRatios", fn := fun _ => fun
  | [d1, d2, d3] => { results := [.lit (.bool true)], args := [d1, d2, d3] }
  | _ => none }
def fixedRatiosRow : OpenClaim := { program := "ytjjpdcekhdcemaa", sum := "7f297a0a7ba91d3582f791f930218b579e815eef44289bdc6153c16231872d59", func := "perigee/perigeelaw01.FixedRatios", spec := "fixedRatios", inPlace := ["math/bits.Add64"], unfollowed := true, recurses := true, named := ["math/bits.divideError", "math/bits.overflowError"], apart := false }
def FixedRatiosSaid : Prop := fixedRatiosRow.holds Try.pinned (OpenSpec.ofChange fixedRatiosSpec)

/-- ITS FALSE NEIGHBOUR: 'it returns false'. Refute it at one input. -/
def fixedRatiosWrong : ChangeSpec := { name := "fixedRatios", fn := fun _ => fun
  | [d1, d2, d3] => { results := [.lit (.bool false)], args := [d1, d2, d3] }
  | _ => none }
def FixedRatiosWrongFalsely : Prop := fixedRatiosRow.holds Try.pinned (OpenSpec.ofChange fixedRatiosWrong)

/-- 'perigeelaw01.FixedWaves': WHATEVER THE INPUT: true; the input reads as it did. -/
def fixedWavesSpec : ChangeSpec := { name := "fixedWaves", fn := fun _ => fun
  | [d] => { results := [.lit (.bool true)], args := [d] }
  | _ => none }
def fixedWavesRow : OpenClaim := { program := "ytjjpdcekhdcemaa", sum := "7f297a0a7ba91d3582f791f930218b579e815eef44289bdc6153c16231872d59", func := "perigee/perigeelaw01.FixedWaves", spec := "fixedWaves", inPlace := ["math/bits.Add64"], unfollowed := true, recurses := true, named := ["math/bits.divideError", "math/bits.overflowError"], apart := false }
def FixedWavesSaid : Prop := fixedWavesRow.holds Try.pinned (OpenSpec.ofChange fixedWavesSpec)

/-- ITS FALSE NEIGHBOUR: 'it returns false'. Refute it at one input. -/
def fixedWavesWrong : ChangeSpec := { name := "fixedWaves", fn := fun _ => fun
  | [d] => { results := [.lit (.bool false)], args := [d] }
  | _ => none }
def FixedWavesWrongFalsely : Prop := fixedWavesRow.holds Try.pinned (OpenSpec.ofChange fixedWavesWrong)

/-- 'perigeelaw01.FixedCircle': WHATEVER THE INPUT: true; the input reads as it did. -/
def fixedCircleSpec : ChangeSpec := { name := "fixedCircle", fn := fun _ => fun
  | [d] => { results := [.lit (.bool true)], args := [d] }
  | _ => none }
def fixedCircleRow : OpenClaim := { program := "ytjjpdcekhdcemaa", sum := "7f297a0a7ba91d3582f791f930218b579e815eef44289bdc6153c16231872d59", func := "perigee/perigeelaw01.FixedCircle", spec := "fixedCircle", inPlace := ["math/bits.Add64"], unfollowed := true, recurses := true, named := ["math/bits.divideError", "math/bits.overflowError"], apart := false }
def FixedCircleSaid : Prop := fixedCircleRow.holds Try.pinned (OpenSpec.ofChange fixedCircleSpec)

/-- ITS FALSE NEIGHBOUR: 'it returns false'. Refute it at one input. -/
def fixedCircleWrong : ChangeSpec := { name := "fixedCircle", fn := fun _ => fun
  | [d] => { results := [.lit (.bool false)], args := [d] }
  | _ => none }
def FixedCircleWrongFalsely : Prop := fixedCircleRow.holds Try.pinned (OpenSpec.ofChange fixedCircleWrong)

/-- 'perigeelaw01.FixedRoots': WHATEVER THE INPUT: true; the input reads as it did. -/
def fixedRootsSpec : ChangeSpec := { name := "fixedRoots", fn := fun _ => fun
  | [d1, d2] => { results := [.lit (.bool true)], args := [d1, d2] }
  | _ => none }
def fixedRootsRow : OpenClaim := { program := "ytjjpdcekhdcemaa", sum := "7f297a0a7ba91d3582f791f930218b579e815eef44289bdc6153c16231872d59", func := "perigee/perigeelaw01.FixedRoots", spec := "fixedRoots", inPlace := ["math/bits.Add64"], unfollowed := true, recurses := true, named := ["math/bits.divideError", "math/bits.overflowError"], apart := false }
def FixedRootsSaid : Prop := fixedRootsRow.holds Try.pinned (OpenSpec.ofChange fixedRootsSpec)

/-- ITS FALSE NEIGHBOUR: 'it returns false'. Refute it at one input. -/
def fixedRootsWrong : ChangeSpec := { name := "fixedRoots", fn := fun _ => fun
  | [d1, d2] => { results := [.lit (.bool false)], args := [d1, d2] }
  | _ => none }
def FixedRootsWrongFalsely : Prop := fixedRootsRow.holds Try.pinned (OpenSpec.ofChange fixedRootsWrong)

/-- 'perigeelaw01.FixedLeast': WHATEVER THE INPUT: true; the input reads as it did. -/
def fixedLeastSpec : ChangeSpec := { name := "fixedLeast", fn := fun _ => fun
  | [d1, d2] => { results := [.lit (.bool true)], args := [d1, d2] }
  | _ => none }
def fixedLeastRow : OpenClaim := { program := "ytjjpdcekhdcemaa", sum := "7f297a0a7ba91d3582f791f930218b579e815eef44289bdc6153c16231872d59", func := "perigee/perigeelaw01.FixedLeast", spec := "fixedLeast", inPlace := ["math/bits.Add64"], unfollowed := true, recurses := true, named := ["math/bits.divideError", "math/bits.overflowError"], apart := false }
def FixedLeastSaid : Prop := fixedLeastRow.holds Try.pinned (OpenSpec.ofChange fixedLeastSpec)

/-- ITS FALSE NEIGHBOUR: 'it returns false'. Refute it at one input. -/
def fixedLeastWrong : ChangeSpec := { name := "fixedLeast", fn := fun _ => fun
  | [d1, d2] => { results := [.lit (.bool false)], args := [d1, d2] }
  | _ => none }
def FixedLeastWrongFalsely : Prop := fixedLeastRow.holds Try.pinned (OpenSpec.ofChange fixedLeastWrong)

/-- 'perigeelaw18.VectorsSums': WHATEVER THE INPUT: true; the input reads as it did. -/
def vectorsSumsSpec : ChangeSpec := { name := "vectorsSums", fn := fun _ => fun
  | [d1, d2, d3] => { results := [.lit (.bool true)], args := [d1, d2, d3] }
  | _ => none }
def vectorsSumsRow : OpenClaim := { program := "ytjjpdcekhdcemaa", sum := "7f297a0a7ba91d3582f791f930218b579e815eef44289bdc6153c16231872d59", func := "perigee/perigeelaw18.VectorsSums", spec := "vectorsSums", inPlace := ["math/bits.Add64", "math/bits.Sub64"], unfollowed := true, recurses := true, named := ["math/bits.divideError", "math/bits.overflowError"], apart := false }
def VectorsSumsSaid : Prop := vectorsSumsRow.holds Try.pinned (OpenSpec.ofChange vectorsSumsSpec)

/-- ITS FALSE NEIGHBOUR: 'it returns false'. Refute it at one input. -/
def vectorsSumsWrong : ChangeSpec := { name := "vectorsSums", fn := fun _ => fun
  | [d1, d2, d3] => { results := [.lit (.bool false)], args := [d1, d2, d3] }
  | _ => none }
def VectorsSumsWrongFalsely : Prop := vectorsSumsRow.holds Try.pinned (OpenSpec.ofChange vectorsSumsWrong)

/-- 'perigeelaw01.FixedKnown': WHATEVER THE INPUT: true; the input reads as it did. -/
def fixedKnownSpec : ChangeSpec := { name := "fixedKnown", fn := fun _ => fun
  | [] => { results := [.lit (.bool true)], args := [] }
  | _ => none }
def fixedKnownRow : OpenClaim := { program := "ytjjpdcekhdcemaa", sum := "7f297a0a7ba91d3582f791f930218b579e815eef44289bdc6153c16231872d59", func := "perigee/perigeelaw01.FixedKnown", spec := "fixedKnown", inPlace := ["math/bits.Add64", "math/bits.Sub64"], unfollowed := true, recurses := true, named := ["math/bits.divideError", "math/bits.overflowError"], apart := false }
def FixedKnownSaid : Prop := fixedKnownRow.holds Try.pinned (OpenSpec.ofChange fixedKnownSpec)

/-- ITS FALSE NEIGHBOUR: 'it returns false'. Refute it at one input. -/
def fixedKnownWrong : ChangeSpec := { name := "fixedKnown", fn := fun _ => fun
  | [] => { results := [.lit (.bool false)], args := [] }
  | _ => none }
def FixedKnownWrongFalsely : Prop := fixedKnownRow.holds Try.pinned (OpenSpec.ofChange fixedKnownWrong)

/-- 'perigeelaw18.VectorsUnits': WHATEVER THE INPUT: true; the input reads as it did. -/
def vectorsUnitsSpec : ChangeSpec := { name := "vectorsUnits", fn := fun _ => fun
  | [d1, d2] => { results := [.lit (.bool true)], args := [d1, d2] }
  | _ => none }
def vectorsUnitsRow : OpenClaim := { program := "ytjjpdcekhdcemaa", sum := "7f297a0a7ba91d3582f791f930218b579e815eef44289bdc6153c16231872d59", func := "perigee/perigeelaw18.VectorsUnits", spec := "vectorsUnits", inPlace := ["math/bits.Add64", "math/bits.Sub64"], unfollowed := true, recurses := true, named := ["math/bits.divideError", "math/bits.overflowError"], apart := false }
def VectorsUnitsSaid : Prop := vectorsUnitsRow.holds Try.pinned (OpenSpec.ofChange vectorsUnitsSpec)

/-- ITS FALSE NEIGHBOUR: 'it returns false'. Refute it at one input. -/
def vectorsUnitsWrong : ChangeSpec := { name := "vectorsUnits", fn := fun _ => fun
  | [d1, d2] => { results := [.lit (.bool false)], args := [d1, d2] }
  | _ => none }
def VectorsUnitsWrongFalsely : Prop := vectorsUnitsRow.holds Try.pinned (OpenSpec.ofChange vectorsUnitsWrong)

/-- 'perigeelaw18.VectorsLengths': WHATEVER THE INPUT: true; the input reads as it did. -/
def vectorsLengthsSpec : ChangeSpec := { name := "vectorsLengths", fn := fun _ => fun
  | [d1, d2] => { results := [.lit (.bool true)], args := [d1, d2] }
  | _ => none }
def vectorsLengthsRow : OpenClaim := { program := "ytjjpdcekhdcemaa", sum := "7f297a0a7ba91d3582f791f930218b579e815eef44289bdc6153c16231872d59", func := "perigee/perigeelaw18.VectorsLengths", spec := "vectorsLengths", inPlace := ["math/bits.Add64", "math/bits.Sub64"], unfollowed := true, recurses := true, named := ["math/bits.divideError", "math/bits.overflowError"], apart := false }
def VectorsLengthsSaid : Prop := vectorsLengthsRow.holds Try.pinned (OpenSpec.ofChange vectorsLengthsSpec)

/-- ITS FALSE NEIGHBOUR: 'it returns false'. Refute it at one input. -/
def vectorsLengthsWrong : ChangeSpec := { name := "vectorsLengths", fn := fun _ => fun
  | [d1, d2] => { results := [.lit (.bool false)], args := [d1, d2] }
  | _ => none }
def VectorsLengthsWrongFalsely : Prop := vectorsLengthsRow.holds Try.pinned (OpenSpec.ofChange vectorsLengthsWrong)

/-- 'perigeelaw23.MagnetFields': WHATEVER THE INPUT: true; the input reads as it did. -/
def magnetFieldsSpec : ChangeSpec := { name := "magnetFields", fn := fun _ => fun
  | [d1, d2] => { results := [.lit (.bool true)], args := [d1, d2] }
  | _ => none }
def magnetFieldsRow : OpenClaim := { program := "ytjjpdcekhdcemaa", sum := "7f297a0a7ba91d3582f791f930218b579e815eef44289bdc6153c16231872d59", func := "perigee/perigeelaw23.MagnetFields", spec := "magnetFields", inPlace := ["math/bits.Add64", "math/bits.Sub64"], unfollowed := true, recurses := true, named := ["math/bits.divideError", "math/bits.overflowError"], apart := false }
def MagnetFieldsSaid : Prop := magnetFieldsRow.holds Try.pinned (OpenSpec.ofChange magnetFieldsSpec)

/-- ITS FALSE NEIGHBOUR: 'it returns false'. Refute it at one input. -/
def magnetFieldsWrong : ChangeSpec := { name := "magnetFields", fn := fun _ => fun
  | [d1, d2] => { results := [.lit (.bool false)], args := [d1, d2] }
  | _ => none }
def MagnetFieldsWrongFalsely : Prop := magnetFieldsRow.holds Try.pinned (OpenSpec.ofChange magnetFieldsWrong)

/-- 'perigeelaw23.MagnetTorques': WHATEVER THE INPUT: true; the input reads as it did. -/
def magnetTorquesSpec : ChangeSpec := { name := "magnetTorques", fn := fun _ => fun
  | [d1, d2] => { results := [.lit (.bool true)], args := [d1, d2] }
  | _ => none }
def magnetTorquesRow : OpenClaim := { program := "ytjjpdcekhdcemaa", sum := "7f297a0a7ba91d3582f791f930218b579e815eef44289bdc6153c16231872d59", func := "perigee/perigeelaw23.MagnetTorques", spec := "magnetTorques", inPlace := ["math/bits.Add64", "math/bits.Sub64"], unfollowed := true, recurses := true, named := ["math/bits.divideError", "math/bits.overflowError"], apart := false }
def MagnetTorquesSaid : Prop := magnetTorquesRow.holds Try.pinned (OpenSpec.ofChange magnetTorquesSpec)

/-- ITS FALSE NEIGHBOUR: 'it returns false'. Refute it at one input. -/
def magnetTorquesWrong : ChangeSpec := { name := "magnetTorques", fn := fun _ => fun
  | [d1, d2] => { results := [.lit (.bool false)], args := [d1, d2] }
  | _ => none }
def MagnetTorquesWrongFalsely : Prop := magnetTorquesRow.holds Try.pinned (OpenSpec.ofChange magnetTorquesWrong)

/-- 'perigeelaw23.MagnetUnloads': WHATEVER THE INPUT: true; the input reads as it did. -/
def magnetUnloadsSpec : ChangeSpec := { name := "magnetUnloads", fn := fun _ => fun
  | [d1, d2] => { results := [.lit (.bool true)], args := [d1, d2] }
  | _ => none }
def magnetUnloadsRow : OpenClaim := { program := "ytjjpdcekhdcemaa", sum := "7f297a0a7ba91d3582f791f930218b579e815eef44289bdc6153c16231872d59", func := "perigee/perigeelaw23.MagnetUnloads", spec := "magnetUnloads", inPlace := ["math/bits.Add64", "math/bits.Sub64"], unfollowed := true, recurses := true, named := ["math/bits.divideError", "math/bits.overflowError"], apart := false }
def MagnetUnloadsSaid : Prop := magnetUnloadsRow.holds Try.pinned (OpenSpec.ofChange magnetUnloadsSpec)

/-- ITS FALSE NEIGHBOUR: 'it returns false'. Refute it at one input. -/
def magnetUnloadsWrong : ChangeSpec := { name := "magnetUnloads", fn := fun _ => fun
  | [d1, d2] => { results := [.lit (.bool false)], args := [d1, d2] }
  | _ => none }
def MagnetUnloadsWrongFalsely : Prop := magnetUnloadsRow.holds Try.pinned (OpenSpec.ofChange magnetUnloadsWrong)

/-- 'perigeelaw23.MagnetDoubles': WHATEVER THE INPUT: true; the input reads as it did. -/
def magnetDoublesSpec : ChangeSpec := { name := "magnetDoubles", fn := fun _ => fun
  | [d1, d2] => { results := [.lit (.bool true)], args := [d1, d2] }
  | _ => none }
def magnetDoublesRow : OpenClaim := { program := "ytjjpdcekhdcemaa", sum := "7f297a0a7ba91d3582f791f930218b579e815eef44289bdc6153c16231872d59", func := "perigee/perigeelaw23.MagnetDoubles", spec := "magnetDoubles", inPlace := ["math/bits.Add64", "math/bits.Sub64"], unfollowed := true, recurses := true, named := ["math/bits.divideError", "math/bits.overflowError"], apart := false }
def MagnetDoublesSaid : Prop := magnetDoublesRow.holds Try.pinned (OpenSpec.ofChange magnetDoublesSpec)

/-- ITS FALSE NEIGHBOUR: 'it returns false'. Refute it at one input. -/
def magnetDoublesWrong : ChangeSpec := { name := "magnetDoubles", fn := fun _ => fun
  | [d1, d2] => { results := [.lit (.bool false)], args := [d1, d2] }
  | _ => none }
def MagnetDoublesWrongFalsely : Prop := magnetDoublesRow.holds Try.pinned (OpenSpec.ofChange magnetDoublesWrong)

/-- 'perigeelaw23.MagnetAcross': WHATEVER THE INPUT: true; the input reads as it did. -/
def magnetAcrossSpec : ChangeSpec := { name := "magnetAcross", fn := fun _ => fun
  | [d1, d2] => { results := [.lit (.bool true)], args := [d1, d2] }
  | _ => none }
def magnetAcrossRow : OpenClaim := { program := "ytjjpdcekhdcemaa", sum := "7f297a0a7ba91d3582f791f930218b579e815eef44289bdc6153c16231872d59", func := "perigee/perigeelaw23.MagnetAcross", spec := "magnetAcross", inPlace := ["math/bits.Add64", "math/bits.Sub64"], unfollowed := true, recurses := true, named := ["math/bits.divideError", "math/bits.overflowError"], apart := false }
def MagnetAcrossSaid : Prop := magnetAcrossRow.holds Try.pinned (OpenSpec.ofChange magnetAcrossSpec)

/-- ITS FALSE NEIGHBOUR: 'it returns false'. Refute it at one input. -/
def magnetAcrossWrong : ChangeSpec := { name := "magnetAcross", fn := fun _ => fun
  | [d1, d2] => { results := [.lit (.bool false)], args := [d1, d2] }
  | _ => none }
def MagnetAcrossWrongFalsely : Prop := magnetAcrossRow.holds Try.pinned (OpenSpec.ofChange magnetAcrossWrong)

/-- 'perigeelaw23.MagnetSlows': WHATEVER THE INPUT: true; the input reads as it did. -/
def magnetSlowsSpec : ChangeSpec := { name := "magnetSlows", fn := fun _ => fun
  | [d1, d2] => { results := [.lit (.bool true)], args := [d1, d2] }
  | _ => none }
def magnetSlowsRow : OpenClaim := { program := "ytjjpdcekhdcemaa", sum := "7f297a0a7ba91d3582f791f930218b579e815eef44289bdc6153c16231872d59", func := "perigee/perigeelaw23.MagnetSlows", spec := "magnetSlows", inPlace := ["math/bits.Add64", "math/bits.Sub64"], unfollowed := true, recurses := true, named := ["math/bits.divideError", "math/bits.overflowError"], apart := false }
def MagnetSlowsSaid : Prop := magnetSlowsRow.holds Try.pinned (OpenSpec.ofChange magnetSlowsSpec)

/-- ITS FALSE NEIGHBOUR: 'it returns false'. Refute it at one input. -/
def magnetSlowsWrong : ChangeSpec := { name := "magnetSlows", fn := fun _ => fun
  | [d1, d2] => { results := [.lit (.bool false)], args := [d1, d2] }
  | _ => none }
def MagnetSlowsWrongFalsely : Prop := magnetSlowsRow.holds Try.pinned (OpenSpec.ofChange magnetSlowsWrong)

/-- 'perigeelaw23.MagnetKnown': WHATEVER THE INPUT: true; the input reads as it did. -/
def magnetKnownSpec : ChangeSpec := { name := "magnetKnown", fn := fun _ => fun
  | [] => { results := [.lit (.bool true)], args := [] }
  | _ => none }
def magnetKnownRow : OpenClaim := { program := "ytjjpdcekhdcemaa", sum := "7f297a0a7ba91d3582f791f930218b579e815eef44289bdc6153c16231872d59", func := "perigee/perigeelaw23.MagnetKnown", spec := "magnetKnown", inPlace := ["math/bits.Add64", "math/bits.Sub64"], unfollowed := true, recurses := true, named := ["math/bits.divideError", "math/bits.overflowError"], apart := false }
def MagnetKnownSaid : Prop := magnetKnownRow.holds Try.pinned (OpenSpec.ofChange magnetKnownSpec)

/-- ITS FALSE NEIGHBOUR: 'it returns false'. Refute it at one input. -/
def magnetKnownWrong : ChangeSpec := { name := "magnetKnown", fn := fun _ => fun
  | [] => { results := [.lit (.bool false)], args := [] }
  | _ => none }
def MagnetKnownWrongFalsely : Prop := magnetKnownRow.holds Try.pinned (OpenSpec.ofChange magnetKnownWrong)

/-- 'perigeelaw18.VectorsKnown': WHATEVER THE INPUT: true; the input reads as it did. -/
def vectorsKnownSpec : ChangeSpec := { name := "vectorsKnown", fn := fun _ => fun
  | [] => { results := [.lit (.bool true)], args := [] }
  | _ => none }
def vectorsKnownRow : OpenClaim := { program := "ytjjpdcekhdcemaa", sum := "7f297a0a7ba91d3582f791f930218b579e815eef44289bdc6153c16231872d59", func := "perigee/perigeelaw18.VectorsKnown", spec := "vectorsKnown", inPlace := ["math/bits.Add64", "math/bits.Sub64"], unfollowed := true, recurses := true, named := ["math/bits.divideError", "math/bits.overflowError"], apart := false }
def VectorsKnownSaid : Prop := vectorsKnownRow.holds Try.pinned (OpenSpec.ofChange vectorsKnownSpec)

/-- ITS FALSE NEIGHBOUR: 'it returns false'. Refute it at one input. -/
def vectorsKnownWrong : ChangeSpec := { name := "vectorsKnown", fn := fun _ => fun
  | [] => { results := [.lit (.bool false)], args := [] }
  | _ => none }
def VectorsKnownWrongFalsely : Prop := vectorsKnownRow.holds Try.pinned (OpenSpec.ofChange vectorsKnownWrong)

/-- 'perigeelaw19.QuatsUnits': WHATEVER THE INPUT: true; the input reads as it did. -/
def quatsUnitsSpec : ChangeSpec := { name := "quatsUnits", fn := fun _ => fun
  | [d] => { results := [.lit (.bool true)], args := [d] }
  | _ => none }
def quatsUnitsRow : OpenClaim := { program := "ytjjpdcekhdcemaa", sum := "7f297a0a7ba91d3582f791f930218b579e815eef44289bdc6153c16231872d59", func := "perigee/perigeelaw19.QuatsUnits", spec := "quatsUnits", inPlace := ["math/bits.Add64", "math/bits.Sub64"], unfollowed := true, recurses := true, named := ["math/bits.divideError", "math/bits.overflowError"], apart := false }
def QuatsUnitsSaid : Prop := quatsUnitsRow.holds Try.pinned (OpenSpec.ofChange quatsUnitsSpec)

/-- ITS FALSE NEIGHBOUR: 'it returns false'. Refute it at one input. -/
def quatsUnitsWrong : ChangeSpec := { name := "quatsUnits", fn := fun _ => fun
  | [d] => { results := [.lit (.bool false)], args := [d] }
  | _ => none }
def QuatsUnitsWrongFalsely : Prop := quatsUnitsRow.holds Try.pinned (OpenSpec.ofChange quatsUnitsWrong)

/-- 'perigeelaw19.QuatsLengths': WHATEVER THE INPUT: true; the input reads as it did. -/
def quatsLengthsSpec : ChangeSpec := { name := "quatsLengths", fn := fun _ => fun
  | [d1, d2] => { results := [.lit (.bool true)], args := [d1, d2] }
  | _ => none }
def quatsLengthsRow : OpenClaim := { program := "ytjjpdcekhdcemaa", sum := "7f297a0a7ba91d3582f791f930218b579e815eef44289bdc6153c16231872d59", func := "perigee/perigeelaw19.QuatsLengths", spec := "quatsLengths", inPlace := ["math/bits.Add64", "math/bits.Sub64"], unfollowed := true, recurses := true, named := ["math/bits.divideError", "math/bits.overflowError"], apart := false }
def QuatsLengthsSaid : Prop := quatsLengthsRow.holds Try.pinned (OpenSpec.ofChange quatsLengthsSpec)

/-- ITS FALSE NEIGHBOUR: 'it returns false'. Refute it at one input. -/
def quatsLengthsWrong : ChangeSpec := { name := "quatsLengths", fn := fun _ => fun
  | [d1, d2] => { results := [.lit (.bool false)], args := [d1, d2] }
  | _ => none }
def QuatsLengthsWrongFalsely : Prop := quatsLengthsRow.holds Try.pinned (OpenSpec.ofChange quatsLengthsWrong)

/-- 'perigeelaw19.QuatsKeeps': WHATEVER THE INPUT: true; the input reads as it did. -/
def quatsKeepsSpec : ChangeSpec := { name := "quatsKeeps", fn := fun _ => fun
  | [d1, d2] => { results := [.lit (.bool true)], args := [d1, d2] }
  | _ => none }
def quatsKeepsRow : OpenClaim := { program := "ytjjpdcekhdcemaa", sum := "7f297a0a7ba91d3582f791f930218b579e815eef44289bdc6153c16231872d59", func := "perigee/perigeelaw19.QuatsKeeps", spec := "quatsKeeps", inPlace := ["math/bits.Add64", "math/bits.Sub64"], unfollowed := true, recurses := true, named := ["math/bits.divideError", "math/bits.overflowError"], apart := false }
def QuatsKeepsSaid : Prop := quatsKeepsRow.holds Try.pinned (OpenSpec.ofChange quatsKeepsSpec)

/-- ITS FALSE NEIGHBOUR: 'it returns false'. Refute it at one input. -/
def quatsKeepsWrong : ChangeSpec := { name := "quatsKeeps", fn := fun _ => fun
  | [d1, d2] => { results := [.lit (.bool false)], args := [d1, d2] }
  | _ => none }
def QuatsKeepsWrongFalsely : Prop := quatsKeepsRow.holds Try.pinned (OpenSpec.ofChange quatsKeepsWrong)

/-- 'perigeelaw19.QuatsTurns': WHATEVER THE INPUT: true; the input reads as it did. -/
def quatsTurnsSpec : ChangeSpec := { name := "quatsTurns", fn := fun _ => fun
  | [d1, d2, d3] => { results := [.lit (.bool true)], args := [d1, d2, d3] }
  | _ => none }
def quatsTurnsRow : OpenClaim := { program := "ytjjpdcekhdcemaa", sum := "7f297a0a7ba91d3582f791f930218b579e815eef44289bdc6153c16231872d59", func := "perigee/perigeelaw19.QuatsTurns", spec := "quatsTurns", inPlace := ["math/bits.Add64", "math/bits.Sub64"], unfollowed := true, recurses := true, named := ["math/bits.divideError", "math/bits.overflowError"], apart := false }
def QuatsTurnsSaid : Prop := quatsTurnsRow.holds Try.pinned (OpenSpec.ofChange quatsTurnsSpec)

/-- ITS FALSE NEIGHBOUR: 'it returns false'. Refute it at one input. -/
def quatsTurnsWrong : ChangeSpec := { name := "quatsTurns", fn := fun _ => fun
  | [d1, d2, d3] => { results := [.lit (.bool false)], args := [d1, d2, d3] }
  | _ => none }
def QuatsTurnsWrongFalsely : Prop := quatsTurnsRow.holds Try.pinned (OpenSpec.ofChange quatsTurnsWrong)

/-- 'perigeelaw19.QuatsBetween': WHATEVER THE INPUT: true; the input reads as it did. -/
def quatsBetweenSpec : ChangeSpec := { name := "quatsBetween", fn := fun _ => fun
  | [d1, d2] => { results := [.lit (.bool true)], args := [d1, d2] }
  | _ => none }
def quatsBetweenRow : OpenClaim := { program := "ytjjpdcekhdcemaa", sum := "7f297a0a7ba91d3582f791f930218b579e815eef44289bdc6153c16231872d59", func := "perigee/perigeelaw19.QuatsBetween", spec := "quatsBetween", inPlace := ["math/bits.Add64", "math/bits.Sub64"], unfollowed := true, recurses := true, named := ["math/bits.divideError", "math/bits.overflowError"], apart := false }
def QuatsBetweenSaid : Prop := quatsBetweenRow.holds Try.pinned (OpenSpec.ofChange quatsBetweenSpec)

/-- ITS FALSE NEIGHBOUR: 'it returns false'. Refute it at one input. -/
def quatsBetweenWrong : ChangeSpec := { name := "quatsBetween", fn := fun _ => fun
  | [d1, d2] => { results := [.lit (.bool false)], args := [d1, d2] }
  | _ => none }
def QuatsBetweenWrongFalsely : Prop := quatsBetweenRow.holds Try.pinned (OpenSpec.ofChange quatsBetweenWrong)

/-- 'perigeelaw19.QuatsKnown': WHATEVER THE INPUT: true; the input reads as it did. -/
def quatsKnownSpec : ChangeSpec := { name := "quatsKnown", fn := fun _ => fun
  | [] => { results := [.lit (.bool true)], args := [] }
  | _ => none }
def quatsKnownRow : OpenClaim := { program := "ytjjpdcekhdcemaa", sum := "7f297a0a7ba91d3582f791f930218b579e815eef44289bdc6153c16231872d59", func := "perigee/perigeelaw19.QuatsKnown", spec := "quatsKnown", inPlace := ["math/bits.Add64", "math/bits.Sub64"], unfollowed := true, recurses := true, named := ["math/bits.divideError", "math/bits.overflowError"], apart := false }
def QuatsKnownSaid : Prop := quatsKnownRow.holds Try.pinned (OpenSpec.ofChange quatsKnownSpec)

/-- ITS FALSE NEIGHBOUR: 'it returns false'. Refute it at one input. -/
def quatsKnownWrong : ChangeSpec := { name := "quatsKnown", fn := fun _ => fun
  | [] => { results := [.lit (.bool false)], args := [] }
  | _ => none }
def QuatsKnownWrongFalsely : Prop := quatsKnownRow.holds Try.pinned (OpenSpec.ofChange quatsKnownWrong)

/- THE SECOND FORM. 'bulk': how many values and letters a reading holds, each counted each time it is reached (what is shared counts as often as it is met; a slice's spare places count too). A statement '..UptoSaid' is the law's where the arguments, and the package variables that the reading takes, are together of bulk at most 1048576: NARROWER than '..Said'. Prove '..Said' where nothing that the law and all that it calls make is longer than what came in: it says more and counts as full. Else prove '..UptoSaid'. A law counts once. -/
mutual
def uptoBulk {H : Type} : DataW H → Nat
  | .lit (.string bytes) => bytes.length + 1
  | .lit _ => 1
  | .nil => 1
  | .ptr d => uptoBulk d + 1
  | .slice elems spare => uptoBulkAll elems + uptoBulkAll spare + 1
  | .agg parts => uptoBulkAll parts + 1
  | .iface _ d => uptoBulk d + 1
  | .map entries => uptoBulkEntries entries + 1
  | .held _ => 1
def uptoBulkAll {H : Type} : List (DataW H) → Nat
  | [] => 0
  | d :: r => uptoBulk d + uptoBulkAll r
def uptoBulkEntries {H : Type} : List (Lit × DataW H) → Nat
  | [] => 0
  | x :: r => uptoBulkEntry x + uptoBulkEntries r
def uptoBulkEntry {H : Type} : Lit × DataW H → Nat
  | (.string bytes, d) => bytes.length + uptoBulk d + 1
  | (_, d) => uptoBulk d + 1
 end
def uptoSmall : (H : Type) → List (DataW H) → Bool := fun _ ds => decide (uptoBulkAll ds ≤ 1048576)
def OpenSpec.upto (s : _root_.Go.ChangeSpec) : _root_.Go.OpenSpec := { _root_.Go.OpenSpec.ofChange s with cond := some uptoSmall }

/-- 'perigeelaw18.VectorsProducts', WHERE WHAT IT READS IS OF BULK AT MOST 1048576: true; the input reads as it did. -/
def vectorsProductsUptoRow : OpenClaim := { program := "ytjjpdcekhdcemaa", sum := "7f297a0a7ba91d3582f791f930218b579e815eef44289bdc6153c16231872d59", func := "perigee/perigeelaw18.VectorsProducts", spec := "vectorsProducts", inPlace := ["math/bits.Add64", "math/bits.Sub64"], unfollowed := true, recurses := true, apart := false, narrowed := true }
def VectorsProductsUptoSaid : Prop := vectorsProductsUptoRow.holds Try.pinned (OpenSpec.upto vectorsProductsSpec)

/-- 'perigeelaw18.VectorsCrossed', WHERE WHAT IT READS IS OF BULK AT MOST 1048576: true; the input reads as it did. -/
def vectorsCrossedUptoRow : OpenClaim := { program := "ytjjpdcekhdcemaa", sum := "7f297a0a7ba91d3582f791f930218b579e815eef44289bdc6153c16231872d59", func := "perigee/perigeelaw18.VectorsCrossed", spec := "vectorsCrossed", inPlace := ["math/bits.Add64", "math/bits.Sub64"], unfollowed := true, recurses := true, apart := false, narrowed := true }
def VectorsCrossedUptoSaid : Prop := vectorsCrossedUptoRow.holds Try.pinned (OpenSpec.upto vectorsCrossedSpec)

/-- 'perigeelaw18.VectorsMatrices', WHERE WHAT IT READS IS OF BULK AT MOST 1048576: true; the input reads as it did. -/
def vectorsMatricesUptoRow : OpenClaim := { program := "ytjjpdcekhdcemaa", sum := "7f297a0a7ba91d3582f791f930218b579e815eef44289bdc6153c16231872d59", func := "perigee/perigeelaw18.VectorsMatrices", spec := "vectorsMatrices", inPlace := ["math/bits.Add64", "math/bits.Sub64"], unfollowed := true, recurses := true, apart := false, narrowed := true }
def VectorsMatricesUptoSaid : Prop := vectorsMatricesUptoRow.holds Try.pinned (OpenSpec.upto vectorsMatricesSpec)

/-- 'perigeelaw19.QuatsProducts', WHERE WHAT IT READS IS OF BULK AT MOST 1048576: true; the input reads as it did. -/
def quatsProductsUptoRow : OpenClaim := { program := "ytjjpdcekhdcemaa", sum := "7f297a0a7ba91d3582f791f930218b579e815eef44289bdc6153c16231872d59", func := "perigee/perigeelaw19.QuatsProducts", spec := "quatsProducts", inPlace := ["math/bits.Add64", "math/bits.Sub64"], unfollowed := true, recurses := true, apart := false, narrowed := true }
def QuatsProductsUptoSaid : Prop := quatsProductsUptoRow.holds Try.pinned (OpenSpec.upto quatsProductsSpec)

/-- 'perigeelaw19.QuatsRotates', WHERE WHAT IT READS IS OF BULK AT MOST 1048576: true; the input reads as it did. -/
def quatsRotatesUptoRow : OpenClaim := { program := "ytjjpdcekhdcemaa", sum := "7f297a0a7ba91d3582f791f930218b579e815eef44289bdc6153c16231872d59", func := "perigee/perigeelaw19.QuatsRotates", spec := "quatsRotates", inPlace := ["math/bits.Add64", "math/bits.Sub64"], unfollowed := true, recurses := true, apart := false, narrowed := true }
def QuatsRotatesUptoSaid : Prop := quatsRotatesUptoRow.holds Try.pinned (OpenSpec.upto quatsRotatesSpec)

/-- 'perigeelaw01.FixedAlgebra', WHERE WHAT IT READS IS OF BULK AT MOST 1048576: true; the input reads as it did. -/
def fixedAlgebraUptoRow : OpenClaim := { program := "ytjjpdcekhdcemaa", sum := "7f297a0a7ba91d3582f791f930218b579e815eef44289bdc6153c16231872d59", func := "perigee/perigeelaw01.FixedAlgebra", spec := "fixedAlgebra", inPlace := ["math/bits.Add64"], unfollowed := true, recurses := true, named := ["math/bits.divideError", "math/bits.overflowError"], apart := false, narrowed := true }
def FixedAlgebraUptoSaid : Prop := fixedAlgebraUptoRow.holds Try.pinned (OpenSpec.upto fixedAlgebraSpec)

/-- 'perigeelaw01.FixedRatios', WHERE WHAT IT READS IS OF BULK AT MOST 1048576: true; the input reads as it did. -/
def fixedRatiosUptoRow : OpenClaim := { program := "ytjjpdcekhdcemaa", sum := "7f297a0a7ba91d3582f791f930218b579e815eef44289bdc6153c16231872d59", func := "perigee/perigeelaw01.FixedRatios", spec := "fixedRatios", inPlace := ["math/bits.Add64"], unfollowed := true, recurses := true, named := ["math/bits.divideError", "math/bits.overflowError"], apart := false, narrowed := true }
def FixedRatiosUptoSaid : Prop := fixedRatiosUptoRow.holds Try.pinned (OpenSpec.upto fixedRatiosSpec)

/-- 'perigeelaw01.FixedWaves', WHERE WHAT IT READS IS OF BULK AT MOST 1048576: true; the input reads as it did. -/
def fixedWavesUptoRow : OpenClaim := { program := "ytjjpdcekhdcemaa", sum := "7f297a0a7ba91d3582f791f930218b579e815eef44289bdc6153c16231872d59", func := "perigee/perigeelaw01.FixedWaves", spec := "fixedWaves", inPlace := ["math/bits.Add64"], unfollowed := true, recurses := true, named := ["math/bits.divideError", "math/bits.overflowError"], apart := false, narrowed := true }
def FixedWavesUptoSaid : Prop := fixedWavesUptoRow.holds Try.pinned (OpenSpec.upto fixedWavesSpec)

/-- 'perigeelaw01.FixedCircle', WHERE WHAT IT READS IS OF BULK AT MOST 1048576: true; the input reads as it did. -/
def fixedCircleUptoRow : OpenClaim := { program := "ytjjpdcekhdcemaa", sum := "7f297a0a7ba91d3582f791f930218b579e815eef44289bdc6153c16231872d59", func := "perigee/perigeelaw01.FixedCircle", spec := "fixedCircle", inPlace := ["math/bits.Add64"], unfollowed := true, recurses := true, named := ["math/bits.divideError", "math/bits.overflowError"], apart := false, narrowed := true }
def FixedCircleUptoSaid : Prop := fixedCircleUptoRow.holds Try.pinned (OpenSpec.upto fixedCircleSpec)

/-- 'perigeelaw01.FixedRoots', WHERE WHAT IT READS IS OF BULK AT MOST 1048576: true; the input reads as it did. -/
def fixedRootsUptoRow : OpenClaim := { program := "ytjjpdcekhdcemaa", sum := "7f297a0a7ba91d3582f791f930218b579e815eef44289bdc6153c16231872d59", func := "perigee/perigeelaw01.FixedRoots", spec := "fixedRoots", inPlace := ["math/bits.Add64"], unfollowed := true, recurses := true, named := ["math/bits.divideError", "math/bits.overflowError"], apart := false, narrowed := true }
def FixedRootsUptoSaid : Prop := fixedRootsUptoRow.holds Try.pinned (OpenSpec.upto fixedRootsSpec)

/-- 'perigeelaw01.FixedLeast', WHERE WHAT IT READS IS OF BULK AT MOST 1048576: true; the input reads as it did. -/
def fixedLeastUptoRow : OpenClaim := { program := "ytjjpdcekhdcemaa", sum := "7f297a0a7ba91d3582f791f930218b579e815eef44289bdc6153c16231872d59", func := "perigee/perigeelaw01.FixedLeast", spec := "fixedLeast", inPlace := ["math/bits.Add64"], unfollowed := true, recurses := true, named := ["math/bits.divideError", "math/bits.overflowError"], apart := false, narrowed := true }
def FixedLeastUptoSaid : Prop := fixedLeastUptoRow.holds Try.pinned (OpenSpec.upto fixedLeastSpec)

/-- 'perigeelaw18.VectorsSums', WHERE WHAT IT READS IS OF BULK AT MOST 1048576: true; the input reads as it did. -/
def vectorsSumsUptoRow : OpenClaim := { program := "ytjjpdcekhdcemaa", sum := "7f297a0a7ba91d3582f791f930218b579e815eef44289bdc6153c16231872d59", func := "perigee/perigeelaw18.VectorsSums", spec := "vectorsSums", inPlace := ["math/bits.Add64", "math/bits.Sub64"], unfollowed := true, recurses := true, named := ["math/bits.divideError", "math/bits.overflowError"], apart := false, narrowed := true }
def VectorsSumsUptoSaid : Prop := vectorsSumsUptoRow.holds Try.pinned (OpenSpec.upto vectorsSumsSpec)

/-- 'perigeelaw01.FixedKnown', WHERE WHAT IT READS IS OF BULK AT MOST 1048576: true; the input reads as it did. -/
def fixedKnownUptoRow : OpenClaim := { program := "ytjjpdcekhdcemaa", sum := "7f297a0a7ba91d3582f791f930218b579e815eef44289bdc6153c16231872d59", func := "perigee/perigeelaw01.FixedKnown", spec := "fixedKnown", inPlace := ["math/bits.Add64", "math/bits.Sub64"], unfollowed := true, recurses := true, named := ["math/bits.divideError", "math/bits.overflowError"], apart := false, narrowed := true }
def FixedKnownUptoSaid : Prop := fixedKnownUptoRow.holds Try.pinned (OpenSpec.upto fixedKnownSpec)

/-- 'perigeelaw18.VectorsUnits', WHERE WHAT IT READS IS OF BULK AT MOST 1048576: true; the input reads as it did. -/
def vectorsUnitsUptoRow : OpenClaim := { program := "ytjjpdcekhdcemaa", sum := "7f297a0a7ba91d3582f791f930218b579e815eef44289bdc6153c16231872d59", func := "perigee/perigeelaw18.VectorsUnits", spec := "vectorsUnits", inPlace := ["math/bits.Add64", "math/bits.Sub64"], unfollowed := true, recurses := true, named := ["math/bits.divideError", "math/bits.overflowError"], apart := false, narrowed := true }
def VectorsUnitsUptoSaid : Prop := vectorsUnitsUptoRow.holds Try.pinned (OpenSpec.upto vectorsUnitsSpec)

/-- 'perigeelaw18.VectorsLengths', WHERE WHAT IT READS IS OF BULK AT MOST 1048576: true; the input reads as it did. -/
def vectorsLengthsUptoRow : OpenClaim := { program := "ytjjpdcekhdcemaa", sum := "7f297a0a7ba91d3582f791f930218b579e815eef44289bdc6153c16231872d59", func := "perigee/perigeelaw18.VectorsLengths", spec := "vectorsLengths", inPlace := ["math/bits.Add64", "math/bits.Sub64"], unfollowed := true, recurses := true, named := ["math/bits.divideError", "math/bits.overflowError"], apart := false, narrowed := true }
def VectorsLengthsUptoSaid : Prop := vectorsLengthsUptoRow.holds Try.pinned (OpenSpec.upto vectorsLengthsSpec)

/-- 'perigeelaw23.MagnetFields', WHERE WHAT IT READS IS OF BULK AT MOST 1048576: true; the input reads as it did. -/
def magnetFieldsUptoRow : OpenClaim := { program := "ytjjpdcekhdcemaa", sum := "7f297a0a7ba91d3582f791f930218b579e815eef44289bdc6153c16231872d59", func := "perigee/perigeelaw23.MagnetFields", spec := "magnetFields", inPlace := ["math/bits.Add64", "math/bits.Sub64"], unfollowed := true, recurses := true, named := ["math/bits.divideError", "math/bits.overflowError"], apart := false, narrowed := true }
def MagnetFieldsUptoSaid : Prop := magnetFieldsUptoRow.holds Try.pinned (OpenSpec.upto magnetFieldsSpec)

/-- 'perigeelaw23.MagnetTorques', WHERE WHAT IT READS IS OF BULK AT MOST 1048576: true; the input reads as it did. -/
def magnetTorquesUptoRow : OpenClaim := { program := "ytjjpdcekhdcemaa", sum := "7f297a0a7ba91d3582f791f930218b579e815eef44289bdc6153c16231872d59", func := "perigee/perigeelaw23.MagnetTorques", spec := "magnetTorques", inPlace := ["math/bits.Add64", "math/bits.Sub64"], unfollowed := true, recurses := true, named := ["math/bits.divideError", "math/bits.overflowError"], apart := false, narrowed := true }
def MagnetTorquesUptoSaid : Prop := magnetTorquesUptoRow.holds Try.pinned (OpenSpec.upto magnetTorquesSpec)

/-- 'perigeelaw23.MagnetUnloads', WHERE WHAT IT READS IS OF BULK AT MOST 1048576: true; the input reads as it did. -/
def magnetUnloadsUptoRow : OpenClaim := { program := "ytjjpdcekhdcemaa", sum := "7f297a0a7ba91d3582f791f930218b579e815eef44289bdc6153c16231872d59", func := "perigee/perigeelaw23.MagnetUnloads", spec := "magnetUnloads", inPlace := ["math/bits.Add64", "math/bits.Sub64"], unfollowed := true, recurses := true, named := ["math/bits.divideError", "math/bits.overflowError"], apart := false, narrowed := true }
def MagnetUnloadsUptoSaid : Prop := magnetUnloadsUptoRow.holds Try.pinned (OpenSpec.upto magnetUnloadsSpec)

/-- 'perigeelaw23.MagnetDoubles', WHERE WHAT IT READS IS OF BULK AT MOST 1048576: true; the input reads as it did. -/
def magnetDoublesUptoRow : OpenClaim := { program := "ytjjpdcekhdcemaa", sum := "7f297a0a7ba91d3582f791f930218b579e815eef44289bdc6153c16231872d59", func := "perigee/perigeelaw23.MagnetDoubles", spec := "magnetDoubles", inPlace := ["math/bits.Add64", "math/bits.Sub64"], unfollowed := true, recurses := true, named := ["math/bits.divideError", "math/bits.overflowError"], apart := false, narrowed := true }
def MagnetDoublesUptoSaid : Prop := magnetDoublesUptoRow.holds Try.pinned (OpenSpec.upto magnetDoublesSpec)

/-- 'perigeelaw23.MagnetAcross', WHERE WHAT IT READS IS OF BULK AT MOST 1048576: true; the input reads as it did. -/
def magnetAcrossUptoRow : OpenClaim := { program := "ytjjpdcekhdcemaa", sum := "7f297a0a7ba91d3582f791f930218b579e815eef44289bdc6153c16231872d59", func := "perigee/perigeelaw23.MagnetAcross", spec := "magnetAcross", inPlace := ["math/bits.Add64", "math/bits.Sub64"], unfollowed := true, recurses := true, named := ["math/bits.divideError", "math/bits.overflowError"], apart := false, narrowed := true }
def MagnetAcrossUptoSaid : Prop := magnetAcrossUptoRow.holds Try.pinned (OpenSpec.upto magnetAcrossSpec)

/-- 'perigeelaw23.MagnetSlows', WHERE WHAT IT READS IS OF BULK AT MOST 1048576: true; the input reads as it did. -/
def magnetSlowsUptoRow : OpenClaim := { program := "ytjjpdcekhdcemaa", sum := "7f297a0a7ba91d3582f791f930218b579e815eef44289bdc6153c16231872d59", func := "perigee/perigeelaw23.MagnetSlows", spec := "magnetSlows", inPlace := ["math/bits.Add64", "math/bits.Sub64"], unfollowed := true, recurses := true, named := ["math/bits.divideError", "math/bits.overflowError"], apart := false, narrowed := true }
def MagnetSlowsUptoSaid : Prop := magnetSlowsUptoRow.holds Try.pinned (OpenSpec.upto magnetSlowsSpec)

/-- 'perigeelaw23.MagnetKnown', WHERE WHAT IT READS IS OF BULK AT MOST 1048576: true; the input reads as it did. -/
def magnetKnownUptoRow : OpenClaim := { program := "ytjjpdcekhdcemaa", sum := "7f297a0a7ba91d3582f791f930218b579e815eef44289bdc6153c16231872d59", func := "perigee/perigeelaw23.MagnetKnown", spec := "magnetKnown", inPlace := ["math/bits.Add64", "math/bits.Sub64"], unfollowed := true, recurses := true, named := ["math/bits.divideError", "math/bits.overflowError"], apart := false, narrowed := true }
def MagnetKnownUptoSaid : Prop := magnetKnownUptoRow.holds Try.pinned (OpenSpec.upto magnetKnownSpec)

/-- 'perigeelaw18.VectorsKnown', WHERE WHAT IT READS IS OF BULK AT MOST 1048576: true; the input reads as it did. -/
def vectorsKnownUptoRow : OpenClaim := { program := "ytjjpdcekhdcemaa", sum := "7f297a0a7ba91d3582f791f930218b579e815eef44289bdc6153c16231872d59", func := "perigee/perigeelaw18.VectorsKnown", spec := "vectorsKnown", inPlace := ["math/bits.Add64", "math/bits.Sub64"], unfollowed := true, recurses := true, named := ["math/bits.divideError", "math/bits.overflowError"], apart := false, narrowed := true }
def VectorsKnownUptoSaid : Prop := vectorsKnownUptoRow.holds Try.pinned (OpenSpec.upto vectorsKnownSpec)

/-- 'perigeelaw19.QuatsUnits', WHERE WHAT IT READS IS OF BULK AT MOST 1048576: true; the input reads as it did. -/
def quatsUnitsUptoRow : OpenClaim := { program := "ytjjpdcekhdcemaa", sum := "7f297a0a7ba91d3582f791f930218b579e815eef44289bdc6153c16231872d59", func := "perigee/perigeelaw19.QuatsUnits", spec := "quatsUnits", inPlace := ["math/bits.Add64", "math/bits.Sub64"], unfollowed := true, recurses := true, named := ["math/bits.divideError", "math/bits.overflowError"], apart := false, narrowed := true }
def QuatsUnitsUptoSaid : Prop := quatsUnitsUptoRow.holds Try.pinned (OpenSpec.upto quatsUnitsSpec)

/-- 'perigeelaw19.QuatsLengths', WHERE WHAT IT READS IS OF BULK AT MOST 1048576: true; the input reads as it did. -/
def quatsLengthsUptoRow : OpenClaim := { program := "ytjjpdcekhdcemaa", sum := "7f297a0a7ba91d3582f791f930218b579e815eef44289bdc6153c16231872d59", func := "perigee/perigeelaw19.QuatsLengths", spec := "quatsLengths", inPlace := ["math/bits.Add64", "math/bits.Sub64"], unfollowed := true, recurses := true, named := ["math/bits.divideError", "math/bits.overflowError"], apart := false, narrowed := true }
def QuatsLengthsUptoSaid : Prop := quatsLengthsUptoRow.holds Try.pinned (OpenSpec.upto quatsLengthsSpec)

/-- 'perigeelaw19.QuatsKeeps', WHERE WHAT IT READS IS OF BULK AT MOST 1048576: true; the input reads as it did. -/
def quatsKeepsUptoRow : OpenClaim := { program := "ytjjpdcekhdcemaa", sum := "7f297a0a7ba91d3582f791f930218b579e815eef44289bdc6153c16231872d59", func := "perigee/perigeelaw19.QuatsKeeps", spec := "quatsKeeps", inPlace := ["math/bits.Add64", "math/bits.Sub64"], unfollowed := true, recurses := true, named := ["math/bits.divideError", "math/bits.overflowError"], apart := false, narrowed := true }
def QuatsKeepsUptoSaid : Prop := quatsKeepsUptoRow.holds Try.pinned (OpenSpec.upto quatsKeepsSpec)

/-- 'perigeelaw19.QuatsTurns', WHERE WHAT IT READS IS OF BULK AT MOST 1048576: true; the input reads as it did. -/
def quatsTurnsUptoRow : OpenClaim := { program := "ytjjpdcekhdcemaa", sum := "7f297a0a7ba91d3582f791f930218b579e815eef44289bdc6153c16231872d59", func := "perigee/perigeelaw19.QuatsTurns", spec := "quatsTurns", inPlace := ["math/bits.Add64", "math/bits.Sub64"], unfollowed := true, recurses := true, named := ["math/bits.divideError", "math/bits.overflowError"], apart := false, narrowed := true }
def QuatsTurnsUptoSaid : Prop := quatsTurnsUptoRow.holds Try.pinned (OpenSpec.upto quatsTurnsSpec)

/-- 'perigeelaw19.QuatsBetween', WHERE WHAT IT READS IS OF BULK AT MOST 1048576: true; the input reads as it did. -/
def quatsBetweenUptoRow : OpenClaim := { program := "ytjjpdcekhdcemaa", sum := "7f297a0a7ba91d3582f791f930218b579e815eef44289bdc6153c16231872d59", func := "perigee/perigeelaw19.QuatsBetween", spec := "quatsBetween", inPlace := ["math/bits.Add64", "math/bits.Sub64"], unfollowed := true, recurses := true, named := ["math/bits.divideError", "math/bits.overflowError"], apart := false, narrowed := true }
def QuatsBetweenUptoSaid : Prop := quatsBetweenUptoRow.holds Try.pinned (OpenSpec.upto quatsBetweenSpec)

/-- 'perigeelaw19.QuatsKnown', WHERE WHAT IT READS IS OF BULK AT MOST 1048576: true; the input reads as it did. -/
def quatsKnownUptoRow : OpenClaim := { program := "ytjjpdcekhdcemaa", sum := "7f297a0a7ba91d3582f791f930218b579e815eef44289bdc6153c16231872d59", func := "perigee/perigeelaw19.QuatsKnown", spec := "quatsKnown", inPlace := ["math/bits.Add64", "math/bits.Sub64"], unfollowed := true, recurses := true, named := ["math/bits.divideError", "math/bits.overflowError"], apart := false, narrowed := true }
def QuatsKnownUptoSaid : Prop := quatsKnownUptoRow.holds Try.pinned (OpenSpec.upto quatsKnownSpec)

end Rows
end Go.Proofs.Ytjjpdcekhdcemaa
