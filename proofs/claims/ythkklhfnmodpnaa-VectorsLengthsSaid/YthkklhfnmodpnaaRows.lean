/-
  No cell of these rows narrows 'for every input' (looked for: loops, veiled, ifaces, maps, wideKeys, modest, calm, conditions, laid).
  DERIVED. THE GIVEN ROWS OF THIS SEAT. 14 by the template 'for every input the law returns true; each argument reads behind the call as it read before'; 0 by the template 'total and deterministic' (their statements: YthkklhfnmodpnaaTotals.lean).
  GIVEN WITH THE SEED: the statements are not yours to turn. If you find one false, say at which input.
  Laid BY PROGRAM, IN A SANDBOX (cutbox-rows.mjs): the forced cells as the released guide's own fill.sh prints them over the translation f41c5c6d5add61de… (all of the seat's roots in one cut). By AI agents, Wed Nov 11 2026. No macro, syntax, notation, axiom, sorry.
-/
import Derived.Test.YthkklhfnmodpnaaChecked
import GoSem.Claim
import GoSem.ClaimJoined
import GoSem.ClaimMapViews
import Derived.JoinedTies
import Derived.KernelRfl
namespace Go.Proofs.Ythkklhfnmodpnaa
/- THE CELL 'sum', in the pinned program and in every row, IS THE sha256 OF THE DUMP (.gsa) THAT YthkklhfnmodpnaaProg.lean LOADS. Nothing in Lean hashes anything: it is a label: what it is worth is what the hold of that sum in a sandbox is worth. -/
noncomputable def Try.pinned : Pinned := { name := "ythkklhfnmodpnaa", sum := "f41c5c6d5add61de8c6a9f95a75a1f0f027aa995307f1de718879fcc835926a5", checked := Try.checked }
namespace Rows
def none {H : Type} : Left H := { results := [], args := [] }

/-- 'perigeelaw18.VectorsMatrices': WHATEVER THE INPUT: true; the input reads as it did. -/
def vectorsMatricesSpec : ChangeSpec := { name := "vectorsMatrices", fn := fun _ => fun
  | [d1, d2, d3] => { results := [.lit (.bool true)], args := [d1, d2, d3] }
  | _ => none }
def vectorsMatricesRow : OpenClaim := { program := "ythkklhfnmodpnaa", sum := "f41c5c6d5add61de8c6a9f95a75a1f0f027aa995307f1de718879fcc835926a5", func := "perigee/perigeelaw18.VectorsMatrices", spec := "vectorsMatrices", inPlace := ["math/bits.Add64", "math/bits.Sub64"], unfollowed := true, recurses := true, apart := false }
def VectorsMatricesSaid : Prop := vectorsMatricesRow.holds Try.pinned (OpenSpec.ofChange vectorsMatricesSpec)

/-- ITS FALSE NEIGHBOUR: 'it returns false'. Refute it at one input. -/
def vectorsMatricesWrong : ChangeSpec := { name := "vectorsMatrices", fn := fun _ => fun
  | [d1, d2, d3] => { results := [.lit (.bool false)], args := [d1, d2, d3] }
  | _ => none }
def VectorsMatricesWrongFalsely : Prop := vectorsMatricesRow.holds Try.pinned (OpenSpec.ofChange vectorsMatricesWrong)

/-- 'perigeelaw19.QuatsProducts': WHATEVER THE INPUT: true; the input reads as it did. -/
def quatsProductsSpec : ChangeSpec := { name := "quatsProducts", fn := fun _ => fun
  | [d1, d2] => { results := [.lit (.bool true)], args := [d1, d2] }
  | _ => none }
def quatsProductsRow : OpenClaim := { program := "ythkklhfnmodpnaa", sum := "f41c5c6d5add61de8c6a9f95a75a1f0f027aa995307f1de718879fcc835926a5", func := "perigee/perigeelaw19.QuatsProducts", spec := "quatsProducts", inPlace := ["math/bits.Add64", "math/bits.Sub64"], unfollowed := true, recurses := true, apart := false }
def QuatsProductsSaid : Prop := quatsProductsRow.holds Try.pinned (OpenSpec.ofChange quatsProductsSpec)

/-- ITS FALSE NEIGHBOUR: 'it returns false'. Refute it at one input. -/
def quatsProductsWrong : ChangeSpec := { name := "quatsProducts", fn := fun _ => fun
  | [d1, d2] => { results := [.lit (.bool false)], args := [d1, d2] }
  | _ => none }
def QuatsProductsWrongFalsely : Prop := quatsProductsRow.holds Try.pinned (OpenSpec.ofChange quatsProductsWrong)

/-- 'perigeelaw19.QuatsRotates': WHATEVER THE INPUT: true; the input reads as it did. -/
def quatsRotatesSpec : ChangeSpec := { name := "quatsRotates", fn := fun _ => fun
  | [d1, d2] => { results := [.lit (.bool true)], args := [d1, d2] }
  | _ => none }
def quatsRotatesRow : OpenClaim := { program := "ythkklhfnmodpnaa", sum := "f41c5c6d5add61de8c6a9f95a75a1f0f027aa995307f1de718879fcc835926a5", func := "perigee/perigeelaw19.QuatsRotates", spec := "quatsRotates", inPlace := ["math/bits.Add64", "math/bits.Sub64"], unfollowed := true, recurses := true, apart := false }
def QuatsRotatesSaid : Prop := quatsRotatesRow.holds Try.pinned (OpenSpec.ofChange quatsRotatesSpec)

/-- ITS FALSE NEIGHBOUR: 'it returns false'. Refute it at one input. -/
def quatsRotatesWrong : ChangeSpec := { name := "quatsRotates", fn := fun _ => fun
  | [d1, d2] => { results := [.lit (.bool false)], args := [d1, d2] }
  | _ => none }
def QuatsRotatesWrongFalsely : Prop := quatsRotatesRow.holds Try.pinned (OpenSpec.ofChange quatsRotatesWrong)

/-- 'perigeelaw23.MagnetTorques': WHATEVER THE INPUT: true; the input reads as it did. -/
def magnetTorquesSpec : ChangeSpec := { name := "magnetTorques", fn := fun _ => fun
  | [d1, d2] => { results := [.lit (.bool true)], args := [d1, d2] }
  | _ => none }
def magnetTorquesRow : OpenClaim := { program := "ythkklhfnmodpnaa", sum := "f41c5c6d5add61de8c6a9f95a75a1f0f027aa995307f1de718879fcc835926a5", func := "perigee/perigeelaw23.MagnetTorques", spec := "magnetTorques", inPlace := ["math/bits.Add64", "math/bits.Sub64"], unfollowed := true, recurses := true, named := ["math/bits.divideError", "math/bits.overflowError"], apart := false }
def MagnetTorquesSaid : Prop := magnetTorquesRow.holds Try.pinned (OpenSpec.ofChange magnetTorquesSpec)

/-- ITS FALSE NEIGHBOUR: 'it returns false'. Refute it at one input. -/
def magnetTorquesWrong : ChangeSpec := { name := "magnetTorques", fn := fun _ => fun
  | [d1, d2] => { results := [.lit (.bool false)], args := [d1, d2] }
  | _ => none }
def MagnetTorquesWrongFalsely : Prop := magnetTorquesRow.holds Try.pinned (OpenSpec.ofChange magnetTorquesWrong)

/-- 'perigeelaw23.MagnetUnloads': WHATEVER THE INPUT: true; the input reads as it did. -/
def magnetUnloadsSpec : ChangeSpec := { name := "magnetUnloads", fn := fun _ => fun
  | [d1, d2] => { results := [.lit (.bool true)], args := [d1, d2] }
  | _ => none }
def magnetUnloadsRow : OpenClaim := { program := "ythkklhfnmodpnaa", sum := "f41c5c6d5add61de8c6a9f95a75a1f0f027aa995307f1de718879fcc835926a5", func := "perigee/perigeelaw23.MagnetUnloads", spec := "magnetUnloads", inPlace := ["math/bits.Add64", "math/bits.Sub64"], unfollowed := true, recurses := true, named := ["math/bits.divideError", "math/bits.overflowError"], apart := false }
def MagnetUnloadsSaid : Prop := magnetUnloadsRow.holds Try.pinned (OpenSpec.ofChange magnetUnloadsSpec)

/-- ITS FALSE NEIGHBOUR: 'it returns false'. Refute it at one input. -/
def magnetUnloadsWrong : ChangeSpec := { name := "magnetUnloads", fn := fun _ => fun
  | [d1, d2] => { results := [.lit (.bool false)], args := [d1, d2] }
  | _ => none }
def MagnetUnloadsWrongFalsely : Prop := magnetUnloadsRow.holds Try.pinned (OpenSpec.ofChange magnetUnloadsWrong)

/-- 'perigeelaw23.MagnetFields': WHATEVER THE INPUT: true; the input reads as it did. -/
def magnetFieldsSpec : ChangeSpec := { name := "magnetFields", fn := fun _ => fun
  | [d1, d2] => { results := [.lit (.bool true)], args := [d1, d2] }
  | _ => none }
def magnetFieldsRow : OpenClaim := { program := "ythkklhfnmodpnaa", sum := "f41c5c6d5add61de8c6a9f95a75a1f0f027aa995307f1de718879fcc835926a5", func := "perigee/perigeelaw23.MagnetFields", spec := "magnetFields", inPlace := ["math/bits.Add64", "math/bits.Sub64"], unfollowed := true, recurses := true, named := ["math/bits.divideError", "math/bits.overflowError"], apart := false }
def MagnetFieldsSaid : Prop := magnetFieldsRow.holds Try.pinned (OpenSpec.ofChange magnetFieldsSpec)

/-- ITS FALSE NEIGHBOUR: 'it returns false'. Refute it at one input. -/
def magnetFieldsWrong : ChangeSpec := { name := "magnetFields", fn := fun _ => fun
  | [d1, d2] => { results := [.lit (.bool false)], args := [d1, d2] }
  | _ => none }
def MagnetFieldsWrongFalsely : Prop := magnetFieldsRow.holds Try.pinned (OpenSpec.ofChange magnetFieldsWrong)

/-- 'perigeelaw23.MagnetDoubles': WHATEVER THE INPUT: true; the input reads as it did. -/
def magnetDoublesSpec : ChangeSpec := { name := "magnetDoubles", fn := fun _ => fun
  | [d1, d2] => { results := [.lit (.bool true)], args := [d1, d2] }
  | _ => none }
def magnetDoublesRow : OpenClaim := { program := "ythkklhfnmodpnaa", sum := "f41c5c6d5add61de8c6a9f95a75a1f0f027aa995307f1de718879fcc835926a5", func := "perigee/perigeelaw23.MagnetDoubles", spec := "magnetDoubles", inPlace := ["math/bits.Add64", "math/bits.Sub64"], unfollowed := true, recurses := true, named := ["math/bits.divideError", "math/bits.overflowError"], apart := false }
def MagnetDoublesSaid : Prop := magnetDoublesRow.holds Try.pinned (OpenSpec.ofChange magnetDoublesSpec)

/-- ITS FALSE NEIGHBOUR: 'it returns false'. Refute it at one input. -/
def magnetDoublesWrong : ChangeSpec := { name := "magnetDoubles", fn := fun _ => fun
  | [d1, d2] => { results := [.lit (.bool false)], args := [d1, d2] }
  | _ => none }
def MagnetDoublesWrongFalsely : Prop := magnetDoublesRow.holds Try.pinned (OpenSpec.ofChange magnetDoublesWrong)

/-- 'perigeelaw23.MagnetAcross': WHATEVER THE INPUT: true; the input reads as it did. -/
def magnetAcrossSpec : ChangeSpec := { name := "magnetAcross", fn := fun _ => fun
  | [d1, d2] => { results := [.lit (.bool true)], args := [d1, d2] }
  | _ => none }
def magnetAcrossRow : OpenClaim := { program := "ythkklhfnmodpnaa", sum := "f41c5c6d5add61de8c6a9f95a75a1f0f027aa995307f1de718879fcc835926a5", func := "perigee/perigeelaw23.MagnetAcross", spec := "magnetAcross", inPlace := ["math/bits.Add64", "math/bits.Sub64"], unfollowed := true, recurses := true, named := ["math/bits.divideError", "math/bits.overflowError"], apart := false }
def MagnetAcrossSaid : Prop := magnetAcrossRow.holds Try.pinned (OpenSpec.ofChange magnetAcrossSpec)

/-- ITS FALSE NEIGHBOUR: 'it returns false'. Refute it at one input. -/
def magnetAcrossWrong : ChangeSpec := { name := "magnetAcross", fn := fun _ => fun
  | [d1, d2] => { results := [.lit (.bool false)], args := [d1, d2] }
  | _ => none }
def MagnetAcrossWrongFalsely : Prop := magnetAcrossRow.holds Try.pinned (OpenSpec.ofChange magnetAcrossWrong)

/-- 'perigeelaw23.MagnetSlows': WHATEVER THE INPUT: true; the input reads as it did. -/
def magnetSlowsSpec : ChangeSpec := { name := "magnetSlows", fn := fun _ => fun
  | [d1, d2] => { results := [.lit (.bool true)], args := [d1, d2] }
  | _ => none }
def magnetSlowsRow : OpenClaim := { program := "ythkklhfnmodpnaa", sum := "f41c5c6d5add61de8c6a9f95a75a1f0f027aa995307f1de718879fcc835926a5", func := "perigee/perigeelaw23.MagnetSlows", spec := "magnetSlows", inPlace := ["math/bits.Add64", "math/bits.Sub64"], unfollowed := true, recurses := true, named := ["math/bits.divideError", "math/bits.overflowError"], apart := false }
def MagnetSlowsSaid : Prop := magnetSlowsRow.holds Try.pinned (OpenSpec.ofChange magnetSlowsSpec)

/-- ITS FALSE NEIGHBOUR: 'it returns false'. Refute it at one input. -/
def magnetSlowsWrong : ChangeSpec := { name := "magnetSlows", fn := fun _ => fun
  | [d1, d2] => { results := [.lit (.bool false)], args := [d1, d2] }
  | _ => none }
def MagnetSlowsWrongFalsely : Prop := magnetSlowsRow.holds Try.pinned (OpenSpec.ofChange magnetSlowsWrong)

/-- 'perigeelaw23.MagnetKnown': WHATEVER THE INPUT: true; the input reads as it did. -/
def magnetKnownSpec : ChangeSpec := { name := "magnetKnown", fn := fun _ => fun
  | [] => { results := [.lit (.bool true)], args := [] }
  | _ => none }
def magnetKnownRow : OpenClaim := { program := "ythkklhfnmodpnaa", sum := "f41c5c6d5add61de8c6a9f95a75a1f0f027aa995307f1de718879fcc835926a5", func := "perigee/perigeelaw23.MagnetKnown", spec := "magnetKnown", inPlace := ["math/bits.Add64", "math/bits.Sub64"], unfollowed := true, recurses := true, named := ["math/bits.divideError", "math/bits.overflowError"], apart := false }
def MagnetKnownSaid : Prop := magnetKnownRow.holds Try.pinned (OpenSpec.ofChange magnetKnownSpec)

/-- ITS FALSE NEIGHBOUR: 'it returns false'. Refute it at one input. -/
def magnetKnownWrong : ChangeSpec := { name := "magnetKnown", fn := fun _ => fun
  | [] => { results := [.lit (.bool false)], args := [] }
  | _ => none }
def MagnetKnownWrongFalsely : Prop := magnetKnownRow.holds Try.pinned (OpenSpec.ofChange magnetKnownWrong)

/-- 'perigeelaw18.VectorsUnits': WHATEVER THE INPUT: true; the input reads as it did. -/
def vectorsUnitsSpec : ChangeSpec := { name := "vectorsUnits", fn := fun _ => fun
  | [d1, d2] => { results := [.lit (.bool true)], args := [d1, d2] }
  | _ => none }
def vectorsUnitsRow : OpenClaim := { program := "ythkklhfnmodpnaa", sum := "f41c5c6d5add61de8c6a9f95a75a1f0f027aa995307f1de718879fcc835926a5", func := "perigee/perigeelaw18.VectorsUnits", spec := "vectorsUnits", inPlace := ["math/bits.Add64", "math/bits.Sub64"], unfollowed := true, recurses := true, named := ["math/bits.divideError", "math/bits.overflowError"], apart := false }
def VectorsUnitsSaid : Prop := vectorsUnitsRow.holds Try.pinned (OpenSpec.ofChange vectorsUnitsSpec)

/-- ITS FALSE NEIGHBOUR: 'it returns false'. Refute it at one input. -/
def vectorsUnitsWrong : ChangeSpec := { name := "vectorsUnits", fn := fun _ => fun
  | [d1, d2] => { results := [.lit (.bool false)], args := [d1, d2] }
  | _ => none }
def VectorsUnitsWrongFalsely : Prop := vectorsUnitsRow.holds Try.pinned (OpenSpec.ofChange vectorsUnitsWrong)

/-- 'perigeelaw18.VectorsLengths': WHATEVER THE INPUT: true; the input reads as it did. -/
def vectorsLengthsSpec : ChangeSpec := { name := "vectorsLengths", fn := fun _ => fun
  | [d1, d2] => { results := [.lit (.bool true)], args := [d1, d2] }
  | _ => none }
def vectorsLengthsRow : OpenClaim := { program := "ythkklhfnmodpnaa", sum := "f41c5c6d5add61de8c6a9f95a75a1f0f027aa995307f1de718879fcc835926a5", func := "perigee/perigeelaw18.VectorsLengths", spec := "vectorsLengths", inPlace := ["math/bits.Add64", "math/bits.Sub64"], unfollowed := true, recurses := true, named := ["math/bits.divideError", "math/bits.overflowError"], apart := false }
def VectorsLengthsSaid : Prop := vectorsLengthsRow.holds Try.pinned (OpenSpec.ofChange vectorsLengthsSpec)

/-- ITS FALSE NEIGHBOUR: 'it returns false'. Refute it at one input. -/
def vectorsLengthsWrong : ChangeSpec := { name := "vectorsLengths", fn := fun _ => fun
  | [d1, d2] => { results := [.lit (.bool false)], args := [d1, d2] }
  | _ => none }
def VectorsLengthsWrongFalsely : Prop := vectorsLengthsRow.holds Try.pinned (OpenSpec.ofChange vectorsLengthsWrong)

/-- 'perigeelaw18.VectorsKnown': WHATEVER THE INPUT: true; the input reads as it did. -/
def vectorsKnownSpec : ChangeSpec := { name := "vectorsKnown", fn := fun _ => fun
  | [] => { results := [.lit (.bool true)], args := [] }
  | _ => none }
def vectorsKnownRow : OpenClaim := { program := "ythkklhfnmodpnaa", sum := "f41c5c6d5add61de8c6a9f95a75a1f0f027aa995307f1de718879fcc835926a5", func := "perigee/perigeelaw18.VectorsKnown", spec := "vectorsKnown", inPlace := ["math/bits.Add64", "math/bits.Sub64"], unfollowed := true, recurses := true, named := ["math/bits.divideError", "math/bits.overflowError"], apart := false }
def VectorsKnownSaid : Prop := vectorsKnownRow.holds Try.pinned (OpenSpec.ofChange vectorsKnownSpec)

/-- ITS FALSE NEIGHBOUR: 'it returns false'. Refute it at one input. -/
def vectorsKnownWrong : ChangeSpec := { name := "vectorsKnown", fn := fun _ => fun
  | [] => { results := [.lit (.bool false)], args := [] }
  | _ => none }
def VectorsKnownWrongFalsely : Prop := vectorsKnownRow.holds Try.pinned (OpenSpec.ofChange vectorsKnownWrong)

/-- 'perigeelaw19.QuatsUnits': WHATEVER THE INPUT: true; the input reads as it did. -/
def quatsUnitsSpec : ChangeSpec := { name := "quatsUnits", fn := fun _ => fun
  | [d] => { results := [.lit (.bool true)], args := [d] }
  | _ => none }
def quatsUnitsRow : OpenClaim := { program := "ythkklhfnmodpnaa", sum := "f41c5c6d5add61de8c6a9f95a75a1f0f027aa995307f1de718879fcc835926a5", func := "perigee/perigeelaw19.QuatsUnits", spec := "quatsUnits", inPlace := ["math/bits.Add64", "math/bits.Sub64"], unfollowed := true, recurses := true, named := ["math/bits.divideError", "math/bits.overflowError"], apart := false }
def QuatsUnitsSaid : Prop := quatsUnitsRow.holds Try.pinned (OpenSpec.ofChange quatsUnitsSpec)

/-- ITS FALSE NEIGHBOUR: 'it returns false'. Refute it at one input. -/
def quatsUnitsWrong : ChangeSpec := { name := "quatsUnits", fn := fun _ => fun
  | [d] => { results := [.lit (.bool false)], args := [d] }
  | _ => none }
def QuatsUnitsWrongFalsely : Prop := quatsUnitsRow.holds Try.pinned (OpenSpec.ofChange quatsUnitsWrong)

/- THE SECOND FORM. 'bulk': how many values and letters a reading holds, each counted each time it is reached (what is shared counts as often as it is met; a slice's spare places count too). A statement '..UptoSaid' is the law's where the arguments, and the package variables that the reading takes, are together of bulk at most 1048576: NARROWER than '..Said'. Prove '..Said' where nothing that the law and all that it calls make is longer than what came in: it says more and counts as full. Else prove '..UptoSaid'. A law counts once. -/
mutual
def uptoBulk {H : Type} : DataW H → Nat
  | .lit (.string bytes) => bytes.length + 1
  | .lit _ => 1
  | .nil => 1
  | .ptr d => uptoBulk d + 1
  | .slice elems spare => uptoBulkAll elems + uptoBulkAll spare + 1
  | .agg parts => uptoBulkAll parts + 1
  | .iface _ d => uptoBulk d + 1
  | .map entries => uptoBulkEntries entries + 1
  | .held _ => 1
def uptoBulkAll {H : Type} : List (DataW H) → Nat
  | [] => 0
  | d :: r => uptoBulk d + uptoBulkAll r
def uptoBulkEntries {H : Type} : List (Lit × DataW H) → Nat
  | [] => 0
  | x :: r => uptoBulkEntry x + uptoBulkEntries r
def uptoBulkEntry {H : Type} : Lit × DataW H → Nat
  | (.string bytes, d) => bytes.length + uptoBulk d + 1
  | (_, d) => uptoBulk d + 1
 end
def uptoSmall : (H : Type) → List (DataW H) → Bool := fun _ ds => decide (uptoBulkAll ds ≤ 1048576)
def OpenSpec.upto (s : _root_.Go.ChangeSpec) : _root_.Go.OpenSpec := { _root_.Go.OpenSpec.ofChange s with cond := some uptoSmall }

/-- 'perigeelaw18.VectorsMatrices', WHERE WHAT IT READS IS OF BULK AT MOST 1048576: true; the input reads as it did. -/
def vectorsMatricesUptoRow : OpenClaim := { program := "ythkklhfnmodpnaa", sum := "f41c5c6d5add61de8c6a9f95a75a1f0f027aa995307f1de718879fcc835926a5", func := "perigee/perigeelaw18.VectorsMatrices", spec := "vectorsMatrices", inPlace := ["math/bits.Add64", "math/bits.Sub64"], unfollowed := true, recurses := true, apart := false, narrowed := true }
def VectorsMatricesUptoSaid : Prop := vectorsMatricesUptoRow.holds Try.pinned (OpenSpec.upto vectorsMatricesSpec)

/-- 'perigeelaw19.QuatsProducts', WHERE WHAT IT READS IS OF BULK AT MOST 1048576: true; the input reads as it did. -/
def quatsProductsUptoRow : OpenClaim := { program := "ythkklhfnmodpnaa", sum := "f41c5c6d5add61de8c6a9f95a75a1f0f027aa995307f1de718879fcc835926a5", func := "perigee/perigeelaw19.QuatsProducts", spec := "quatsProducts", inPlace := ["math/bits.Add64", "math/bits.Sub64"], unfollowed := true, recurses := true, apart := false, narrowed := true }
def QuatsProductsUptoSaid : Prop := quatsProductsUptoRow.holds Try.pinned (OpenSpec.upto quatsProductsSpec)

/-- 'perigeelaw19.QuatsRotates', WHERE WHAT IT READS IS OF BULK AT MOST 1048576: true; the input reads as it did. -/
def quatsRotatesUptoRow : OpenClaim := { program := "ythkklhfnmodpnaa", sum := "f41c5c6d5add61de8c6a9f95a75a1f0f027aa995307f1de718879fcc835926a5", func := "perigee/perigeelaw19.QuatsRotates", spec := "quatsRotates", inPlace := ["math/bits.Add64", "math/bits.Sub64"], unfollowed := true, recurses := true, apart := false, narrowed := true }
def QuatsRotatesUptoSaid : Prop := quatsRotatesUptoRow.holds Try.pinned (OpenSpec.upto quatsRotatesSpec)

/-- 'perigeelaw23.MagnetTorques', WHERE WHAT IT READS IS OF BULK AT MOST 1048576: true; the input reads as it did. -/
def magnetTorquesUptoRow : OpenClaim := { program := "ythkklhfnmodpnaa", sum := "f41c5c6d5add61de8c6a9f95a75a1f0f027aa995307f1de718879fcc835926a5", func := "perigee/perigeelaw23.MagnetTorques", spec := "magnetTorques", inPlace := ["math/bits.Add64", "math/bits.Sub64"], unfollowed := true, recurses := true, named := ["math/bits.divideError", "math/bits.overflowError"], apart := false, narrowed := true }
def MagnetTorquesUptoSaid : Prop := magnetTorquesUptoRow.holds Try.pinned (OpenSpec.upto magnetTorquesSpec)

/-- 'perigeelaw23.MagnetUnloads', WHERE WHAT IT READS IS OF BULK AT MOST 1048576: true; the input reads as it did. -/
def magnetUnloadsUptoRow : OpenClaim := { program := "ythkklhfnmodpnaa", sum := "f41c5c6d5add61de8c6a9f95a75a1f0f027aa995307f1de718879fcc835926a5", func := "perigee/perigeelaw23.MagnetUnloads", spec := "magnetUnloads", inPlace := ["math/bits.Add64", "math/bits.Sub64"], unfollowed := true, recurses := true, named := ["math/bits.divideError", "math/bits.overflowError"], apart := false, narrowed := true }
def MagnetUnloadsUptoSaid : Prop := magnetUnloadsUptoRow.holds Try.pinned (OpenSpec.upto magnetUnloadsSpec)

/-- 'perigeelaw23.MagnetFields', WHERE WHAT IT READS IS OF BULK AT MOST 1048576: true; the input reads as it did. -/
def magnetFieldsUptoRow : OpenClaim := { program := "ythkklhfnmodpnaa", sum := "f41c5c6d5add61de8c6a9f95a75a1f0f027aa995307f1de718879fcc835926a5", func := "perigee/perigeelaw23.MagnetFields", spec := "magnetFields", inPlace := ["math/bits.Add64", "math/bits.Sub64"], unfollowed := true, recurses := true, named := ["math/bits.divideError", "math/bits.overflowError"], apart := false, narrowed := true }
def MagnetFieldsUptoSaid : Prop := magnetFieldsUptoRow.holds Try.pinned (OpenSpec.upto magnetFieldsSpec)

/-- 'perigeelaw23.MagnetDoubles', WHERE WHAT IT READS IS OF BULK AT MOST 1048576: true; the input reads as it did. -/
def magnetDoublesUptoRow : OpenClaim := { program := "ythkklhfnmodpnaa", sum := "f41c5c6d5add61de8c6a9f95a75a1f0f027aa995307f1de718879fcc835926a5", func := "perigee/perigeelaw23.MagnetDoubles", spec := "magnetDoubles", inPlace := ["math/bits.Add64", "math/bits.Sub64"], unfollowed := true, recurses := true, named := ["math/bits.divideError", "math/bits.overflowError"], apart := false, narrowed := true }
def MagnetDoublesUptoSaid : Prop := magnetDoublesUptoRow.holds Try.pinned (OpenSpec.upto magnetDoublesSpec)

/-- 'perigeelaw23.MagnetAcross', WHERE WHAT IT READS IS OF BULK AT MOST 1048576: true; the input reads as it did. -/
def magnetAcrossUptoRow : OpenClaim := { program := "ythkklhfnmodpnaa", sum := "f41c5c6d5add61de8c6a9f95a75a1f0f027aa995307f1de718879fcc835926a5", func := "perigee/perigeelaw23.MagnetAcross", spec := "magnetAcross", inPlace := ["math/bits.Add64", "math/bits.Sub64"], unfollowed := true, recurses := true, named := ["math/bits.divideError", "math/bits.overflowError"], apart := false, narrowed := true }
def MagnetAcrossUptoSaid : Prop := magnetAcrossUptoRow.holds Try.pinned (OpenSpec.upto magnetAcrossSpec)

/-- 'perigeelaw23.MagnetSlows', WHERE WHAT IT READS IS OF BULK AT MOST 1048576: true; the input reads as it did. -/
def magnetSlowsUptoRow : OpenClaim := { program := "ythkklhfnmodpnaa", sum := "f41c5c6d5add61de8c6a9f95a75a1f0f027aa995307f1de718879fcc835926a5", func := "perigee/perigeelaw23.MagnetSlows", spec := "magnetSlows", inPlace := ["math/bits.Add64", "math/bits.Sub64"], unfollowed := true, recurses := true, named := ["math/bits.divideError", "math/bits.overflowError"], apart := false, narrowed := true }
def MagnetSlowsUptoSaid : Prop := magnetSlowsUptoRow.holds Try.pinned (OpenSpec.upto magnetSlowsSpec)

/-- 'perigeelaw23.MagnetKnown', WHERE WHAT IT READS IS OF BULK AT MOST 1048576: true; the input reads as it did. -/
def magnetKnownUptoRow : OpenClaim := { program := "ythkklhfnmodpnaa", sum := "f41c5c6d5add61de8c6a9f95a75a1f0f027aa995307f1de718879fcc835926a5", func := "perigee/perigeelaw23.MagnetKnown", spec := "magnetKnown", inPlace := ["math/bits.Add64", "math/bits.Sub64"], unfollowed := true, recurses := true, named := ["math/bits.divideError", "math/bits.overflowError"], apart := false, narrowed := true }
def MagnetKnownUptoSaid : Prop := magnetKnownUptoRow.holds Try.pinned (OpenSpec.upto magnetKnownSpec)

/-- 'perigeelaw18.VectorsUnits', WHERE WHAT IT READS IS OF BULK AT MOST 1048576: true; the input reads as it did. -/
def vectorsUnitsUptoRow : OpenClaim := { program := "ythkklhfnmodpnaa", sum := "f41c5c6d5add61de8c6a9f95a75a1f0f027aa995307f1de718879fcc835926a5", func := "perigee/perigeelaw18.VectorsUnits", spec := "vectorsUnits", inPlace := ["math/bits.Add64", "math/bits.Sub64"], unfollowed := true, recurses := true, named := ["math/bits.divideError", "math/bits.overflowError"], apart := false, narrowed := true }
def VectorsUnitsUptoSaid : Prop := vectorsUnitsUptoRow.holds Try.pinned (OpenSpec.upto vectorsUnitsSpec)

/-- 'perigeelaw18.VectorsLengths', WHERE WHAT IT READS IS OF BULK AT MOST 1048576: true; the input reads as it did. -/
def vectorsLengthsUptoRow : OpenClaim := { program := "ythkklhfnmodpnaa", sum := "f41c5c6d5add61de8c6a9f95a75a1f0f027aa995307f1de718879fcc835926a5", func := "perigee/perigeelaw18.VectorsLengths", spec := "vectorsLengths", inPlace := ["math/bits.Add64", "math/bits.Sub64"], unfollowed := true, recurses := true, named := ["math/bits.divideError", "math/bits.overflowError"], apart := false, narrowed := true }
def VectorsLengthsUptoSaid : Prop := vectorsLengthsUptoRow.holds Try.pinned (OpenSpec.upto vectorsLengthsSpec)

/-- 'perigeelaw18.VectorsKnown', WHERE WHAT IT READS IS OF BULK AT MOST 1048576: true; the input reads as it did. -/
def vectorsKnownUptoRow : OpenClaim := { program := "ythkklhfnmodpnaa", sum := "f41c5c6d5add61de8c6a9f95a75a1f0f027aa995307f1de718879fcc835926a5", func := "perigee/perigeelaw18.VectorsKnown", spec := "vectorsKnown", inPlace := ["math/bits.Add64", "math/bits.Sub64"], unfollowed := true, recurses := true, named := ["math/bits.divideError", "math/bits.overflowError"], apart := false, narrowed := true }
def VectorsKnownUptoSaid : Prop := vectorsKnownUptoRow.holds Try.pinned (OpenSpec.upto vectorsKnownSpec)

/-- 'perigeelaw19.QuatsUnits', WHERE WHAT IT READS IS OF BULK AT MOST 1048576: true; the input reads as it did. -/
def quatsUnitsUptoRow : OpenClaim := { program := "ythkklhfnmodpnaa", sum := "f41c5c6d5add61de8c6a9f95a75a1f0f027aa995307f1de718879fcc835926a5", func := "perigee/perigeelaw19.QuatsUnits", spec := "quatsUnits", inPlace := ["math/bits.Add64", "math/bits.Sub64"], unfollowed := true, recurses := true, named := ["math/bits.divideError", "math/bits.overflowError"], apart := false, narrowed := true }
def QuatsUnitsUptoSaid : Prop := quatsUnitsUptoRow.holds Try.pinned (OpenSpec.upto quatsUnitsSpec)

end Rows
end Go.Proofs.Ythkklhfnmodpnaa
