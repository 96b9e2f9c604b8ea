/-
  No cell of these rows narrows 'for every input' (looked for: loops, veiled, ifaces, maps, wideKeys, modest, calm, conditions, laid).
  DERIVED. THE GIVEN ROWS OF THIS SEAT. 10 by the template 'for every input the law returns true; each argument reads behind the call as it read before'; 0 by the template 'total and deterministic' (their statements: YtcgpcehdeihalaaTotals.lean).
  GIVEN WITH THE SEED: the statements are not yours to turn. If you find one false, say at which input.
  Laid BY PROGRAM, IN A SANDBOX (cutbox-rows.mjs): the forced cells as the released guide's own fill.sh prints them over the translation d66b40c67fceda2e… (all of the seat's roots in one cut). By AI agents, Wed Nov 11 2026. No macro, syntax, notation, axiom, sorry.
-/
import Derived.Test.YtcgpcehdeihalaaChecked
import GoSem.Claim
import GoSem.ClaimJoined
import GoSem.ClaimMapViews
import Derived.JoinedTies
import Derived.KernelRfl
namespace Go.Proofs.Ytcgpcehdeihalaa
/- THE CELL 'sum', in the pinned program and in every row, IS THE sha256 OF THE DUMP (.gsa) THAT YtcgpcehdeihalaaProg.lean LOADS. Nothing in Lean hashes anything: it is a label: what it is worth is what the hold of that sum in a sandbox is worth. -/
noncomputable def Try.pinned : Pinned := { name := "ytcgpcehdeihalaa", sum := "d66b40c67fceda2e2ba8cf2d7b64be1a4848fef35889af43788daa6611a2796c", checked := Try.checked }
namespace Rows
def none {H : Type} : Left H := { results := [], args := [] }

/-- 'perigeelaw19.QuatsLengths': WHATEVER THE INPUT: true; the input reads as it did. -/
def quatsLengthsSpec : ChangeSpec := { name := "quatsLengths", fn := fun _ => fun
  | [d1, d2] => { results := [.lit (.bool true)], args := [d1, d2] }
  | _ => none }
def quatsLengthsRow : OpenClaim := { program := "ytcgpcehdeihalaa", sum := "d66b40c67fceda2e2ba8cf2d7b64be1a4848fef35889af43788daa6611a2796c", func := "perigee/perigeelaw19.QuatsLengths", spec := "quatsLengths", inPlace := ["math/bits.Add64", "math/bits.Sub64"], unfollowed := true, recurses := true, named := ["math/bits.divideError", "math/bits.overflowError"], apart := false }
def QuatsLengthsSaid : Prop := quatsLengthsRow.holds Try.pinned (OpenSpec.ofChange quatsLengthsSpec)

/-- ITS FALSE NEIGHBOUR: 'it returns false'. Refute it at one input. -/
def quatsLengthsWrong : ChangeSpec := { name := "quatsLengths", fn := fun _ => fun
  | [d1, d2] => { results := [.lit (.bool false)], args := [d1, d2] }
  | _ => none }
def QuatsLengthsWrongFalsely : Prop := quatsLengthsRow.holds Try.pinned (OpenSpec.ofChange quatsLengthsWrong)

/-- 'perigeelaw19.QuatsKeeps': WHATEVER THE INPUT: true; the input reads as it did. -/
def quatsKeepsSpec : ChangeSpec := { name := "quatsKeeps", fn := fun _ => fun
  | [d1, d2] => { results := [.lit (.bool true)], args := [d1, d2] }
  | _ => none }
def quatsKeepsRow : OpenClaim := { program := "ytcgpcehdeihalaa", sum := "d66b40c67fceda2e2ba8cf2d7b64be1a4848fef35889af43788daa6611a2796c", func := "perigee/perigeelaw19.QuatsKeeps", spec := "quatsKeeps", inPlace := ["math/bits.Add64", "math/bits.Sub64"], unfollowed := true, recurses := true, named := ["math/bits.divideError", "math/bits.overflowError"], apart := false }
def QuatsKeepsSaid : Prop := quatsKeepsRow.holds Try.pinned (OpenSpec.ofChange quatsKeepsSpec)

/-- ITS FALSE NEIGHBOUR: 'it returns false'. Refute it at one input. -/
def quatsKeepsWrong : ChangeSpec := { name := "quatsKeeps", fn := fun _ => fun
  | [d1, d2] => { results := [.lit (.bool false)], args := [d1, d2] }
  | _ => none }
def QuatsKeepsWrongFalsely : Prop := quatsKeepsRow.holds Try.pinned (OpenSpec.ofChange quatsKeepsWrong)

/-- 'perigeelaw19.QuatsBetween': WHATEVER THE INPUT: true; the input reads as it did. -/
def quatsBetweenSpec : ChangeSpec := { name := "quatsBetween", fn := fun _ => fun
  | [d1, d2] => { results := [.lit (.bool true)], args := [d1, d2] }
  | _ => none }
def quatsBetweenRow : OpenClaim := { program := "ytcgpcehdeihalaa", sum := "d66b40c67fceda2e2ba8cf2d7b64be1a4848fef35889af43788daa6611a2796c", func := "perigee/perigeelaw19.QuatsBetween", spec := "quatsBetween", inPlace := ["math/bits.Add64", "math/bits.Sub64"], unfollowed := true, recurses := true, named := ["math/bits.divideError", "math/bits.overflowError"], apart := false }
def QuatsBetweenSaid : Prop := quatsBetweenRow.holds Try.pinned (OpenSpec.ofChange quatsBetweenSpec)

/-- ITS FALSE NEIGHBOUR: 'it returns false'. Refute it at one input. -/
def quatsBetweenWrong : ChangeSpec := { name := "quatsBetween", fn := fun _ => fun
  | [d1, d2] => { results := [.lit (.bool false)], args := [d1, d2] }
  | _ => none }
def QuatsBetweenWrongFalsely : Prop := quatsBetweenRow.holds Try.pinned (OpenSpec.ofChange quatsBetweenWrong)

/-- 'perigeelaw19.QuatsKnown': WHATEVER THE INPUT: true; the input reads as it did. -/
def quatsKnownSpec : ChangeSpec := { name := "quatsKnown", fn := fun _ => fun
  | [] => { results := [.lit (.bool true)], args := [] }
  | _ => none }
def quatsKnownRow : OpenClaim := { program := "ytcgpcehdeihalaa", sum := "d66b40c67fceda2e2ba8cf2d7b64be1a4848fef35889af43788daa6611a2796c", func := "perigee/perigeelaw19.QuatsKnown", spec := "quatsKnown", inPlace := ["math/bits.Add64", "math/bits.Sub64"], unfollowed := true, recurses := true, named := ["math/bits.divideError", "math/bits.overflowError"], apart := false }
def QuatsKnownSaid : Prop := quatsKnownRow.holds Try.pinned (OpenSpec.ofChange quatsKnownSpec)

/-- ITS FALSE NEIGHBOUR: 'it returns false'. Refute it at one input. -/
def quatsKnownWrong : ChangeSpec := { name := "quatsKnown", fn := fun _ => fun
  | [] => { results := [.lit (.bool false)], args := [] }
  | _ => none }
def QuatsKnownWrongFalsely : Prop := quatsKnownRow.holds Try.pinned (OpenSpec.ofChange quatsKnownWrong)

/-- 'perigeelaw25.OrbitPlaces': WHATEVER THE INPUT: true; the input reads as it did. -/
def orbitPlacesSpec : ChangeSpec := { name := "orbitPlaces", fn := fun _ => fun
  | [d1, d2] => { results := [.lit (.bool true)], args := [d1, d2] }
  | _ => none }
def orbitPlacesRow : OpenClaim := { program := "ytcgpcehdeihalaa", sum := "d66b40c67fceda2e2ba8cf2d7b64be1a4848fef35889af43788daa6611a2796c", func := "perigee/perigeelaw25.OrbitPlaces", spec := "orbitPlaces", inPlace := ["math/bits.Add64", "math/bits.Sub64"], unfollowed := true, recurses := true, named := ["math/bits.divideError", "math/bits.overflowError"], apart := false }
def OrbitPlacesSaid : Prop := orbitPlacesRow.holds Try.pinned (OpenSpec.ofChange orbitPlacesSpec)

/-- ITS FALSE NEIGHBOUR: 'it returns false'. Refute it at one input. -/
def orbitPlacesWrong : ChangeSpec := { name := "orbitPlaces", fn := fun _ => fun
  | [d1, d2] => { results := [.lit (.bool false)], args := [d1, d2] }
  | _ => none }
def OrbitPlacesWrongFalsely : Prop := orbitPlacesRow.holds Try.pinned (OpenSpec.ofChange orbitPlacesWrong)

/-- 'perigeelaw25.OrbitStations': WHATEVER THE INPUT: true; the input reads as it did. -/
def orbitStationsSpec : ChangeSpec := { name := "orbitStations", fn := fun _ => fun
  | [d1, d2, d3] => { results := [.lit (.bool true)], args := [d1, d2, d3] }
  | _ => none }
def orbitStationsRow : OpenClaim := { program := "ytcgpcehdeihalaa", sum := "d66b40c67fceda2e2ba8cf2d7b64be1a4848fef35889af43788daa6611a2796c", func := "perigee/perigeelaw25.OrbitStations", spec := "orbitStations", inPlace := ["math/bits.Add64", "math/bits.Sub64"], unfollowed := true, recurses := true, named := ["math/bits.divideError", "math/bits.overflowError"], apart := false }
def OrbitStationsSaid : Prop := orbitStationsRow.holds Try.pinned (OpenSpec.ofChange orbitStationsSpec)

/-- ITS FALSE NEIGHBOUR: 'it returns false'. Refute it at one input. -/
def orbitStationsWrong : ChangeSpec := { name := "orbitStations", fn := fun _ => fun
  | [d1, d2, d3] => { results := [.lit (.bool false)], args := [d1, d2, d3] }
  | _ => none }
def OrbitStationsWrongFalsely : Prop := orbitStationsRow.holds Try.pinned (OpenSpec.ofChange orbitStationsWrong)

/-- 'perigeelaw25.OrbitReturns': WHATEVER THE INPUT: true; the input reads as it did. -/
def orbitReturnsSpec : ChangeSpec := { name := "orbitReturns", fn := fun _ => fun
  | [d1, d2, d3] => { results := [.lit (.bool true)], args := [d1, d2, d3] }
  | _ => none }
def orbitReturnsRow : OpenClaim := { program := "ytcgpcehdeihalaa", sum := "d66b40c67fceda2e2ba8cf2d7b64be1a4848fef35889af43788daa6611a2796c", func := "perigee/perigeelaw25.OrbitReturns", spec := "orbitReturns", inPlace := ["math/bits.Add64", "math/bits.Sub64"], unfollowed := true, recurses := true, named := ["math/bits.divideError", "math/bits.overflowError"], apart := false }
def OrbitReturnsSaid : Prop := orbitReturnsRow.holds Try.pinned (OpenSpec.ofChange orbitReturnsSpec)

/-- ITS FALSE NEIGHBOUR: 'it returns false'. Refute it at one input. -/
def orbitReturnsWrong : ChangeSpec := { name := "orbitReturns", fn := fun _ => fun
  | [d1, d2, d3] => { results := [.lit (.bool false)], args := [d1, d2, d3] }
  | _ => none }
def OrbitReturnsWrongFalsely : Prop := orbitReturnsRow.holds Try.pinned (OpenSpec.ofChange orbitReturnsWrong)

/-- 'perigeelaw25.OrbitShadow': WHATEVER THE INPUT: true; the input reads as it did. -/
def orbitShadowSpec : ChangeSpec := { name := "orbitShadow", fn := fun _ => fun
  | [d1, d2] => { results := [.lit (.bool true)], args := [d1, d2] }
  | _ => none }
def orbitShadowRow : OpenClaim := { program := "ytcgpcehdeihalaa", sum := "d66b40c67fceda2e2ba8cf2d7b64be1a4848fef35889af43788daa6611a2796c", func := "perigee/perigeelaw25.OrbitShadow", spec := "orbitShadow", inPlace := ["math/bits.Add64", "math/bits.Sub64"], unfollowed := true, recurses := true, named := ["math/bits.divideError", "math/bits.overflowError"], apart := false }
def OrbitShadowSaid : Prop := orbitShadowRow.holds Try.pinned (OpenSpec.ofChange orbitShadowSpec)

/-- ITS FALSE NEIGHBOUR: 'it returns false'. Refute it at one input. -/
def orbitShadowWrong : ChangeSpec := { name := "orbitShadow", fn := fun _ => fun
  | [d1, d2] => { results := [.lit (.bool false)], args := [d1, d2] }
  | _ => none }
def OrbitShadowWrongFalsely : Prop := orbitShadowRow.holds Try.pinned (OpenSpec.ofChange orbitShadowWrong)

/-- 'perigeelaw25.OrbitKnown': WHATEVER THE INPUT: true; the input reads as it did. -/
def orbitKnownSpec : ChangeSpec := { name := "orbitKnown", fn := fun _ => fun
  | [] => { results := [.lit (.bool true)], args := [] }
  | _ => none }
def orbitKnownRow : OpenClaim := { program := "ytcgpcehdeihalaa", sum := "d66b40c67fceda2e2ba8cf2d7b64be1a4848fef35889af43788daa6611a2796c", func := "perigee/perigeelaw25.OrbitKnown", spec := "orbitKnown", inPlace := ["math/bits.Add64", "math/bits.Sub64"], unfollowed := true, recurses := true, named := ["math/bits.divideError", "math/bits.overflowError"], apart := false }
def OrbitKnownSaid : Prop := orbitKnownRow.holds Try.pinned (OpenSpec.ofChange orbitKnownSpec)

/-- ITS FALSE NEIGHBOUR: 'it returns false'. Refute it at one input. -/
def orbitKnownWrong : ChangeSpec := { name := "orbitKnown", fn := fun _ => fun
  | [] => { results := [.lit (.bool false)], args := [] }
  | _ => none }
def OrbitKnownWrongFalsely : Prop := orbitKnownRow.holds Try.pinned (OpenSpec.ofChange orbitKnownWrong)

/-- 'perigeelaw25.OrbitSpans': WHATEVER THE INPUT: true; the input reads as it did. -/
def orbitSpansSpec : ChangeSpec := { name := "orbitSpans", fn := fun _ => fun
  | [d1, d2, d3] => { results := [.lit (.bool true)], args := [d1, d2, d3] }
  | _ => none }
def orbitSpansRow : OpenClaim := { program := "ytcgpcehdeihalaa", sum := "d66b40c67fceda2e2ba8cf2d7b64be1a4848fef35889af43788daa6611a2796c", func := "perigee/perigeelaw25.OrbitSpans", spec := "orbitSpans", inPlace := ["math/bits.Add64", "math/bits.Sub64"], unfollowed := true, recurses := true, named := ["math/bits.divideError", "math/bits.overflowError"], apart := false }
def OrbitSpansSaid : Prop := orbitSpansRow.holds Try.pinned (OpenSpec.ofChange orbitSpansSpec)

/-- ITS FALSE NEIGHBOUR: 'it returns false'. Refute it at one input. -/
def orbitSpansWrong : ChangeSpec := { name := "orbitSpans", fn := fun _ => fun
  | [d1, d2, d3] => { results := [.lit (.bool false)], args := [d1, d2, d3] }
  | _ => none }
def OrbitSpansWrongFalsely : Prop := orbitSpansRow.holds Try.pinned (OpenSpec.ofChange orbitSpansWrong)

/- THE SECOND FORM. 'bulk': how many values and letters a reading holds, each counted each time it is reached (what is shared counts as often as it is met; a slice's spare places count too). A statement '..UptoSaid' is the law's where the arguments, and the package variables that the reading takes, are together of bulk at most 1048576: NARROWER than '..Said'. Prove '..Said' where nothing that the law and all that it calls make is longer than what came in: it says more and counts as full. Else prove '..UptoSaid'. A law counts once. -/
mutual
def uptoBulk {H : Type} : DataW H → Nat
  | .lit (.string bytes) => bytes.length + 1
  | .lit _ => 1
  | .nil => 1
  | .ptr d => uptoBulk d + 1
  | .slice elems spare => uptoBulkAll elems + uptoBulkAll spare + 1
  | .agg parts => uptoBulkAll parts + 1
  | .iface _ d => uptoBulk d + 1
  | .map entries => uptoBulkEntries entries + 1
  | .held _ => 1
def uptoBulkAll {H : Type} : List (DataW H) → Nat
  | [] => 0
  | d :: r => uptoBulk d + uptoBulkAll r
def uptoBulkEntries {H : Type} : List (Lit × DataW H) → Nat
  | [] => 0
  | x :: r => uptoBulkEntry x + uptoBulkEntries r
def uptoBulkEntry {H : Type} : Lit × DataW H → Nat
  | (.string bytes, d) => bytes.length + uptoBulk d + 1
  | (_, d) => uptoBulk d + 1
 end
def uptoSmall : (H : Type) → List (DataW H) → Bool := fun _ ds => decide (uptoBulkAll ds ≤ 1048576)
def OpenSpec.upto (s : _root_.Go.ChangeSpec) : _root_.Go.OpenSpec := { _root_.Go.OpenSpec.ofChange s with cond := some uptoSmall }

/-- 'perigeelaw19.QuatsLengths', WHERE WHAT IT READS IS OF BULK AT MOST 1048576: true; the input reads as it did. -/
def quatsLengthsUptoRow : OpenClaim := { program := "ytcgpcehdeihalaa", sum := "d66b40c67fceda2e2ba8cf2d7b64be1a4848fef35889af43788daa6611a2796c", func := "perigee/perigeelaw19.QuatsLengths", spec := "quatsLengths", inPlace := ["math/bits.Add64", "math/bits.Sub64"], unfollowed := true, recurses := true, named := ["math/bits.divideError", "math/bits.overflowError"], apart := false, narrowed := true }
def QuatsLengthsUptoSaid : Prop := quatsLengthsUptoRow.holds Try.pinned (OpenSpec.upto quatsLengthsSpec)

/-- 'perigeelaw19.QuatsKeeps', WHERE WHAT IT READS IS OF BULK AT MOST 1048576: true; the input reads as it did. -/
def quatsKeepsUptoRow : OpenClaim := { program := "ytcgpcehdeihalaa", sum := "d66b40c67fceda2e2ba8cf2d7b64be1a4848fef35889af43788daa6611a2796c", func := "perigee/perigeelaw19.QuatsKeeps", spec := "quatsKeeps", inPlace := ["math/bits.Add64", "math/bits.Sub64"], unfollowed := true, recurses := true, named := ["math/bits.divideError", "math/bits.overflowError"], apart := false, narrowed := true }
def QuatsKeepsUptoSaid : Prop := quatsKeepsUptoRow.holds Try.pinned (OpenSpec.upto quatsKeepsSpec)

/-- 'perigeelaw19.QuatsBetween', WHERE WHAT IT READS IS OF BULK AT MOST 1048576: true; the input reads as it did. -/
def quatsBetweenUptoRow : OpenClaim := { program := "ytcgpcehdeihalaa", sum := "d66b40c67fceda2e2ba8cf2d7b64be1a4848fef35889af43788daa6611a2796c", func := "perigee/perigeelaw19.QuatsBetween", spec := "quatsBetween", inPlace := ["math/bits.Add64", "math/bits.Sub64"], unfollowed := true, recurses := true, named := ["math/bits.divideError", "math/bits.overflowError"], apart := false, narrowed := true }
def QuatsBetweenUptoSaid : Prop := quatsBetweenUptoRow.holds Try.pinned (OpenSpec.upto quatsBetweenSpec)

/-- 'perigeelaw19.QuatsKnown', WHERE WHAT IT READS IS OF BULK AT MOST 1048576: true; the input reads as it did. -/
def quatsKnownUptoRow : OpenClaim := { program := "ytcgpcehdeihalaa", sum := "d66b40c67fceda2e2ba8cf2d7b64be1a4848fef35889af43788daa6611a2796c", func := "perigee/perigeelaw19.QuatsKnown", spec := "quatsKnown", inPlace := ["math/bits.Add64", "math/bits.Sub64"], unfollowed := true, recurses := true, named := ["math/bits.divideError", "math/bits.overflowError"], apart := false, narrowed := true }
def QuatsKnownUptoSaid : Prop := quatsKnownUptoRow.holds Try.pinned (OpenSpec.upto quatsKnownSpec)

/-- 'perigeelaw25.OrbitPlaces', WHERE WHAT IT READS IS OF BULK AT MOST 1048576: true; the input reads as it did. -/
def orbitPlacesUptoRow : OpenClaim := { program := "ytcgpcehdeihalaa", sum := "d66b40c67fceda2e2ba8cf2d7b64be1a4848fef35889af43788daa6611a2796c", func := "perigee/perigeelaw25.OrbitPlaces", spec := "orbitPlaces", inPlace := ["math/bits.Add64", "math/bits.Sub64"], unfollowed := true, recurses := true, named := ["math/bits.divideError", "math/bits.overflowError"], apart := false, narrowed := true }
def OrbitPlacesUptoSaid : Prop := orbitPlacesUptoRow.holds Try.pinned (OpenSpec.upto orbitPlacesSpec)

/-- 'perigeelaw25.OrbitStations', WHERE WHAT IT READS IS OF BULK AT MOST 1048576: true; the input reads as it did. -/
def orbitStationsUptoRow : OpenClaim := { program := "ytcgpcehdeihalaa", sum := "d66b40c67fceda2e2ba8cf2d7b64be1a4848fef35889af43788daa6611a2796c", func := "perigee/perigeelaw25.OrbitStations", spec := "orbitStations", inPlace := ["math/bits.Add64", "math/bits.Sub64"], unfollowed := true, recurses := true, named := ["math/bits.divideError", "math/bits.overflowError"], apart := false, narrowed := true }
def OrbitStationsUptoSaid : Prop := orbitStationsUptoRow.holds Try.pinned (OpenSpec.upto orbitStationsSpec)

/-- 'perigeelaw25.OrbitReturns', WHERE WHAT IT READS IS OF BULK AT MOST 1048576: true; the input reads as it did. -/
def orbitReturnsUptoRow : OpenClaim := { program := "ytcgpcehdeihalaa", sum := "d66b40c67fceda2e2ba8cf2d7b64be1a4848fef35889af43788daa6611a2796c", func := "perigee/perigeelaw25.OrbitReturns", spec := "orbitReturns", inPlace := ["math/bits.Add64", "math/bits.Sub64"], unfollowed := true, recurses := true, named := ["math/bits.divideError", "math/bits.overflowError"], apart := false, narrowed := true }
def OrbitReturnsUptoSaid : Prop := orbitReturnsUptoRow.holds Try.pinned (OpenSpec.upto orbitReturnsSpec)

/-- 'perigeelaw25.OrbitShadow', WHERE WHAT IT READS IS OF BULK AT MOST 1048576: true; the input reads as it did. -/
def orbitShadowUptoRow : OpenClaim := { program := "ytcgpcehdeihalaa", sum := "d66b40c67fceda2e2ba8cf2d7b64be1a4848fef35889af43788daa6611a2796c", func := "perigee/perigeelaw25.OrbitShadow", spec := "orbitShadow", inPlace := ["math/bits.Add64", "math/bits.Sub64"], unfollowed := true, recurses := true, named := ["math/bits.divideError", "math/bits.overflowError"], apart := false, narrowed := true }
def OrbitShadowUptoSaid : Prop := orbitShadowUptoRow.holds Try.pinned (OpenSpec.upto orbitShadowSpec)

/-- 'perigeelaw25.OrbitKnown', WHERE WHAT IT READS IS OF BULK AT MOST 1048576: true; the input reads as it did. -/
def orbitKnownUptoRow : OpenClaim := { program := "ytcgpcehdeihalaa", sum := "d66b40c67fceda2e2ba8cf2d7b64be1a4848fef35889af43788daa6611a2796c", func := "perigee/perigeelaw25.OrbitKnown", spec := "orbitKnown", inPlace := ["math/bits.Add64", "math/bits.Sub64"], unfollowed := true, recurses := true, named := ["math/bits.divideError", "math/bits.overflowError"], apart := false, narrowed := true }
def OrbitKnownUptoSaid : Prop := orbitKnownUptoRow.holds Try.pinned (OpenSpec.upto orbitKnownSpec)

/-- 'perigeelaw25.OrbitSpans', WHERE WHAT IT READS IS OF BULK AT MOST 1048576: true; the input reads as it did. -/
def orbitSpansUptoRow : OpenClaim := { program := "ytcgpcehdeihalaa", sum := "d66b40c67fceda2e2ba8cf2d7b64be1a4848fef35889af43788daa6611a2796c", func := "perigee/perigeelaw25.OrbitSpans", spec := "orbitSpans", inPlace := ["math/bits.Add64", "math/bits.Sub64"], unfollowed := true, recurses := true, named := ["math/bits.divideError", "math/bits.overflowError"], apart := false, narrowed := true }
def OrbitSpansUptoSaid : Prop := orbitSpansUptoRow.holds Try.pinned (OpenSpec.upto orbitSpansSpec)

end Rows
end Go.Proofs.Ytcgpcehdeihalaa
