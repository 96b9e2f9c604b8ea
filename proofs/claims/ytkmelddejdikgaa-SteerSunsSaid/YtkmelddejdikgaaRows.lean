/-
  No cell of these rows narrows 'for every input' (looked for: loops, veiled, ifaces, maps, wideKeys, modest, calm, conditions, laid).
  DERIVED. THE GIVEN ROWS OF THIS SEAT. 8 by the template 'for every input the law returns true; each argument reads behind the call as it read before'; 0 by the template 'total and deterministic' (their statements: YtkmelddejdikgaaTotals.lean).
  GIVEN WITH THE SEED: the statements are not yours to turn. If you find one false, say at which input.
  Laid BY PROGRAM, IN A SANDBOX (cutbox-rows.mjs): the forced cells as the released guide's own fill.sh prints them over the translation aa073a65dbec4843… (all of the seat's roots in one cut). By AI agents, Wed Nov 11 2026. No macro, syntax, notation, axiom, sorry.
-/
import Derived.Test.YtkmelddejdikgaaChecked
import GoSem.Claim
import GoSem.ClaimJoined
import GoSem.ClaimMapViews
import Derived.JoinedTies
import Derived.KernelRfl
namespace Go.Proofs.Ytkmelddejdikgaa
/- THE CELL 'sum', in the pinned program and in every row, IS THE sha256 OF THE DUMP (.gsa) THAT YtkmelddejdikgaaProg.lean LOADS. Nothing in Lean hashes anything: it is a label: what it is worth is what the hold of that sum in a sandbox is worth. -/
noncomputable def Try.pinned : Pinned := { name := "ytkmelddejdikgaa", sum := "aa073a65dbec48439296b172d4343e55c86c2d30dca2cdf5473332808e08be68", checked := Try.checked }
namespace Rows
def none {H : Type} : Left H := { results := [], args := [] }

/-- 'perigeelaw20.StarsResiduals': WHATEVER THE INPUT: true; the input reads as it did. -/
def starsResidualsSpec : ChangeSpec := { name := "starsResiduals", fn := fun _ => fun
  | [d1, d2] => { results := [.lit (.bool true)], args := [d1, d2] }
  | _ => none }
def starsResidualsRow : OpenClaim := { program := "ytkmelddejdikgaa", sum := "aa073a65dbec48439296b172d4343e55c86c2d30dca2cdf5473332808e08be68", func := "perigee/perigeelaw20.StarsResiduals", spec := "starsResiduals", inPlace := ["math/bits.Add64", "math/bits.Sub64"], unfollowed := true, recurses := true, named := ["math/bits.divideError", "math/bits.overflowError"], plainKeys := false, apart := false }
def StarsResidualsSaid : Prop := starsResidualsRow.holds Try.pinned (OpenSpec.ofChange starsResidualsSpec)

/-- ITS FALSE NEIGHBOUR: 'it returns false'. Refute it at one input. -/
def starsResidualsWrong : ChangeSpec := { name := "starsResiduals", fn := fun _ => fun
  | [d1, d2] => { results := [.lit (.bool false)], args := [d1, d2] }
  | _ => none }
def StarsResidualsWrongFalsely : Prop := starsResidualsRow.holds Try.pinned (OpenSpec.ofChange starsResidualsWrong)

/-- 'perigeelaw20.StarsKnown': WHATEVER THE INPUT: true; the input reads as it did. -/
def starsKnownSpec : ChangeSpec := { name := "starsKnown", fn := fun _ => fun
  | [] => { results := [.lit (.bool true)], args := [] }
  | _ => none }
def starsKnownRow : OpenClaim := { program := "ytkmelddejdikgaa", sum := "aa073a65dbec48439296b172d4343e55c86c2d30dca2cdf5473332808e08be68", func := "perigee/perigeelaw20.StarsKnown", spec := "starsKnown", inPlace := ["math/bits.Add64", "math/bits.Sub64"], unfollowed := true, recurses := true, named := ["math/bits.divideError", "math/bits.overflowError"], plainKeys := false, apart := false }
def StarsKnownSaid : Prop := starsKnownRow.holds Try.pinned (OpenSpec.ofChange starsKnownSpec)

/-- ITS FALSE NEIGHBOUR: 'it returns false'. Refute it at one input. -/
def starsKnownWrong : ChangeSpec := { name := "starsKnown", fn := fun _ => fun
  | [] => { results := [.lit (.bool false)], args := [] }
  | _ => none }
def StarsKnownWrongFalsely : Prop := starsKnownRow.holds Try.pinned (OpenSpec.ofChange starsKnownWrong)

/-- 'perigeelaw20.StarsExchanged': WHATEVER THE INPUT: true; the input reads as it did. -/
def starsExchangedSpec : ChangeSpec := { name := "starsExchanged", fn := fun _ => fun
  | [d1, d2] => { results := [.lit (.bool true)], args := [d1, d2] }
  | _ => none }
def starsExchangedRow : OpenClaim := { program := "ytkmelddejdikgaa", sum := "aa073a65dbec48439296b172d4343e55c86c2d30dca2cdf5473332808e08be68", func := "perigee/perigeelaw20.StarsExchanged", spec := "starsExchanged", inPlace := ["math/bits.Add64", "math/bits.Sub64"], unfollowed := true, recurses := true, named := ["math/bits.divideError", "math/bits.overflowError"], plainKeys := false, apart := false }
def StarsExchangedSaid : Prop := starsExchangedRow.holds Try.pinned (OpenSpec.ofChange starsExchangedSpec)

/-- ITS FALSE NEIGHBOUR: 'it returns false'. Refute it at one input. -/
def starsExchangedWrong : ChangeSpec := { name := "starsExchanged", fn := fun _ => fun
  | [d1, d2] => { results := [.lit (.bool false)], args := [d1, d2] }
  | _ => none }
def StarsExchangedWrongFalsely : Prop := starsExchangedRow.holds Try.pinned (OpenSpec.ofChange starsExchangedWrong)

/-- 'perigeelaw20.StarsExact': WHATEVER THE INPUT: true; the input reads as it did. -/
def starsExactSpec : ChangeSpec := { name := "starsExact", fn := fun _ => fun
  | [d1, d2] => { results := [.lit (.bool true)], args := [d1, d2] }
  | _ => none }
def starsExactRow : OpenClaim := { program := "ytkmelddejdikgaa", sum := "aa073a65dbec48439296b172d4343e55c86c2d30dca2cdf5473332808e08be68", func := "perigee/perigeelaw20.StarsExact", spec := "starsExact", inPlace := ["math/bits.Add64", "math/bits.Sub64"], unfollowed := true, recurses := true, named := ["math/bits.divideError", "math/bits.overflowError"], plainKeys := false, apart := false }
def StarsExactSaid : Prop := starsExactRow.holds Try.pinned (OpenSpec.ofChange starsExactSpec)

/-- ITS FALSE NEIGHBOUR: 'it returns false'. Refute it at one input. -/
def starsExactWrong : ChangeSpec := { name := "starsExact", fn := fun _ => fun
  | [d1, d2] => { results := [.lit (.bool false)], args := [d1, d2] }
  | _ => none }
def StarsExactWrongFalsely : Prop := starsExactRow.holds Try.pinned (OpenSpec.ofChange starsExactWrong)

/-- 'perigeetop.TopPasses': WHATEVER THE INPUT: true; the input reads as it did. -/
def topPassesSpec : ChangeSpec := { name := "topPasses", fn := fun _ => fun
  | [d1, d2, d3] => { results := [.lit (.bool true)], args := [d1, d2, d3] }
  | _ => none }
def topPassesRow : OpenClaim := { program := "ytkmelddejdikgaa", sum := "aa073a65dbec48439296b172d4343e55c86c2d30dca2cdf5473332808e08be68", func := "perigee/perigeetop.TopPasses", spec := "topPasses", inPlace := ["math/bits.Add64", "math/bits.Sub64"], unfollowed := true, recurses := true, named := ["math/bits.divideError", "math/bits.overflowError"], plainKeys := false, apart := false }
def TopPassesSaid : Prop := topPassesRow.holds Try.pinned (OpenSpec.ofChange topPassesSpec)

/-- ITS FALSE NEIGHBOUR: 'it returns false'. Refute it at one input. -/
def topPassesWrong : ChangeSpec := { name := "topPasses", fn := fun _ => fun
  | [d1, d2, d3] => { results := [.lit (.bool false)], args := [d1, d2, d3] }
  | _ => none }
def TopPassesWrongFalsely : Prop := topPassesRow.holds Try.pinned (OpenSpec.ofChange topPassesWrong)

/-- 'perigeelaw26.SteerSuns': WHATEVER THE INPUT: true; the input reads as it did. -/
def steerSunsSpec : ChangeSpec := { name := "steerSuns", fn := fun _ => fun
  | [d1, d2] => { results := [.lit (.bool true)], args := [d1, d2] }
  | _ => none }
def steerSunsRow : OpenClaim := { program := "ytkmelddejdikgaa", sum := "aa073a65dbec48439296b172d4343e55c86c2d30dca2cdf5473332808e08be68", func := "perigee/perigeelaw26.SteerSuns", spec := "steerSuns", inPlace := ["math/bits.Add64", "math/bits.Sub64"], unfollowed := true, recurses := true, named := ["math/bits.divideError", "math/bits.overflowError"], plainKeys := false, apart := false }
def SteerSunsSaid : Prop := steerSunsRow.holds Try.pinned (OpenSpec.ofChange steerSunsSpec)

/-- ITS FALSE NEIGHBOUR: 'it returns false'. Refute it at one input. -/
def steerSunsWrong : ChangeSpec := { name := "steerSuns", fn := fun _ => fun
  | [d1, d2] => { results := [.lit (.bool false)], args := [d1, d2] }
  | _ => none }
def SteerSunsWrongFalsely : Prop := steerSunsRow.holds Try.pinned (OpenSpec.ofChange steerSunsWrong)

/-- 'perigeelaw26.SteerPoints': WHATEVER THE INPUT: true; the input reads as it did. -/
def steerPointsSpec : ChangeSpec := { name := "steerPoints", fn := fun _ => fun
  | [d1, d2] => { results := [.lit (.bool true)], args := [d1, d2] }
  | _ => none }
def steerPointsRow : OpenClaim := { program := "ytkmelddejdikgaa", sum := "aa073a65dbec48439296b172d4343e55c86c2d30dca2cdf5473332808e08be68", func := "perigee/perigeelaw26.SteerPoints", spec := "steerPoints", inPlace := ["math/bits.Add64", "math/bits.Sub64"], unfollowed := true, recurses := true, named := ["math/bits.divideError", "math/bits.overflowError"], plainKeys := false, apart := false }
def SteerPointsSaid : Prop := steerPointsRow.holds Try.pinned (OpenSpec.ofChange steerPointsSpec)

/-- ITS FALSE NEIGHBOUR: 'it returns false'. Refute it at one input. -/
def steerPointsWrong : ChangeSpec := { name := "steerPoints", fn := fun _ => fun
  | [d1, d2] => { results := [.lit (.bool false)], args := [d1, d2] }
  | _ => none }
def SteerPointsWrongFalsely : Prop := steerPointsRow.holds Try.pinned (OpenSpec.ofChange steerPointsWrong)

/-- 'perigeelaw21.GyrosSettles': WHATEVER THE INPUT: true; the input reads as it did. -/
def gyrosSettlesSpec : ChangeSpec := { name := "gyrosSettles", fn := fun _ => fun
  | [d1, d2] => { results := [.lit (.bool true)], args := [d1, d2] }
  | _ => none }
def gyrosSettlesRow : OpenClaim := { program := "ytkmelddejdikgaa", sum := "aa073a65dbec48439296b172d4343e55c86c2d30dca2cdf5473332808e08be68", func := "perigee/perigeelaw21.GyrosSettles", spec := "gyrosSettles", inPlace := ["math/bits.Add64", "math/bits.Sub64"], unfollowed := true, recurses := true, named := ["math/bits.divideError", "math/bits.overflowError"], plainKeys := false, apart := false }
def GyrosSettlesSaid : Prop := gyrosSettlesRow.holds Try.pinned (OpenSpec.ofChange gyrosSettlesSpec)

/-- ITS FALSE NEIGHBOUR: 'it returns false'. Refute it at one input. -/
def gyrosSettlesWrong : ChangeSpec := { name := "gyrosSettles", fn := fun _ => fun
  | [d1, d2] => { results := [.lit (.bool false)], args := [d1, d2] }
  | _ => none }
def GyrosSettlesWrongFalsely : Prop := gyrosSettlesRow.holds Try.pinned (OpenSpec.ofChange gyrosSettlesWrong)

/- THE SECOND FORM. 'bulk': how many values and letters a reading holds, each counted each time it is reached (what is shared counts as often as it is met; a slice's spare places count too). A statement '..UptoSaid' is the law's where the arguments, and the package variables that the reading takes, are together of bulk at most 1048576: NARROWER than '..Said'. Prove '..Said' where nothing that the law and all that it calls make is longer than what came in: it says more and counts as full. Else prove '..UptoSaid'. A law counts once. -/
mutual
def uptoBulk {H : Type} : DataW H → Nat
  | .lit (.string bytes) => bytes.length + 1
  | .lit _ => 1
  | .nil => 1
  | .ptr d => uptoBulk d + 1
  | .slice elems spare => uptoBulkAll elems + uptoBulkAll spare + 1
  | .agg parts => uptoBulkAll parts + 1
  | .iface _ d => uptoBulk d + 1
  | .map entries => uptoBulkEntries entries + 1
  | .held _ => 1
def uptoBulkAll {H : Type} : List (DataW H) → Nat
  | [] => 0
  | d :: r => uptoBulk d + uptoBulkAll r
def uptoBulkEntries {H : Type} : List (Lit × DataW H) → Nat
  | [] => 0
  | x :: r => uptoBulkEntry x + uptoBulkEntries r
def uptoBulkEntry {H : Type} : Lit × DataW H → Nat
  | (.string bytes, d) => bytes.length + uptoBulk d + 1
  | (_, d) => uptoBulk d + 1
 end
def uptoSmall : (H : Type) → List (DataW H) → Bool := fun _ ds => decide (uptoBulkAll ds ≤ 1048576)
def OpenSpec.upto (s : _root_.Go.ChangeSpec) : _root_.Go.OpenSpec := { _root_.Go.OpenSpec.ofChange s with cond := some uptoSmall }

/-- 'perigeelaw20.StarsResiduals', WHERE WHAT IT READS IS OF BULK AT MOST 1048576: true; the input reads as it did. -/
def starsResidualsUptoRow : OpenClaim := { program := "ytkmelddejdikgaa", sum := "aa073a65dbec48439296b172d4343e55c86c2d30dca2cdf5473332808e08be68", func := "perigee/perigeelaw20.StarsResiduals", spec := "starsResiduals", inPlace := ["math/bits.Add64", "math/bits.Sub64"], unfollowed := true, recurses := true, named := ["math/bits.divideError", "math/bits.overflowError"], plainKeys := false, apart := false, narrowed := true }
def StarsResidualsUptoSaid : Prop := starsResidualsUptoRow.holds Try.pinned (OpenSpec.upto starsResidualsSpec)

/-- 'perigeelaw20.StarsKnown', WHERE WHAT IT READS IS OF BULK AT MOST 1048576: true; the input reads as it did. -/
def starsKnownUptoRow : OpenClaim := { program := "ytkmelddejdikgaa", sum := "aa073a65dbec48439296b172d4343e55c86c2d30dca2cdf5473332808e08be68", func := "perigee/perigeelaw20.StarsKnown", spec := "starsKnown", inPlace := ["math/bits.Add64", "math/bits.Sub64"], unfollowed := true, recurses := true, named := ["math/bits.divideError", "math/bits.overflowError"], plainKeys := false, apart := false, narrowed := true }
def StarsKnownUptoSaid : Prop := starsKnownUptoRow.holds Try.pinned (OpenSpec.upto starsKnownSpec)

/-- 'perigeelaw20.StarsExchanged', WHERE WHAT IT READS IS OF BULK AT MOST 1048576: true; the input reads as it did. -/
def starsExchangedUptoRow : OpenClaim := { program := "ytkmelddejdikgaa", sum := "aa073a65dbec48439296b172d4343e55c86c2d30dca2cdf5473332808e08be68", func := "perigee/perigeelaw20.StarsExchanged", spec := "starsExchanged", inPlace := ["math/bits.Add64", "math/bits.Sub64"], unfollowed := true, recurses := true, named := ["math/bits.divideError", "math/bits.overflowError"], plainKeys := false, apart := false, narrowed := true }
def StarsExchangedUptoSaid : Prop := starsExchangedUptoRow.holds Try.pinned (OpenSpec.upto starsExchangedSpec)

/-- 'perigeelaw20.StarsExact', WHERE WHAT IT READS IS OF BULK AT MOST 1048576: true; the input reads as it did. -/
def starsExactUptoRow : OpenClaim := { program := "ytkmelddejdikgaa", sum := "aa073a65dbec48439296b172d4343e55c86c2d30dca2cdf5473332808e08be68", func := "perigee/perigeelaw20.StarsExact", spec := "starsExact", inPlace := ["math/bits.Add64", "math/bits.Sub64"], unfollowed := true, recurses := true, named := ["math/bits.divideError", "math/bits.overflowError"], plainKeys := false, apart := false, narrowed := true }
def StarsExactUptoSaid : Prop := starsExactUptoRow.holds Try.pinned (OpenSpec.upto starsExactSpec)

/-- 'perigeetop.TopPasses', WHERE WHAT IT READS IS OF BULK AT MOST 1048576: true; the input reads as it did. -/
def topPassesUptoRow : OpenClaim := { program := "ytkmelddejdikgaa", sum := "aa073a65dbec48439296b172d4343e55c86c2d30dca2cdf5473332808e08be68", func := "perigee/perigeetop.TopPasses", spec := "topPasses", inPlace := ["math/bits.Add64", "math/bits.Sub64"], unfollowed := true, recurses := true, named := ["math/bits.divideError", "math/bits.overflowError"], plainKeys := false, apart := false, narrowed := true }
def TopPassesUptoSaid : Prop := topPassesUptoRow.holds Try.pinned (OpenSpec.upto topPassesSpec)

/-- 'perigeelaw26.SteerSuns', WHERE WHAT IT READS IS OF BULK AT MOST 1048576: true; the input reads as it did. -/
def steerSunsUptoRow : OpenClaim := { program := "ytkmelddejdikgaa", sum := "aa073a65dbec48439296b172d4343e55c86c2d30dca2cdf5473332808e08be68", func := "perigee/perigeelaw26.SteerSuns", spec := "steerSuns", inPlace := ["math/bits.Add64", "math/bits.Sub64"], unfollowed := true, recurses := true, named := ["math/bits.divideError", "math/bits.overflowError"], plainKeys := false, apart := false, narrowed := true }
def SteerSunsUptoSaid : Prop := steerSunsUptoRow.holds Try.pinned (OpenSpec.upto steerSunsSpec)

/-- 'perigeelaw26.SteerPoints', WHERE WHAT IT READS IS OF BULK AT MOST 1048576: true; the input reads as it did. -/
def steerPointsUptoRow : OpenClaim := { program := "ytkmelddejdikgaa", sum := "aa073a65dbec48439296b172d4343e55c86c2d30dca2cdf5473332808e08be68", func := "perigee/perigeelaw26.SteerPoints", spec := "steerPoints", inPlace := ["math/bits.Add64", "math/bits.Sub64"], unfollowed := true, recurses := true, named := ["math/bits.divideError", "math/bits.overflowError"], plainKeys := false, apart := false, narrowed := true }
def SteerPointsUptoSaid : Prop := steerPointsUptoRow.holds Try.pinned (OpenSpec.upto steerPointsSpec)

/-- 'perigeelaw21.GyrosSettles', WHERE WHAT IT READS IS OF BULK AT MOST 1048576: true; the input reads as it did. -/
def gyrosSettlesUptoRow : OpenClaim := { program := "ytkmelddejdikgaa", sum := "aa073a65dbec48439296b172d4343e55c86c2d30dca2cdf5473332808e08be68", func := "perigee/perigeelaw21.GyrosSettles", spec := "gyrosSettles", inPlace := ["math/bits.Add64", "math/bits.Sub64"], unfollowed := true, recurses := true, named := ["math/bits.divideError", "math/bits.overflowError"], plainKeys := false, apart := false, narrowed := true }
def GyrosSettlesUptoSaid : Prop := gyrosSettlesUptoRow.holds Try.pinned (OpenSpec.upto gyrosSettlesSpec)

end Rows
end Go.Proofs.Ytkmelddejdikgaa
