/-
  No cell of these rows narrows 'for every input' (looked for: loops, veiled, ifaces, maps, wideKeys, modest, calm, conditions, laid).
  DERIVED. THE GIVEN ROWS OF THIS SEAT. 12 by the template 'for every input the law returns true; each argument reads behind the call as it read before'; 0 by the template 'total and deterministic' (their statements: YtnkjbdfhdenbcaaTotals.lean).
  GIVEN WITH THE SEED: the statements are not yours to turn. If you find one false, say at which input.
  Laid BY PROGRAM, IN A SANDBOX (cutbox-rows.mjs): the forced cells as the released guide's own fill.sh prints them over the translation db0084e4af08e2ca… (all of the seat's roots in one cut). By AI agents, Wed Nov 11 2026. No macro, syntax, notation, axiom, sorry.
-/
import Derived.Test.YtnkjbdfhdenbcaaChecked
import GoSem.Claim
import GoSem.ClaimJoined
import GoSem.ClaimMapViews
import Derived.JoinedTies
import Derived.KernelRfl
namespace Go.Proofs.Ytnkjbdfhdenbcaa
/- THE CELL 'sum', in the pinned program and in every row, IS THE sha256 OF THE DUMP (.gsa) THAT YtnkjbdfhdenbcaaProg.lean LOADS. Nothing in Lean hashes anything: it is a label: what it is worth is what the hold of that sum in a sandbox is worth. -/
noncomputable def Try.pinned : Pinned := { name := "ytnkjbdfhdenbcaa", sum := "db0084e4af08e2ca108c5025d720c9e5589693aafe8d671a0a7c2de94b433b2c", checked := Try.checked }
namespace Rows
def none {H : Type} : Left H := { results := [], args := [] }

/-- 'perigeelaw25.OrbitSpans': WHATEVER THE INPUT: true; the input reads as it did. -/
def orbitSpansSpec : ChangeSpec := { name := "orbitSpans", fn := fun _ => fun
  | [d1, d2, d3] => { results := [.lit (.bool true)], args := [d1, d2, d3] }
  | _ => none }
def orbitSpansRow : OpenClaim := { program := "ytnkjbdfhdenbcaa", sum := "db0084e4af08e2ca108c5025d720c9e5589693aafe8d671a0a7c2de94b433b2c", func := "perigee/perigeelaw25.OrbitSpans", spec := "orbitSpans", inPlace := ["math/bits.Add64", "math/bits.Sub64"], unfollowed := true, recurses := true, named := ["math/bits.divideError", "math/bits.overflowError"], plainKeys := false, apart := false }
def OrbitSpansSaid : Prop := orbitSpansRow.holds Try.pinned (OpenSpec.ofChange orbitSpansSpec)

/-- ITS FALSE NEIGHBOUR: 'it returns false'. Refute it at one input. -/
def orbitSpansWrong : ChangeSpec := { name := "orbitSpans", fn := fun _ => fun
  | [d1, d2, d3] => { results := [.lit (.bool false)], args := [d1, d2, d3] }
  | _ => none }
def OrbitSpansWrongFalsely : Prop := orbitSpansRow.holds Try.pinned (OpenSpec.ofChange orbitSpansWrong)

/-- 'perigeelaw25.OrbitKnown': WHATEVER THE INPUT: true; the input reads as it did. -/
def orbitKnownSpec : ChangeSpec := { name := "orbitKnown", fn := fun _ => fun
  | [] => { results := [.lit (.bool true)], args := [] }
  | _ => none }
def orbitKnownRow : OpenClaim := { program := "ytnkjbdfhdenbcaa", sum := "db0084e4af08e2ca108c5025d720c9e5589693aafe8d671a0a7c2de94b433b2c", func := "perigee/perigeelaw25.OrbitKnown", spec := "orbitKnown", inPlace := ["math/bits.Add64", "math/bits.Sub64"], unfollowed := true, recurses := true, named := ["math/bits.divideError", "math/bits.overflowError"], plainKeys := false, apart := false }
def OrbitKnownSaid : Prop := orbitKnownRow.holds Try.pinned (OpenSpec.ofChange orbitKnownSpec)

/-- ITS FALSE NEIGHBOUR: 'it returns false'. Refute it at one input. -/
def orbitKnownWrong : ChangeSpec := { name := "orbitKnown", fn := fun _ => fun
  | [] => { results := [.lit (.bool false)], args := [] }
  | _ => none }
def OrbitKnownWrongFalsely : Prop := orbitKnownRow.holds Try.pinned (OpenSpec.ofChange orbitKnownWrong)

/-- 'perigeelaw21.GyrosFollows': WHATEVER THE INPUT: true; the input reads as it did. -/
def gyrosFollowsSpec : ChangeSpec := { name := "gyrosFollows", fn := fun _ => fun
  | [d1, d2] => { results := [.lit (.bool true)], args := [d1, d2] }
  | _ => none }
def gyrosFollowsRow : OpenClaim := { program := "ytnkjbdfhdenbcaa", sum := "db0084e4af08e2ca108c5025d720c9e5589693aafe8d671a0a7c2de94b433b2c", func := "perigee/perigeelaw21.GyrosFollows", spec := "gyrosFollows", inPlace := ["math/bits.Add64", "math/bits.Sub64"], unfollowed := true, recurses := true, named := ["math/bits.divideError", "math/bits.overflowError"], plainKeys := false, apart := false }
def GyrosFollowsSaid : Prop := gyrosFollowsRow.holds Try.pinned (OpenSpec.ofChange gyrosFollowsSpec)

/-- ITS FALSE NEIGHBOUR: 'it returns false'. Refute it at one input. -/
def gyrosFollowsWrong : ChangeSpec := { name := "gyrosFollows", fn := fun _ => fun
  | [d1, d2] => { results := [.lit (.bool false)], args := [d1, d2] }
  | _ => none }
def GyrosFollowsWrongFalsely : Prop := gyrosFollowsRow.holds Try.pinned (OpenSpec.ofChange gyrosFollowsWrong)

/-- 'perigeelaw21.GyrosReads': WHATEVER THE INPUT: true; the input reads as it did. -/
def gyrosReadsSpec : ChangeSpec := { name := "gyrosReads", fn := fun _ => fun
  | [d1, d2, d3] => { results := [.lit (.bool true)], args := [d1, d2, d3] }
  | _ => none }
def gyrosReadsRow : OpenClaim := { program := "ytnkjbdfhdenbcaa", sum := "db0084e4af08e2ca108c5025d720c9e5589693aafe8d671a0a7c2de94b433b2c", func := "perigee/perigeelaw21.GyrosReads", spec := "gyrosReads", inPlace := ["math/bits.Add64", "math/bits.Sub64"], unfollowed := true, recurses := true, named := ["math/bits.divideError", "math/bits.overflowError"], plainKeys := false, apart := false }
def GyrosReadsSaid : Prop := gyrosReadsRow.holds Try.pinned (OpenSpec.ofChange gyrosReadsSpec)

/-- ITS FALSE NEIGHBOUR: 'it returns false'. Refute it at one input. -/
def gyrosReadsWrong : ChangeSpec := { name := "gyrosReads", fn := fun _ => fun
  | [d1, d2, d3] => { results := [.lit (.bool false)], args := [d1, d2, d3] }
  | _ => none }
def GyrosReadsWrongFalsely : Prop := gyrosReadsRow.holds Try.pinned (OpenSpec.ofChange gyrosReadsWrong)

/-- 'perigeelaw21.GyrosFilters': WHATEVER THE INPUT: true; the input reads as it did. -/
def gyrosFiltersSpec : ChangeSpec := { name := "gyrosFilters", fn := fun _ => fun
  | [d1, d2] => { results := [.lit (.bool true)], args := [d1, d2] }
  | _ => none }
def gyrosFiltersRow : OpenClaim := { program := "ytnkjbdfhdenbcaa", sum := "db0084e4af08e2ca108c5025d720c9e5589693aafe8d671a0a7c2de94b433b2c", func := "perigee/perigeelaw21.GyrosFilters", spec := "gyrosFilters", inPlace := ["math/bits.Add64", "math/bits.Sub64"], unfollowed := true, recurses := true, named := ["math/bits.divideError", "math/bits.overflowError"], plainKeys := false, apart := false }
def GyrosFiltersSaid : Prop := gyrosFiltersRow.holds Try.pinned (OpenSpec.ofChange gyrosFiltersSpec)

/-- ITS FALSE NEIGHBOUR: 'it returns false'. Refute it at one input. -/
def gyrosFiltersWrong : ChangeSpec := { name := "gyrosFilters", fn := fun _ => fun
  | [d1, d2] => { results := [.lit (.bool false)], args := [d1, d2] }
  | _ => none }
def GyrosFiltersWrongFalsely : Prop := gyrosFiltersRow.holds Try.pinned (OpenSpec.ofChange gyrosFiltersWrong)

/-- 'perigeelaw21.GyrosValid': WHATEVER THE INPUT: true; the input reads as it did. -/
def gyrosValidSpec : ChangeSpec := { name := "gyrosValid", fn := fun _ => fun
  | [d1, d2] => { results := [.lit (.bool true)], args := [d1, d2] }
  | _ => none }
def gyrosValidRow : OpenClaim := { program := "ytnkjbdfhdenbcaa", sum := "db0084e4af08e2ca108c5025d720c9e5589693aafe8d671a0a7c2de94b433b2c", func := "perigee/perigeelaw21.GyrosValid", spec := "gyrosValid", inPlace := ["math/bits.Add64", "math/bits.Sub64"], unfollowed := true, recurses := true, named := ["math/bits.divideError", "math/bits.overflowError"], plainKeys := false, apart := false }
def GyrosValidSaid : Prop := gyrosValidRow.holds Try.pinned (OpenSpec.ofChange gyrosValidSpec)

/-- ITS FALSE NEIGHBOUR: 'it returns false'. Refute it at one input. -/
def gyrosValidWrong : ChangeSpec := { name := "gyrosValid", fn := fun _ => fun
  | [d1, d2] => { results := [.lit (.bool false)], args := [d1, d2] }
  | _ => none }
def GyrosValidWrongFalsely : Prop := gyrosValidRow.holds Try.pinned (OpenSpec.ofChange gyrosValidWrong)

/-- 'perigeelaw21.GyrosSettles': WHATEVER THE INPUT: true; the input reads as it did. -/
def gyrosSettlesSpec : ChangeSpec := { name := "gyrosSettles", fn := fun _ => fun
  | [d1, d2] => { results := [.lit (.bool true)], args := [d1, d2] }
  | _ => none }
def gyrosSettlesRow : OpenClaim := { program := "ytnkjbdfhdenbcaa", sum := "db0084e4af08e2ca108c5025d720c9e5589693aafe8d671a0a7c2de94b433b2c", func := "perigee/perigeelaw21.GyrosSettles", spec := "gyrosSettles", inPlace := ["math/bits.Add64", "math/bits.Sub64"], unfollowed := true, recurses := true, named := ["math/bits.divideError", "math/bits.overflowError"], plainKeys := false, apart := false }
def GyrosSettlesSaid : Prop := gyrosSettlesRow.holds Try.pinned (OpenSpec.ofChange gyrosSettlesSpec)

/-- ITS FALSE NEIGHBOUR: 'it returns false'. Refute it at one input. -/
def gyrosSettlesWrong : ChangeSpec := { name := "gyrosSettles", fn := fun _ => fun
  | [d1, d2] => { results := [.lit (.bool false)], args := [d1, d2] }
  | _ => none }
def GyrosSettlesWrongFalsely : Prop := gyrosSettlesRow.holds Try.pinned (OpenSpec.ofChange gyrosSettlesWrong)

/-- 'perigeelaw21.GyrosNone': WHATEVER THE INPUT: true; the input reads as it did. -/
def gyrosNoneSpec : ChangeSpec := { name := "gyrosNone", fn := fun _ => fun
  | [d1, d2] => { results := [.lit (.bool true)], args := [d1, d2] }
  | _ => none }
def gyrosNoneRow : OpenClaim := { program := "ytnkjbdfhdenbcaa", sum := "db0084e4af08e2ca108c5025d720c9e5589693aafe8d671a0a7c2de94b433b2c", func := "perigee/perigeelaw21.GyrosNone", spec := "gyrosNone", inPlace := ["math/bits.Add64", "math/bits.Sub64"], unfollowed := true, recurses := true, named := ["math/bits.divideError", "math/bits.overflowError"], plainKeys := false, apart := false }
def GyrosNoneSaid : Prop := gyrosNoneRow.holds Try.pinned (OpenSpec.ofChange gyrosNoneSpec)

/-- ITS FALSE NEIGHBOUR: 'it returns false'. Refute it at one input. -/
def gyrosNoneWrong : ChangeSpec := { name := "gyrosNone", fn := fun _ => fun
  | [d1, d2] => { results := [.lit (.bool false)], args := [d1, d2] }
  | _ => none }
def GyrosNoneWrongFalsely : Prop := gyrosNoneRow.holds Try.pinned (OpenSpec.ofChange gyrosNoneWrong)

/-- 'perigeelaw21.GyrosKnown': WHATEVER THE INPUT: true; the input reads as it did. -/
def gyrosKnownSpec : ChangeSpec := { name := "gyrosKnown", fn := fun _ => fun
  | [] => { results := [.lit (.bool true)], args := [] }
  | _ => none }
def gyrosKnownRow : OpenClaim := { program := "ytnkjbdfhdenbcaa", sum := "db0084e4af08e2ca108c5025d720c9e5589693aafe8d671a0a7c2de94b433b2c", func := "perigee/perigeelaw21.GyrosKnown", spec := "gyrosKnown", inPlace := ["math/bits.Add64", "math/bits.Sub64"], unfollowed := true, recurses := true, named := ["math/bits.divideError", "math/bits.overflowError"], plainKeys := false, apart := false }
def GyrosKnownSaid : Prop := gyrosKnownRow.holds Try.pinned (OpenSpec.ofChange gyrosKnownSpec)

/-- ITS FALSE NEIGHBOUR: 'it returns false'. Refute it at one input. -/
def gyrosKnownWrong : ChangeSpec := { name := "gyrosKnown", fn := fun _ => fun
  | [] => { results := [.lit (.bool false)], args := [] }
  | _ => none }
def GyrosKnownWrongFalsely : Prop := gyrosKnownRow.holds Try.pinned (OpenSpec.ofChange gyrosKnownWrong)

/-- 'perigeelaw20.StarsResiduals': WHATEVER THE INPUT: true; the input reads as it did. -/
def starsResidualsSpec : ChangeSpec := { name := "starsResiduals", fn := fun _ => fun
  | [d1, d2] => { results := [.lit (.bool true)], args := [d1, d2] }
  | _ => none }
def starsResidualsRow : OpenClaim := { program := "ytnkjbdfhdenbcaa", sum := "db0084e4af08e2ca108c5025d720c9e5589693aafe8d671a0a7c2de94b433b2c", func := "perigee/perigeelaw20.StarsResiduals", spec := "starsResiduals", inPlace := ["math/bits.Add64", "math/bits.Sub64"], unfollowed := true, recurses := true, named := ["math/bits.divideError", "math/bits.overflowError"], plainKeys := false, apart := false }
def StarsResidualsSaid : Prop := starsResidualsRow.holds Try.pinned (OpenSpec.ofChange starsResidualsSpec)

/-- ITS FALSE NEIGHBOUR: 'it returns false'. Refute it at one input. -/
def starsResidualsWrong : ChangeSpec := { name := "starsResiduals", fn := fun _ => fun
  | [d1, d2] => { results := [.lit (.bool false)], args := [d1, d2] }
  | _ => none }
def StarsResidualsWrongFalsely : Prop := starsResidualsRow.holds Try.pinned (OpenSpec.ofChange starsResidualsWrong)

/-- 'perigeelaw20.StarsKnown': WHATEVER THE INPUT: true; the input reads as it did. -/
def starsKnownSpec : ChangeSpec := { name := "starsKnown", fn := fun _ => fun
  | [] => { results := [.lit (.bool true)], args := [] }
  | _ => none }
def starsKnownRow : OpenClaim := { program := "ytnkjbdfhdenbcaa", sum := "db0084e4af08e2ca108c5025d720c9e5589693aafe8d671a0a7c2de94b433b2c", func := "perigee/perigeelaw20.StarsKnown", spec := "starsKnown", inPlace := ["math/bits.Add64", "math/bits.Sub64"], unfollowed := true, recurses := true, named := ["math/bits.divideError", "math/bits.overflowError"], plainKeys := false, apart := false }
def StarsKnownSaid : Prop := starsKnownRow.holds Try.pinned (OpenSpec.ofChange starsKnownSpec)

/-- ITS FALSE NEIGHBOUR: 'it returns false'. Refute it at one input. -/
def starsKnownWrong : ChangeSpec := { name := "starsKnown", fn := fun _ => fun
  | [] => { results := [.lit (.bool false)], args := [] }
  | _ => none }
def StarsKnownWrongFalsely : Prop := starsKnownRow.holds Try.pinned (OpenSpec.ofChange starsKnownWrong)

/-- 'perigeetop.TopPasses': WHATEVER THE INPUT: true; the input reads as it did. -/
def topPassesSpec : ChangeSpec := { name := "topPasses", fn := fun _ => fun
  | [d1, d2, d3] => { results := [.lit (.bool true)], args := [d1, d2, d3] }
  | _ => none }
def topPassesRow : OpenClaim := { program := "ytnkjbdfhdenbcaa", sum := "db0084e4af08e2ca108c5025d720c9e5589693aafe8d671a0a7c2de94b433b2c", func := "perigee/perigeetop.TopPasses", spec := "topPasses", inPlace := ["math/bits.Add64", "math/bits.Sub64"], unfollowed := true, recurses := true, named := ["math/bits.divideError", "math/bits.overflowError"], plainKeys := false, apart := false }
def TopPassesSaid : Prop := topPassesRow.holds Try.pinned (OpenSpec.ofChange topPassesSpec)

/-- ITS FALSE NEIGHBOUR: 'it returns false'. Refute it at one input. -/
def topPassesWrong : ChangeSpec := { name := "topPasses", fn := fun _ => fun
  | [d1, d2, d3] => { results := [.lit (.bool false)], args := [d1, d2, d3] }
  | _ => none }
def TopPassesWrongFalsely : Prop := topPassesRow.holds Try.pinned (OpenSpec.ofChange topPassesWrong)

/- THE SECOND FORM. 'bulk': how many values and letters a reading holds, each counted each time it is reached (what is shared counts as often as it is met; a slice's spare places count too). A statement '..UptoSaid' is the law's where the arguments, and the package variables that the reading takes, are together of bulk at most 1048576: NARROWER than '..Said'. Prove '..Said' where nothing that the law and all that it calls make is longer than what came in: it says more and counts as full. Else prove '..UptoSaid'. A law counts once. -/
mutual
def uptoBulk {H : Type} : DataW H → Nat
  | .lit (.string bytes) => bytes.length + 1
  | .lit _ => 1
  | .nil => 1
  | .ptr d => uptoBulk d + 1
  | .slice elems spare => uptoBulkAll elems + uptoBulkAll spare + 1
  | .agg parts => uptoBulkAll parts + 1
  | .iface _ d => uptoBulk d + 1
  | .map entries => uptoBulkEntries entries + 1
  | .held _ => 1
def uptoBulkAll {H : Type} : List (DataW H) → Nat
  | [] => 0
  | d :: r => uptoBulk d + uptoBulkAll r
def uptoBulkEntries {H : Type} : List (Lit × DataW H) → Nat
  | [] => 0
  | x :: r => uptoBulkEntry x + uptoBulkEntries r
def uptoBulkEntry {H : Type} : Lit × DataW H → Nat
  | (.string bytes, d) => bytes.length + uptoBulk d + 1
  | (_, d) => uptoBulk d + 1
 end
def uptoSmall : (H : Type) → List (DataW H) → Bool := fun _ ds => decide (uptoBulkAll ds ≤ 1048576)
def OpenSpec.upto (s : _root_.Go.ChangeSpec) : _root_.Go.OpenSpec := { _root_.Go.OpenSpec.ofChange s with cond := some uptoSmall }

/-- 'perigeelaw25.OrbitSpans', WHERE WHAT IT READS IS OF BULK AT MOST 1048576: true; the input reads as it did. -/
def orbitSpansUptoRow : OpenClaim := { program := "ytnkjbdfhdenbcaa", sum := "db0084e4af08e2ca108c5025d720c9e5589693aafe8d671a0a7c2de94b433b2c", func := "perigee/perigeelaw25.OrbitSpans", spec := "orbitSpans", inPlace := ["math/bits.Add64", "math/bits.Sub64"], unfollowed := true, recurses := true, named := ["math/bits.divideError", "math/bits.overflowError"], plainKeys := false, apart := false, narrowed := true }
def OrbitSpansUptoSaid : Prop := orbitSpansUptoRow.holds Try.pinned (OpenSpec.upto orbitSpansSpec)

/-- 'perigeelaw25.OrbitKnown', WHERE WHAT IT READS IS OF BULK AT MOST 1048576: true; the input reads as it did. -/
def orbitKnownUptoRow : OpenClaim := { program := "ytnkjbdfhdenbcaa", sum := "db0084e4af08e2ca108c5025d720c9e5589693aafe8d671a0a7c2de94b433b2c", func := "perigee/perigeelaw25.OrbitKnown", spec := "orbitKnown", inPlace := ["math/bits.Add64", "math/bits.Sub64"], unfollowed := true, recurses := true, named := ["math/bits.divideError", "math/bits.overflowError"], plainKeys := false, apart := false, narrowed := true }
def OrbitKnownUptoSaid : Prop := orbitKnownUptoRow.holds Try.pinned (OpenSpec.upto orbitKnownSpec)

/-- 'perigeelaw21.GyrosFollows', WHERE WHAT IT READS IS OF BULK AT MOST 1048576: true; the input reads as it did. -/
def gyrosFollowsUptoRow : OpenClaim := { program := "ytnkjbdfhdenbcaa", sum := "db0084e4af08e2ca108c5025d720c9e5589693aafe8d671a0a7c2de94b433b2c", func := "perigee/perigeelaw21.GyrosFollows", spec := "gyrosFollows", inPlace := ["math/bits.Add64", "math/bits.Sub64"], unfollowed := true, recurses := true, named := ["math/bits.divideError", "math/bits.overflowError"], plainKeys := false, apart := false, narrowed := true }
def GyrosFollowsUptoSaid : Prop := gyrosFollowsUptoRow.holds Try.pinned (OpenSpec.upto gyrosFollowsSpec)

/-- 'perigeelaw21.GyrosReads', WHERE WHAT IT READS IS OF BULK AT MOST 1048576: true; the input reads as it did. -/
def gyrosReadsUptoRow : OpenClaim := { program := "ytnkjbdfhdenbcaa", sum := "db0084e4af08e2ca108c5025d720c9e5589693aafe8d671a0a7c2de94b433b2c", func := "perigee/perigeelaw21.GyrosReads", spec := "gyrosReads", inPlace := ["math/bits.Add64", "math/bits.Sub64"], unfollowed := true, recurses := true, named := ["math/bits.divideError", "math/bits.overflowError"], plainKeys := false, apart := false, narrowed := true }
def GyrosReadsUptoSaid : Prop := gyrosReadsUptoRow.holds Try.pinned (OpenSpec.upto gyrosReadsSpec)

/-- 'perigeelaw21.GyrosFilters', WHERE WHAT IT READS IS OF BULK AT MOST 1048576: true; the input reads as it did. -/
def gyrosFiltersUptoRow : OpenClaim := { program := "ytnkjbdfhdenbcaa", sum := "db0084e4af08e2ca108c5025d720c9e5589693aafe8d671a0a7c2de94b433b2c", func := "perigee/perigeelaw21.GyrosFilters", spec := "gyrosFilters", inPlace := ["math/bits.Add64", "math/bits.Sub64"], unfollowed := true, recurses := true, named := ["math/bits.divideError", "math/bits.overflowError"], plainKeys := false, apart := false, narrowed := true }
def GyrosFiltersUptoSaid : Prop := gyrosFiltersUptoRow.holds Try.pinned (OpenSpec.upto gyrosFiltersSpec)

/-- 'perigeelaw21.GyrosValid', WHERE WHAT IT READS IS OF BULK AT MOST 1048576: true; the input reads as it did. -/
def gyrosValidUptoRow : OpenClaim := { program := "ytnkjbdfhdenbcaa", sum := "db0084e4af08e2ca108c5025d720c9e5589693aafe8d671a0a7c2de94b433b2c", func := "perigee/perigeelaw21.GyrosValid", spec := "gyrosValid", inPlace := ["math/bits.Add64", "math/bits.Sub64"], unfollowed := true, recurses := true, named := ["math/bits.divideError", "math/bits.overflowError"], plainKeys := false, apart := false, narrowed := true }
def GyrosValidUptoSaid : Prop := gyrosValidUptoRow.holds Try.pinned (OpenSpec.upto gyrosValidSpec)

/-- 'perigeelaw21.GyrosSettles', WHERE WHAT IT READS IS OF BULK AT MOST 1048576: true; the input reads as it did. -/
def gyrosSettlesUptoRow : OpenClaim := { program := "ytnkjbdfhdenbcaa", sum := "db0084e4af08e2ca108c5025d720c9e5589693aafe8d671a0a7c2de94b433b2c", func := "perigee/perigeelaw21.GyrosSettles", spec := "gyrosSettles", inPlace := ["math/bits.Add64", "math/bits.Sub64"], unfollowed := true, recurses := true, named := ["math/bits.divideError", "math/bits.overflowError"], plainKeys := false, apart := false, narrowed := true }
def GyrosSettlesUptoSaid : Prop := gyrosSettlesUptoRow.holds Try.pinned (OpenSpec.upto gyrosSettlesSpec)

/-- 'perigeelaw21.GyrosNone', WHERE WHAT IT READS IS OF BULK AT MOST 1048576: true; the input reads as it did. -/
def gyrosNoneUptoRow : OpenClaim := { program := "ytnkjbdfhdenbcaa", sum := "db0084e4af08e2ca108c5025d720c9e5589693aafe8d671a0a7c2de94b433b2c", func := "perigee/perigeelaw21.GyrosNone", spec := "gyrosNone", inPlace := ["math/bits.Add64", "math/bits.Sub64"], unfollowed := true, recurses := true, named := ["math/bits.divideError", "math/bits.overflowError"], plainKeys := false, apart := false, narrowed := true }
def GyrosNoneUptoSaid : Prop := gyrosNoneUptoRow.holds Try.pinned (OpenSpec.upto gyrosNoneSpec)

/-- 'perigeelaw21.GyrosKnown', WHERE WHAT IT READS IS OF BULK AT MOST 1048576: true; the input reads as it did. -/
def gyrosKnownUptoRow : OpenClaim := { program := "ytnkjbdfhdenbcaa", sum := "db0084e4af08e2ca108c5025d720c9e5589693aafe8d671a0a7c2de94b433b2c", func := "perigee/perigeelaw21.GyrosKnown", spec := "gyrosKnown", inPlace := ["math/bits.Add64", "math/bits.Sub64"], unfollowed := true, recurses := true, named := ["math/bits.divideError", "math/bits.overflowError"], plainKeys := false, apart := false, narrowed := true }
def GyrosKnownUptoSaid : Prop := gyrosKnownUptoRow.holds Try.pinned (OpenSpec.upto gyrosKnownSpec)

/-- 'perigeelaw20.StarsResiduals', WHERE WHAT IT READS IS OF BULK AT MOST 1048576: true; the input reads as it did. -/
def starsResidualsUptoRow : OpenClaim := { program := "ytnkjbdfhdenbcaa", sum := "db0084e4af08e2ca108c5025d720c9e5589693aafe8d671a0a7c2de94b433b2c", func := "perigee/perigeelaw20.StarsResiduals", spec := "starsResiduals", inPlace := ["math/bits.Add64", "math/bits.Sub64"], unfollowed := true, recurses := true, named := ["math/bits.divideError", "math/bits.overflowError"], plainKeys := false, apart := false, narrowed := true }
def StarsResidualsUptoSaid : Prop := starsResidualsUptoRow.holds Try.pinned (OpenSpec.upto starsResidualsSpec)

/-- 'perigeelaw20.StarsKnown', WHERE WHAT IT READS IS OF BULK AT MOST 1048576: true; the input reads as it did. -/
def starsKnownUptoRow : OpenClaim := { program := "ytnkjbdfhdenbcaa", sum := "db0084e4af08e2ca108c5025d720c9e5589693aafe8d671a0a7c2de94b433b2c", func := "perigee/perigeelaw20.StarsKnown", spec := "starsKnown", inPlace := ["math/bits.Add64", "math/bits.Sub64"], unfollowed := true, recurses := true, named := ["math/bits.divideError", "math/bits.overflowError"], plainKeys := false, apart := false, narrowed := true }
def StarsKnownUptoSaid : Prop := starsKnownUptoRow.holds Try.pinned (OpenSpec.upto starsKnownSpec)

/-- 'perigeetop.TopPasses', WHERE WHAT IT READS IS OF BULK AT MOST 1048576: true; the input reads as it did. -/
def topPassesUptoRow : OpenClaim := { program := "ytnkjbdfhdenbcaa", sum := "db0084e4af08e2ca108c5025d720c9e5589693aafe8d671a0a7c2de94b433b2c", func := "perigee/perigeetop.TopPasses", spec := "topPasses", inPlace := ["math/bits.Add64", "math/bits.Sub64"], unfollowed := true, recurses := true, named := ["math/bits.divideError", "math/bits.overflowError"], plainKeys := false, apart := false, narrowed := true }
def TopPassesUptoSaid : Prop := topPassesUptoRow.holds Try.pinned (OpenSpec.upto topPassesSpec)

end Rows
end Go.Proofs.Ytnkjbdfhdenbcaa
