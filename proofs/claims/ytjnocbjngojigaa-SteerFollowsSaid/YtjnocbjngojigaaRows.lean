/-
  No cell of these rows narrows 'for every input' (looked for: loops, veiled, ifaces, maps, wideKeys, modest, calm, conditions, laid).
  DERIVED. THE GIVEN ROWS OF THIS SEAT. 12 by the template 'for every input the law returns true; each argument reads behind the call as it read before'; 0 by the template 'total and deterministic' (their statements: YtjnocbjngojigaaTotals.lean).
  GIVEN WITH THE SEED: the statements are not yours to turn. If you find one false, say at which input.
  Laid BY PROGRAM, IN A SANDBOX (cutbox-rows.mjs): the forced cells as the released guide's own fill.sh prints them over the translation 2766467bf2944e07… (all of the seat's roots in one cut). By AI agents, Wed Nov 11 2026. No macro, syntax, notation, axiom, sorry.
-/
import Derived.Test.YtjnocbjngojigaaChecked
import GoSem.Claim
import GoSem.ClaimJoined
import GoSem.ClaimMapViews
import Derived.JoinedTies
import Derived.KernelRfl
namespace Go.Proofs.Ytjnocbjngojigaa
/- THE CELL 'sum', in the pinned program and in every row, IS THE sha256 OF THE DUMP (.gsa) THAT YtjnocbjngojigaaProg.lean LOADS. Nothing in Lean hashes anything: it is a label: what it is worth is what the hold of that sum in a sandbox is worth. -/
noncomputable def Try.pinned : Pinned := { name := "ytjnocbjngojigaa", sum := "2766467bf2944e07cf8abd1e95a7d32db8243a09b34520983b3d5feb3616fde3", checked := Try.checked }
namespace Rows
def none {H : Type} : Left H := { results := [], args := [] }

/-- 'perigeelaw24.BodySees': WHATEVER THE INPUT: true; the input reads as it did. -/
def bodySeesSpec : ChangeSpec := { name := "bodySees", fn := fun _ => fun
  | [d1, d2] => { results := [.lit (.bool true)], args := [d1, d2] }
  | _ => none }
def bodySeesRow : OpenClaim := { program := "ytjnocbjngojigaa", sum := "2766467bf2944e07cf8abd1e95a7d32db8243a09b34520983b3d5feb3616fde3", func := "perigee/perigeelaw24.BodySees", spec := "bodySees", inPlace := ["math/bits.Add64", "math/bits.Sub64"], unfollowed := true, recurses := true, named := ["math/bits.divideError", "math/bits.overflowError"], apart := false }
def BodySeesSaid : Prop := bodySeesRow.holds Try.pinned (OpenSpec.ofChange bodySeesSpec)

/-- ITS FALSE NEIGHBOUR: 'it returns false'. Refute it at one input. -/
def bodySeesWrong : ChangeSpec := { name := "bodySees", fn := fun _ => fun
  | [d1, d2] => { results := [.lit (.bool false)], args := [d1, d2] }
  | _ => none }
def BodySeesWrongFalsely : Prop := bodySeesRow.holds Try.pinned (OpenSpec.ofChange bodySeesWrong)

/-- 'perigeelaw26.SteerLimits': WHATEVER THE INPUT: true; the input reads as it did. -/
def steerLimitsSpec : ChangeSpec := { name := "steerLimits", fn := fun _ => fun
  | [d] => { results := [.lit (.bool true)], args := [d] }
  | _ => none }
def steerLimitsRow : OpenClaim := { program := "ytjnocbjngojigaa", sum := "2766467bf2944e07cf8abd1e95a7d32db8243a09b34520983b3d5feb3616fde3", func := "perigee/perigeelaw26.SteerLimits", spec := "steerLimits", inPlace := ["math/bits.Add64", "math/bits.Sub64"], unfollowed := true, recurses := true, named := ["math/bits.divideError", "math/bits.overflowError"], apart := false }
def SteerLimitsSaid : Prop := steerLimitsRow.holds Try.pinned (OpenSpec.ofChange steerLimitsSpec)

/-- ITS FALSE NEIGHBOUR: 'it returns false'. Refute it at one input. -/
def steerLimitsWrong : ChangeSpec := { name := "steerLimits", fn := fun _ => fun
  | [d] => { results := [.lit (.bool false)], args := [d] }
  | _ => none }
def SteerLimitsWrongFalsely : Prop := steerLimitsRow.holds Try.pinned (OpenSpec.ofChange steerLimitsWrong)

/-- 'perigeelaw26.SteerKnown': WHATEVER THE INPUT: true; the input reads as it did. -/
def steerKnownSpec : ChangeSpec := { name := "steerKnown", fn := fun _ => fun
  | [] => { results := [.lit (.bool true)], args := [] }
  | _ => none }
def steerKnownRow : OpenClaim := { program := "ytjnocbjngojigaa", sum := "2766467bf2944e07cf8abd1e95a7d32db8243a09b34520983b3d5feb3616fde3", func := "perigee/perigeelaw26.SteerKnown", spec := "steerKnown", inPlace := ["math/bits.Add64", "math/bits.Sub64"], unfollowed := true, recurses := true, named := ["math/bits.divideError", "math/bits.overflowError"], apart := false }
def SteerKnownSaid : Prop := steerKnownRow.holds Try.pinned (OpenSpec.ofChange steerKnownSpec)

/-- ITS FALSE NEIGHBOUR: 'it returns false'. Refute it at one input. -/
def steerKnownWrong : ChangeSpec := { name := "steerKnown", fn := fun _ => fun
  | [] => { results := [.lit (.bool false)], args := [] }
  | _ => none }
def SteerKnownWrongFalsely : Prop := steerKnownRow.holds Try.pinned (OpenSpec.ofChange steerKnownWrong)

/-- 'perigeelaw26.SteerNone': WHATEVER THE INPUT: true; the input reads as it did. -/
def steerNoneSpec : ChangeSpec := { name := "steerNone", fn := fun _ => fun
  | [d] => { results := [.lit (.bool true)], args := [d] }
  | _ => none }
def steerNoneRow : OpenClaim := { program := "ytjnocbjngojigaa", sum := "2766467bf2944e07cf8abd1e95a7d32db8243a09b34520983b3d5feb3616fde3", func := "perigee/perigeelaw26.SteerNone", spec := "steerNone", inPlace := ["math/bits.Add64", "math/bits.Sub64"], unfollowed := true, recurses := true, named := ["math/bits.divideError", "math/bits.overflowError"], apart := false }
def SteerNoneSaid : Prop := steerNoneRow.holds Try.pinned (OpenSpec.ofChange steerNoneSpec)

/-- ITS FALSE NEIGHBOUR: 'it returns false'. Refute it at one input. -/
def steerNoneWrong : ChangeSpec := { name := "steerNone", fn := fun _ => fun
  | [d] => { results := [.lit (.bool false)], args := [d] }
  | _ => none }
def SteerNoneWrongFalsely : Prop := steerNoneRow.holds Try.pinned (OpenSpec.ofChange steerNoneWrong)

/-- 'perigeelaw24.BodyBounds': WHATEVER THE INPUT: true; the input reads as it did. -/
def bodyBoundsSpec : ChangeSpec := { name := "bodyBounds", fn := fun _ => fun
  | [d1, d2] => { results := [.lit (.bool true)], args := [d1, d2] }
  | _ => none }
def bodyBoundsRow : OpenClaim := { program := "ytjnocbjngojigaa", sum := "2766467bf2944e07cf8abd1e95a7d32db8243a09b34520983b3d5feb3616fde3", func := "perigee/perigeelaw24.BodyBounds", spec := "bodyBounds", inPlace := ["math/bits.Add64", "math/bits.Sub64"], unfollowed := true, recurses := true, named := ["math/bits.divideError", "math/bits.overflowError"], apart := false }
def BodyBoundsSaid : Prop := bodyBoundsRow.holds Try.pinned (OpenSpec.ofChange bodyBoundsSpec)

/-- ITS FALSE NEIGHBOUR: 'it returns false'. Refute it at one input. -/
def bodyBoundsWrong : ChangeSpec := { name := "bodyBounds", fn := fun _ => fun
  | [d1, d2] => { results := [.lit (.bool false)], args := [d1, d2] }
  | _ => none }
def BodyBoundsWrongFalsely : Prop := bodyBoundsRow.holds Try.pinned (OpenSpec.ofChange bodyBoundsWrong)

/-- 'perigeelaw24.BodyKnown': WHATEVER THE INPUT: true; the input reads as it did. -/
def bodyKnownSpec : ChangeSpec := { name := "bodyKnown", fn := fun _ => fun
  | [] => { results := [.lit (.bool true)], args := [] }
  | _ => none }
def bodyKnownRow : OpenClaim := { program := "ytjnocbjngojigaa", sum := "2766467bf2944e07cf8abd1e95a7d32db8243a09b34520983b3d5feb3616fde3", func := "perigee/perigeelaw24.BodyKnown", spec := "bodyKnown", inPlace := ["math/bits.Add64", "math/bits.Sub64"], unfollowed := true, recurses := true, named := ["math/bits.divideError", "math/bits.overflowError"], apart := false }
def BodyKnownSaid : Prop := bodyKnownRow.holds Try.pinned (OpenSpec.ofChange bodyKnownSpec)

/-- ITS FALSE NEIGHBOUR: 'it returns false'. Refute it at one input. -/
def bodyKnownWrong : ChangeSpec := { name := "bodyKnown", fn := fun _ => fun
  | [] => { results := [.lit (.bool false)], args := [] }
  | _ => none }
def BodyKnownWrongFalsely : Prop := bodyKnownRow.holds Try.pinned (OpenSpec.ofChange bodyKnownWrong)

/-- 'perigeelaw24.BodyNone': WHATEVER THE INPUT: true; the input reads as it did. -/
def bodyNoneSpec : ChangeSpec := { name := "bodyNone", fn := fun _ => fun
  | [d1, d2] => { results := [.lit (.bool true)], args := [d1, d2] }
  | _ => none }
def bodyNoneRow : OpenClaim := { program := "ytjnocbjngojigaa", sum := "2766467bf2944e07cf8abd1e95a7d32db8243a09b34520983b3d5feb3616fde3", func := "perigee/perigeelaw24.BodyNone", spec := "bodyNone", inPlace := ["math/bits.Add64", "math/bits.Sub64"], unfollowed := true, recurses := true, named := ["math/bits.divideError", "math/bits.overflowError"], apart := false }
def BodyNoneSaid : Prop := bodyNoneRow.holds Try.pinned (OpenSpec.ofChange bodyNoneSpec)

/-- ITS FALSE NEIGHBOUR: 'it returns false'. Refute it at one input. -/
def bodyNoneWrong : ChangeSpec := { name := "bodyNone", fn := fun _ => fun
  | [d1, d2] => { results := [.lit (.bool false)], args := [d1, d2] }
  | _ => none }
def BodyNoneWrongFalsely : Prop := bodyNoneRow.holds Try.pinned (OpenSpec.ofChange bodyNoneWrong)

/-- 'perigeelaw24.BodyBalances': WHATEVER THE INPUT: true; the input reads as it did. -/
def bodyBalancesSpec : ChangeSpec := { name := "bodyBalances", fn := fun _ => fun
  | [d1, d2] => { results := [.lit (.bool true)], args := [d1, d2] }
  | _ => none }
def bodyBalancesRow : OpenClaim := { program := "ytjnocbjngojigaa", sum := "2766467bf2944e07cf8abd1e95a7d32db8243a09b34520983b3d5feb3616fde3", func := "perigee/perigeelaw24.BodyBalances", spec := "bodyBalances", inPlace := ["math/bits.Add64", "math/bits.Sub64"], unfollowed := true, recurses := true, named := ["math/bits.divideError", "math/bits.overflowError"], apart := false }
def BodyBalancesSaid : Prop := bodyBalancesRow.holds Try.pinned (OpenSpec.ofChange bodyBalancesSpec)

/-- ITS FALSE NEIGHBOUR: 'it returns false'. Refute it at one input. -/
def bodyBalancesWrong : ChangeSpec := { name := "bodyBalances", fn := fun _ => fun
  | [d1, d2] => { results := [.lit (.bool false)], args := [d1, d2] }
  | _ => none }
def BodyBalancesWrongFalsely : Prop := bodyBalancesRow.holds Try.pinned (OpenSpec.ofChange bodyBalancesWrong)

/-- 'perigeelaw24.BodyRests': WHATEVER THE INPUT: true; the input reads as it did. -/
def bodyRestsSpec : ChangeSpec := { name := "bodyRests", fn := fun _ => fun
  | [d] => { results := [.lit (.bool true)], args := [d] }
  | _ => none }
def bodyRestsRow : OpenClaim := { program := "ytjnocbjngojigaa", sum := "2766467bf2944e07cf8abd1e95a7d32db8243a09b34520983b3d5feb3616fde3", func := "perigee/perigeelaw24.BodyRests", spec := "bodyRests", inPlace := ["math/bits.Add64", "math/bits.Sub64"], unfollowed := true, recurses := true, named := ["math/bits.divideError", "math/bits.overflowError"], apart := false }
def BodyRestsSaid : Prop := bodyRestsRow.holds Try.pinned (OpenSpec.ofChange bodyRestsSpec)

/-- ITS FALSE NEIGHBOUR: 'it returns false'. Refute it at one input. -/
def bodyRestsWrong : ChangeSpec := { name := "bodyRests", fn := fun _ => fun
  | [d] => { results := [.lit (.bool false)], args := [d] }
  | _ => none }
def BodyRestsWrongFalsely : Prop := bodyRestsRow.holds Try.pinned (OpenSpec.ofChange bodyRestsWrong)

/-- 'perigeelaw24.BodyTurns': WHATEVER THE INPUT: true; the input reads as it did. -/
def bodyTurnsSpec : ChangeSpec := { name := "bodyTurns", fn := fun _ => fun
  | [d1, d2] => { results := [.lit (.bool true)], args := [d1, d2] }
  | _ => none }
def bodyTurnsRow : OpenClaim := { program := "ytjnocbjngojigaa", sum := "2766467bf2944e07cf8abd1e95a7d32db8243a09b34520983b3d5feb3616fde3", func := "perigee/perigeelaw24.BodyTurns", spec := "bodyTurns", inPlace := ["math/bits.Add64", "math/bits.Sub64"], unfollowed := true, recurses := true, named := ["math/bits.divideError", "math/bits.overflowError"], apart := false }
def BodyTurnsSaid : Prop := bodyTurnsRow.holds Try.pinned (OpenSpec.ofChange bodyTurnsSpec)

/-- ITS FALSE NEIGHBOUR: 'it returns false'. Refute it at one input. -/
def bodyTurnsWrong : ChangeSpec := { name := "bodyTurns", fn := fun _ => fun
  | [d1, d2] => { results := [.lit (.bool false)], args := [d1, d2] }
  | _ => none }
def BodyTurnsWrongFalsely : Prop := bodyTurnsRow.holds Try.pinned (OpenSpec.ofChange bodyTurnsWrong)

/-- 'perigeelaw26.SteerRests': WHATEVER THE INPUT: true; the input reads as it did. -/
def steerRestsSpec : ChangeSpec := { name := "steerRests", fn := fun _ => fun
  | [d] => { results := [.lit (.bool true)], args := [d] }
  | _ => none }
def steerRestsRow : OpenClaim := { program := "ytjnocbjngojigaa", sum := "2766467bf2944e07cf8abd1e95a7d32db8243a09b34520983b3d5feb3616fde3", func := "perigee/perigeelaw26.SteerRests", spec := "steerRests", inPlace := ["math/bits.Add64", "math/bits.Sub64"], unfollowed := true, recurses := true, named := ["math/bits.divideError", "math/bits.overflowError"], apart := false }
def SteerRestsSaid : Prop := steerRestsRow.holds Try.pinned (OpenSpec.ofChange steerRestsSpec)

/-- ITS FALSE NEIGHBOUR: 'it returns false'. Refute it at one input. -/
def steerRestsWrong : ChangeSpec := { name := "steerRests", fn := fun _ => fun
  | [d] => { results := [.lit (.bool false)], args := [d] }
  | _ => none }
def SteerRestsWrongFalsely : Prop := steerRestsRow.holds Try.pinned (OpenSpec.ofChange steerRestsWrong)

/-- 'perigeelaw26.SteerFollows': WHATEVER THE INPUT: true; the input reads as it did. -/
def steerFollowsSpec : ChangeSpec := { name := "steerFollows", fn := fun _ => fun
  | [d1, d2, d3] => { results := [.lit (.bool true)], args := [d1, d2, d3] }
  | _ => none }
def steerFollowsRow : OpenClaim := { program := "ytjnocbjngojigaa", sum := "2766467bf2944e07cf8abd1e95a7d32db8243a09b34520983b3d5feb3616fde3", func := "perigee/perigeelaw26.SteerFollows", spec := "steerFollows", inPlace := ["math/bits.Add64", "math/bits.Sub64"], unfollowed := true, recurses := true, named := ["math/bits.divideError", "math/bits.overflowError"], apart := false }
def SteerFollowsSaid : Prop := steerFollowsRow.holds Try.pinned (OpenSpec.ofChange steerFollowsSpec)

/-- ITS FALSE NEIGHBOUR: 'it returns false'. Refute it at one input. -/
def steerFollowsWrong : ChangeSpec := { name := "steerFollows", fn := fun _ => fun
  | [d1, d2, d3] => { results := [.lit (.bool false)], args := [d1, d2, d3] }
  | _ => none }
def SteerFollowsWrongFalsely : Prop := steerFollowsRow.holds Try.pinned (OpenSpec.ofChange steerFollowsWrong)

/- THE SECOND FORM. 'bulk': how many values and letters a reading holds, each counted each time it is reached (what is shared counts as often as it is met; a slice's spare places count too). A statement '..UptoSaid' is the law's where the arguments, and the package variables that the reading takes, are together of bulk at most 1048576: NARROWER than '..Said'. Prove '..Said' where nothing that the law and all that it calls make is longer than what came in: it says more and counts as full. Else prove '..UptoSaid'. A law counts once. -/
mutual
def uptoBulk {H : Type} : DataW H → Nat
  | .lit (.string bytes) => bytes.length + 1
  | .lit _ => 1
  | .nil => 1
  | .ptr d => uptoBulk d + 1
  | .slice elems spare => uptoBulkAll elems + uptoBulkAll spare + 1
  | .agg parts => uptoBulkAll parts + 1
  | .iface _ d => uptoBulk d + 1
  | .map entries => uptoBulkEntries entries + 1
  | .held _ => 1
def uptoBulkAll {H : Type} : List (DataW H) → Nat
  | [] => 0
  | d :: r => uptoBulk d + uptoBulkAll r
def uptoBulkEntries {H : Type} : List (Lit × DataW H) → Nat
  | [] => 0
  | x :: r => uptoBulkEntry x + uptoBulkEntries r
def uptoBulkEntry {H : Type} : Lit × DataW H → Nat
  | (.string bytes, d) => bytes.length + uptoBulk d + 1
  | (_, d) => uptoBulk d + 1
 end
def uptoSmall : (H : Type) → List (DataW H) → Bool := fun _ ds => decide (uptoBulkAll ds ≤ 1048576)
def OpenSpec.upto (s : _root_.Go.ChangeSpec) : _root_.Go.OpenSpec := { _root_.Go.OpenSpec.ofChange s with cond := some uptoSmall }

/-- 'perigeelaw24.BodySees', WHERE WHAT IT READS IS OF BULK AT MOST 1048576: true; the input reads as it did. -/
def bodySeesUptoRow : OpenClaim := { program := "ytjnocbjngojigaa", sum := "2766467bf2944e07cf8abd1e95a7d32db8243a09b34520983b3d5feb3616fde3", func := "perigee/perigeelaw24.BodySees", spec := "bodySees", inPlace := ["math/bits.Add64", "math/bits.Sub64"], unfollowed := true, recurses := true, named := ["math/bits.divideError", "math/bits.overflowError"], apart := false, narrowed := true }
def BodySeesUptoSaid : Prop := bodySeesUptoRow.holds Try.pinned (OpenSpec.upto bodySeesSpec)

/-- 'perigeelaw26.SteerLimits', WHERE WHAT IT READS IS OF BULK AT MOST 1048576: true; the input reads as it did. -/
def steerLimitsUptoRow : OpenClaim := { program := "ytjnocbjngojigaa", sum := "2766467bf2944e07cf8abd1e95a7d32db8243a09b34520983b3d5feb3616fde3", func := "perigee/perigeelaw26.SteerLimits", spec := "steerLimits", inPlace := ["math/bits.Add64", "math/bits.Sub64"], unfollowed := true, recurses := true, named := ["math/bits.divideError", "math/bits.overflowError"], apart := false, narrowed := true }
def SteerLimitsUptoSaid : Prop := steerLimitsUptoRow.holds Try.pinned (OpenSpec.upto steerLimitsSpec)

/-- 'perigeelaw26.SteerKnown', WHERE WHAT IT READS IS OF BULK AT MOST 1048576: true; the input reads as it did. -/
def steerKnownUptoRow : OpenClaim := { program := "ytjnocbjngojigaa", sum := "2766467bf2944e07cf8abd1e95a7d32db8243a09b34520983b3d5feb3616fde3", func := "perigee/perigeelaw26.SteerKnown", spec := "steerKnown", inPlace := ["math/bits.Add64", "math/bits.Sub64"], unfollowed := true, recurses := true, named := ["math/bits.divideError", "math/bits.overflowError"], apart := false, narrowed := true }
def SteerKnownUptoSaid : Prop := steerKnownUptoRow.holds Try.pinned (OpenSpec.upto steerKnownSpec)

/-- 'perigeelaw26.SteerNone', WHERE WHAT IT READS IS OF BULK AT MOST 1048576: true; the input reads as it did. -/
def steerNoneUptoRow : OpenClaim := { program := "ytjnocbjngojigaa", sum := "2766467bf2944e07cf8abd1e95a7d32db8243a09b34520983b3d5feb3616fde3", func := "perigee/perigeelaw26.SteerNone", spec := "steerNone", inPlace := ["math/bits.Add64", "math/bits.Sub64"], unfollowed := true, recurses := true, named := ["math/bits.divideError", "math/bits.overflowError"], apart := false, narrowed := true }
def SteerNoneUptoSaid : Prop := steerNoneUptoRow.holds Try.pinned (OpenSpec.upto steerNoneSpec)

/-- 'perigeelaw24.BodyBounds', WHERE WHAT IT READS IS OF BULK AT MOST 1048576: true; the input reads as it did. -/
def bodyBoundsUptoRow : OpenClaim := { program := "ytjnocbjngojigaa", sum := "2766467bf2944e07cf8abd1e95a7d32db8243a09b34520983b3d5feb3616fde3", func := "perigee/perigeelaw24.BodyBounds", spec := "bodyBounds", inPlace := ["math/bits.Add64", "math/bits.Sub64"], unfollowed := true, recurses := true, named := ["math/bits.divideError", "math/bits.overflowError"], apart := false, narrowed := true }
def BodyBoundsUptoSaid : Prop := bodyBoundsUptoRow.holds Try.pinned (OpenSpec.upto bodyBoundsSpec)

/-- 'perigeelaw24.BodyKnown', WHERE WHAT IT READS IS OF BULK AT MOST 1048576: true; the input reads as it did. -/
def bodyKnownUptoRow : OpenClaim := { program := "ytjnocbjngojigaa", sum := "2766467bf2944e07cf8abd1e95a7d32db8243a09b34520983b3d5feb3616fde3", func := "perigee/perigeelaw24.BodyKnown", spec := "bodyKnown", inPlace := ["math/bits.Add64", "math/bits.Sub64"], unfollowed := true, recurses := true, named := ["math/bits.divideError", "math/bits.overflowError"], apart := false, narrowed := true }
def BodyKnownUptoSaid : Prop := bodyKnownUptoRow.holds Try.pinned (OpenSpec.upto bodyKnownSpec)

/-- 'perigeelaw24.BodyNone', WHERE WHAT IT READS IS OF BULK AT MOST 1048576: true; the input reads as it did. -/
def bodyNoneUptoRow : OpenClaim := { program := "ytjnocbjngojigaa", sum := "2766467bf2944e07cf8abd1e95a7d32db8243a09b34520983b3d5feb3616fde3", func := "perigee/perigeelaw24.BodyNone", spec := "bodyNone", inPlace := ["math/bits.Add64", "math/bits.Sub64"], unfollowed := true, recurses := true, named := ["math/bits.divideError", "math/bits.overflowError"], apart := false, narrowed := true }
def BodyNoneUptoSaid : Prop := bodyNoneUptoRow.holds Try.pinned (OpenSpec.upto bodyNoneSpec)

/-- 'perigeelaw24.BodyBalances', WHERE WHAT IT READS IS OF BULK AT MOST 1048576: true; the input reads as it did. -/
def bodyBalancesUptoRow : OpenClaim := { program := "ytjnocbjngojigaa", sum := "2766467bf2944e07cf8abd1e95a7d32db8243a09b34520983b3d5feb3616fde3", func := "perigee/perigeelaw24.BodyBalances", spec := "bodyBalances", inPlace := ["math/bits.Add64", "math/bits.Sub64"], unfollowed := true, recurses := true, named := ["math/bits.divideError", "math/bits.overflowError"], apart := false, narrowed := true }
def BodyBalancesUptoSaid : Prop := bodyBalancesUptoRow.holds Try.pinned (OpenSpec.upto bodyBalancesSpec)

/-- 'perigeelaw24.BodyRests', WHERE WHAT IT READS IS OF BULK AT MOST 1048576: true; the input reads as it did. -/
def bodyRestsUptoRow : OpenClaim := { program := "ytjnocbjngojigaa", sum := "2766467bf2944e07cf8abd1e95a7d32db8243a09b34520983b3d5feb3616fde3", func := "perigee/perigeelaw24.BodyRests", spec := "bodyRests", inPlace := ["math/bits.Add64", "math/bits.Sub64"], unfollowed := true, recurses := true, named := ["math/bits.divideError", "math/bits.overflowError"], apart := false, narrowed := true }
def BodyRestsUptoSaid : Prop := bodyRestsUptoRow.holds Try.pinned (OpenSpec.upto bodyRestsSpec)

/-- 'perigeelaw24.BodyTurns', WHERE WHAT IT READS IS OF BULK AT MOST 1048576: true; the input reads as it did. -/
def bodyTurnsUptoRow : OpenClaim := { program := "ytjnocbjngojigaa", sum := "2766467bf2944e07cf8abd1e95a7d32db8243a09b34520983b3d5feb3616fde3", func := "perigee/perigeelaw24.BodyTurns", spec := "bodyTurns", inPlace := ["math/bits.Add64", "math/bits.Sub64"], unfollowed := true, recurses := true, named := ["math/bits.divideError", "math/bits.overflowError"], apart := false, narrowed := true }
def BodyTurnsUptoSaid : Prop := bodyTurnsUptoRow.holds Try.pinned (OpenSpec.upto bodyTurnsSpec)

/-- 'perigeelaw26.SteerRests', WHERE WHAT IT READS IS OF BULK AT MOST 1048576: true; the input reads as it did. -/
def steerRestsUptoRow : OpenClaim := { program := "ytjnocbjngojigaa", sum := "2766467bf2944e07cf8abd1e95a7d32db8243a09b34520983b3d5feb3616fde3", func := "perigee/perigeelaw26.SteerRests", spec := "steerRests", inPlace := ["math/bits.Add64", "math/bits.Sub64"], unfollowed := true, recurses := true, named := ["math/bits.divideError", "math/bits.overflowError"], apart := false, narrowed := true }
def SteerRestsUptoSaid : Prop := steerRestsUptoRow.holds Try.pinned (OpenSpec.upto steerRestsSpec)

/-- 'perigeelaw26.SteerFollows', WHERE WHAT IT READS IS OF BULK AT MOST 1048576: true; the input reads as it did. -/
def steerFollowsUptoRow : OpenClaim := { program := "ytjnocbjngojigaa", sum := "2766467bf2944e07cf8abd1e95a7d32db8243a09b34520983b3d5feb3616fde3", func := "perigee/perigeelaw26.SteerFollows", spec := "steerFollows", inPlace := ["math/bits.Add64", "math/bits.Sub64"], unfollowed := true, recurses := true, named := ["math/bits.divideError", "math/bits.overflowError"], apart := false, narrowed := true }
def SteerFollowsUptoSaid : Prop := steerFollowsUptoRow.holds Try.pinned (OpenSpec.upto steerFollowsSpec)

end Rows
end Go.Proofs.Ytjnocbjngojigaa
