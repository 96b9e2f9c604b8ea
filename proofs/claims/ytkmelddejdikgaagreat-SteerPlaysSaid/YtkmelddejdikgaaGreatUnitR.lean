/-
  Unit quaternions: the greatest component. Unit quaternions, in the package and in the specification.
-/
import Derived.Test.YtkmelddejdikgaaGreatShift
import Derived.Test.YtkmelddejdikgaaGreatQuatD
set_option linter.unusedSimpArgs false
set_option linter.unusedVariables false
namespace Go.Proofs.YtkmelddejdikgaaGreat
open Go.RowKit PM Dt
def zQ (f : Nat → Int) : Bool := (List.range 4).all fun j => f j == 0
theorem zQ_no {f : Nat → Int} (h : zQ f = false) : low 4 45 f := by
 have : ∃ j, j < 4 ∧ f j ≠ 0 := by
  apply Classical.byContradiction
  intro hn
  have : zQ f = true := by
   unfold zQ; rw [List.all_eq_true]
   intro j hj
   have hj := List.mem_range.1 hj
   exact beq_iff_eq.2 (Classical.byContradiction fun hc => hn ⟨j, hj, hc⟩)
  rw [h] at this; cases this
 obtain ⟨j, hj, hz⟩ := this
 exact low_start hj hz
theorem ok_upb {f : Nat → Int} (h : okQ f = true) : upb 4 f := fun i hi => by
 have := (vb_iff _).1 ((okQ_iff f).1 h i hi)
 omega
def uN (f : Nat → Int) : Int := fitV (nQ (shft 4 45 f))
def uX (f : Nat → Int) (i : Nat) : Int := ratioV (shft 4 45 f i) 1073741824 (uN f)
def qunF (f : Nat → Int) : Nat → Int := if okQ f then (if zQ f then fun _ => 0 else uX f) else fun _ => 0
def qunE (f : Nat → Int) : Int := if okQ f then (if zQ f then 4 else 0) else 2
end Go.Proofs.YtkmelddejdikgaaGreat
