/-
  Unit quaternions: the greatest component. Unit quaternions, in the package and in the specification. Turned attitudes, in the package: Turn.
-/
import Derived.Test.YtjnocbjngojigaaShift
import Derived.Test.YtjnocbjngojigaaQuatD
import Derived.Test.YtjnocbjngojigaaQEq
import Derived.Test.YtjnocbjngojigaaVecG
set_option linter.unusedSimpArgs false
set_option linter.unusedVariables false
namespace Go.Proofs.Ytjnocbjngojigaa
open Go.RowKit PM Dt
end Go.Proofs.Ytjnocbjngojigaa
namespace Go.Proofs.Ytjnocbjngojigaa
open Go.RowKit PM Dt
/-- Is it the quaternion of zeros? -/
def zQ (f : Nat → Int) : Bool := (List.range 4).all fun j => f j == 0
theorem zQ_no {f : Nat → Int} (h : zQ f = false) : low 4 45 f := by
  have : ∃ j, j < 4 ∧ f j ≠ 0 := by
    apply Classical.byContradiction
    intro hn
    have : zQ f = true := by
      unfold zQ; rw [List.all_eq_true]
      intro j hj
      have hj := List.mem_range.1 hj
      exact beq_iff_eq.2 (Classical.byContradiction fun hc => hn ⟨j, hj, hc⟩)
    rw [h] at this; cases this
  obtain ⟨j, hj, hz⟩ := this
  exact low_start hj hz
theorem ok_upb {f : Nat → Int} (h : okQ f = true) : upb 4 f := fun i hi => by
  have := (vb_iff _).1 ((okQ_iff f).1 h i hi)
  omega
def uN (f : Nat → Int) : Int := fitV (nQ (shft 4 45 f))
def uX (f : Nat → Int) (i : Nat) : Int := ratioV (shft 4 45 f i) 1073741824 (uN f)
def qunF (f : Nat → Int) : Nat → Int := if okQ f then (if zQ f then fun _ => 0 else uX f) else fun _ => 0
def qunE (f : Nat → Int) : Int := if okQ f then (if zQ f then 4 else 0) else 2
end Go.Proofs.Ytjnocbjngojigaa
namespace Go.Proofs.Ytjnocbjngojigaa
open Go.RowKit PM Dt
/-- One and three numbers. -/
def rq (g : Nat → Int) : Nat → Int := fun i => if i = 0 then 1073741824 else if i = 1 then g 0 else if i = 2 then g 1 else g 2
def turnOk (f g : Nat → Int) : Bool := validQ f && smallB g 1073741824
def turnF (f g : Nat → Int) : Nat → Int := if turnOk f g then qunF (qprodF f (rq g)) else fun _ => 0
def turnE (f g : Nat → Int) : Int := if turnOk f g then qunE (qprodF f (rq g)) else 2
end Go.Proofs.Ytjnocbjngojigaa
