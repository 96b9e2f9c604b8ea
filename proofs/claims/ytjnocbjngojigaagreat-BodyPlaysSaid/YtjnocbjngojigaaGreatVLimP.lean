/-
  Shortened vectors, in the package: sums of squares, the least integer that is not below a norm, quotients toward zero. Shortened vectors, in the package: the least integer that is not below a norm. Shortened vectors, in the package: quotients toward zero, and Limit. Shortened vectors: Limit of the package.
-/
import Derived.Test.YtjnocbjngojigaaGreatVUnit
import Derived.Test.YtjnocbjngojigaaGreatShift
set_option linter.unusedSimpArgs false
set_option linter.unusedVariables false
namespace Go.Proofs.YtjnocbjngojigaaGreat
open Go.RowKit PM Dt
end Go.Proofs.YtjnocbjngojigaaGreat
namespace Go.Proofs.YtjnocbjngojigaaGreat
open Go.RowKit PM Dt
def sq3 (f : Nat → Int) : Nat := sqs [f 0, f 1, f 2]
theorem ok_sq {f : Nat → Int} (h : okV f = true) : sq3 f ≤ 3626777458843887524118528 := by
  have q : ∀ i, i < 3 → f i * f i ≤ 1208925819614629174706176 := fun i hi => by
    have hh := (vb_iff _).1 ((okV_iff f).1 h i hi)
    exact (bmul (P := 1099511627776) (R := 1099511627776) hh.1 hh.2 hh.1 hh.2).2
  have e := sqs3_i f
  have q0 := q 0 (by omega)
  have q1 := q 1 (by omega)
  have q2 := q 2 (by omega)
  unfold sq3
  omega
end Go.Proofs.YtjnocbjngojigaaGreat
namespace Go.Proofs.YtjnocbjngojigaaGreat
open Go.RowKit PM Dt
end Go.Proofs.YtjnocbjngojigaaGreat
namespace Go.Proofs.YtjnocbjngojigaaGreat
open Go.RowKit PM Dt
def okL (f : Nat → Int) (m : Int) : Prop := okV f = true ∧ 0 ≤ m ∧ m ≤ 1099511627776
instance (f : Nat → Int) (m : Int) : Decidable (okL f m) := by unfold okL; infer_instance
end Go.Proofs.YtjnocbjngojigaaGreat
