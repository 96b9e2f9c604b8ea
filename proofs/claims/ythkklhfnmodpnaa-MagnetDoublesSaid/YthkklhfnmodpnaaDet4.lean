/-
  Ways on in a statement whose order of evaluation is open, for operations under a guard ('&&').
-/
import Derived.Test.YthkklhfnmodpnaaDet3
set_option linter.unusedSimpArgs false
set_option linter.unusedVariables false
namespace Go.Proofs.Ythkklhfnmodpnaa.Dt
open Go Go.RowKit
section
variable {P : Program}
theorem wpX_takeG {l : List Oper} {n : Nat} {Q : Exit → Act → World → Prop} {f : Nat} {listed : Array Bool} {a : Act} {w : World} (i : Nat) {o : Oper} (v : Value) (ho' : l[i]? = some o)
    (hw : Region.wanted o (yielded l.toArray a.tmps) = true) (hB : takeB l.toArray n i listed = true) (h : ∀ w1, More w w1 → DetR P (More w1) v ((execOp a.eval o).run P w1))
    (h2 : wpXI P l.toArray n Q f (listed.setIfInBounds i true) (a.put o.dst v) w) : wpXI P l.toArray n Q (f + 1) listed a w := by
  have ho : l.toArray[i]? = some o := by simpa using ho'
  intro inv
  simp only [takeB, fitB, Bool.and_eq_true, decide_eq_true_eq] at hB
  obtain ⟨⟨⟨⟨⟨⟨hsel, hn⟩, hs⟩, hc⟩, hin⟩, hr⟩, hf⟩ := hB
  have hr' : i ∈ Region.ready .any l.toArray listed := by simpa using hr
  exact wpX_first ho (Region.noSelect_spec hsel) hs hc hn hin (fun listed' a' w' hL => seqB_ready hL.1) f listed a w inv (Region.free_spec ho hf) hr' (.inl ⟨hw, h⟩) (h2 (inv.set hr' hin))
end
end Go.Proofs.Ythkklhfnmodpnaa.Dt
