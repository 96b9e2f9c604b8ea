/-
  The examples of the document on quaternions (closed): what the functions answer.
-/
import Derived.Test.YtcgpcehdeihalaaLenQ
import Derived.Test.YtcgpcehdeihalaaBet
import Derived.Test.YtcgpcehdeihalaaLawQ
import Derived.Test.YtcgpcehdeihalaaLawVec
set_option linter.unusedSimpArgs false
set_option linter.unusedVariables false
namespace Go.Proofs.Ytcgpcehdeihalaa
open Go.RowKit PM Dt
theorem qunit_val {f F : Nat → Int} (N : Nat) (hk : okQ f = true) (hz : zQ f = false) (hF : ∀ i, i < 4 → shft 4 45 f i = F i) (h4 : sqs [F 0, F 1, F 2, F 3] < 4 ^ 200) (h1 : N * N ≤ sqs [F 0, F 1, F 2, F 3]) (h2 : sqs [F 0, F 1, F 2, F 3] < (N + 1) * (N + 1)) :
    qfn (qunF f) = qfn (fun i => ratioV (F i) 1073741824 (fitV (N : Int))) ∧ qunE f = 0 := by
  have hn : nQ (shft 4 45 f) = (N : Int) := by
    unfold nQ hypQ
    rw [hF 0 (by omega), hF 1 (by omega), hF 2 (by omega), hF 3 (by omega), isqrt_eq h4 h1 h2]
  unfold qunF qunE
  rw [hk, hz]
  refine ⟨qfn_congr fun i hi => ?_, rfl⟩
  show uX f i = _
  unfold uX uN
  rw [hF i hi, hn]
theorem dec3 {f g : Nat → Int} (h0 : f 0 = g 0) (h1 : f 1 = g 1) (h2 : f 2 = g 2) : vfn f = vfn g := by
  apply vfn_congr
  intro i hi
  have : i = 0 ∨ i = 1 ∨ i = 2 := by omega
  rcases this with rfl | rfl | rfl <;> assumption
theorem dec4 {f g : Nat → Int} (h0 : f 0 = g 0) (h1 : f 1 = g 1) (h2 : f 2 = g 2) (h3 : f 3 = g 3) : qfn f = qfn g := by
  apply qfn_congr
  intro i hi
  have : i = 0 ∨ i = 1 ∨ i = 2 ∨ i = 3 := by omega
  rcases this with rfl | rfl | rfl | rfl <;> assumption
theorem dec4f {f g : Nat → Int} (h0 : f 0 = g 0) (h1 : f 1 = g 1) (h2 : f 2 = g 2) (h3 : f 3 = g 3) : ∀ i, i < 4 → f i = g i := by
  intro i hi
  have : i = 0 ∨ i = 1 ∨ i = 2 ∨ i = 3 := by omega
  rcases this with rfl | rfl | rfl | rfl <;> assumption
theorem not_valid {f : Nat → Int} (h : okQ f = true) (h1 : 1073741829 * 1073741829 ≤ nn f) (h2 : nn f < 1073741830 * 1073741830) : validQ f = false := by
  obtain ⟨hE, l, u⟩ := nQ_in h (a := 1073741829) (b := 1073741829) (by decide) (by decide) h1 h2
  unfold validQ
  rw [decide_eq_false (show ¬ fitV (nQ f) ≤ 1073741828 by omega), Bool.and_false, Bool.and_false]
theorem valid_i : validQ (of4 1073741824 0 0 0) = true := valid_of (by decide +kernel) (by decide +kernel) (by decide +kernel)
theorem valid_z : validQ (of4 0 0 0 1073741824) = true := valid_of (by decide +kernel) (by decide +kernel) (by decide +kernel)
theorem valid_q : validQ (of4 759250125 0 0 759250125) = true := valid_of (by decide +kernel) (by decide +kernel) (by decide +kernel)
theorem valid_n : validQ (of4 1073741829 0 0 0) = false := not_valid (by decide +kernel) (by decide +kernel) (by decide +kernel)
set_option maxRecDepth 100000 in
theorem qk0 : qfn (qunF (of4 3 0 0 (-4))) = qfn (of4 644245094 0 0 (-858993459)) ∧ qunE (of4 3 0 0 (-4)) = 0 := by
  have h := qunit_val (f := (of4 3 0 0 (-4))) (F := (of4 26388279066624 0 0 (-35184372088832))) 43980465111040 (by decide +kernel) (by decide +kernel) (dec4f (by decide +kernel) (by decide +kernel) (by decide +kernel) (by decide +kernel)) (by decide +kernel) (by decide +kernel) (by decide +kernel)
  rw [h.1]
  exact ⟨dec4 (by decide +kernel) (by decide +kernel) (by decide +kernel) (by decide +kernel), h.2⟩
set_option maxRecDepth 100000 in
theorem qk1 : qfn (qunF (of4 0 0 0 0)) = qfn (of4 0 0 0 0) ∧ qunE (of4 0 0 0 0) = 4 := by
  have hk : okQ (of4 0 0 0 0) = true := by decide +kernel
  have hz : zQ (of4 0 0 0 0) = true := by decide +kernel
  unfold qunF qunE
  rw [hk, hz]
  exact ⟨dec4 (by decide +kernel) (by decide +kernel) (by decide +kernel) (by decide +kernel), rfl⟩
set_option maxRecDepth 100000 in
theorem qk2 : vfn (qrotF (of4 1073741824 0 0 0) (of3 1 2 3)) = vfn (of3 1 2 3) ∧ qrotE (of4 1073741824 0 0 0) (of3 1 2 3) = 0 := by
  unfold qrotF qrotE
  rw [valid_i]
  exact ⟨dec3 (by decide +kernel) (by decide +kernel) (by decide +kernel), by decide +kernel⟩
set_option maxRecDepth 100000 in
theorem qk3 : qfn (qunF (of4 1 0 0 1)) = qfn (of4 759250125 0 0 759250125) ∧ qunE (of4 1 0 0 1) = 0 := by
  have h := qunit_val (f := (of4 1 0 0 1)) (F := (of4 35184372088832 0 0 35184372088832)) 49758216191607 (by decide +kernel) (by decide +kernel) (dec4f (by decide +kernel) (by decide +kernel) (by decide +kernel) (by decide +kernel)) (by decide +kernel) (by decide +kernel) (by decide +kernel)
  rw [h.1]
  exact ⟨dec4 (by decide +kernel) (by decide +kernel) (by decide +kernel) (by decide +kernel), h.2⟩
set_option maxRecDepth 100000 in
theorem qk4 : vfn (qrotF (of4 759250125 0 0 759250125) (of3 1073741824 0 0)) = vfn (of3 0 1073741824 0) ∧ qrotE (of4 759250125 0 0 759250125) (of3 1073741824 0 0) = 0 := by
  unfold qrotF qrotE
  rw [valid_q]
  exact ⟨dec3 (by decide +kernel) (by decide +kernel) (by decide +kernel), by decide +kernel⟩
set_option maxRecDepth 100000 in
theorem qk5 : vfn (qbackF (of4 759250125 0 0 759250125) (of3 1073741824 0 0)) = vfn (of3 0 (-1073741824) 0) ∧ qbackE (of4 759250125 0 0 759250125) (of3 1073741824 0 0) = 0 := by
  unfold qbackF qbackE
  rw [valid_q]
  exact ⟨dec3 (by decide +kernel) (by decide +kernel) (by decide +kernel), by decide +kernel⟩
set_option maxRecDepth 100000 in
theorem qk6 : qfn (turnF (of4 1073741824 0 0 0) (of3 0 0 0)) = qfn (of4 1073741824 0 0 0) ∧ turnE (of4 1073741824 0 0 0) (of3 0 0 0) = 0 := by
  have hs : smallB (of3 0 0 0) 1073741824 = true := by decide +kernel
  have ht : turnOk (of4 1073741824 0 0 0) (of3 0 0 0) = true := by unfold turnOk; rw [valid_i, hs]; rfl
  have hp : qfn (qprodF (of4 1073741824 0 0 0) (rq (of3 0 0 0))) = qfn (of4 1073741824 0 0 0) := dec4 (by decide +kernel) (by decide +kernel) (by decide +kernel) (by decide +kernel)
  have h := qunit_val (f := (qprodF (of4 1073741824 0 0 0) (rq (of3 0 0 0)))) (F := (of4 35184372088832 0 0 0)) 35184372088832 (by decide +kernel) (by decide +kernel) (dec4f (by decide +kernel) (by decide +kernel) (by decide +kernel) (by decide +kernel)) (by decide +kernel) (by decide +kernel) (by decide +kernel)
  unfold turnF turnE
  rw [ht]
  refine ⟨(show qfn (qunF (qprodF (of4 1073741824 0 0 0) (rq (of3 0 0 0)))) = _ from h.1).trans (dec4 (by decide +kernel) (by decide +kernel) (by decide +kernel) (by decide +kernel)), h.2⟩
set_option maxRecDepth 100000 in
theorem qk7 : qfn (turnF (of4 1073741824 0 0 0) (of3 0 0 1073741824)) = qfn (of4 759250125 0 0 759250125) ∧ turnE (of4 1073741824 0 0 0) (of3 0 0 1073741824) = 0 := by
  have hs : smallB (of3 0 0 1073741824) 1073741824 = true := by decide +kernel
  have ht : turnOk (of4 1073741824 0 0 0) (of3 0 0 1073741824) = true := by unfold turnOk; rw [valid_i, hs]; rfl
  have hp : qfn (qprodF (of4 1073741824 0 0 0) (rq (of3 0 0 1073741824))) = qfn (of4 1073741824 0 0 1073741824) := dec4 (by decide +kernel) (by decide +kernel) (by decide +kernel) (by decide +kernel)
  have h := qunit_val (f := (qprodF (of4 1073741824 0 0 0) (rq (of3 0 0 1073741824)))) (F := (of4 35184372088832 0 0 35184372088832)) 49758216191607 (by decide +kernel) (by decide +kernel) (dec4f (by decide +kernel) (by decide +kernel) (by decide +kernel) (by decide +kernel)) (by decide +kernel) (by decide +kernel) (by decide +kernel)
  unfold turnF turnE
  rw [ht]
  refine ⟨(show qfn (qunF (qprodF (of4 1073741824 0 0 0) (rq (of3 0 0 1073741824)))) = _ from h.1).trans (dec4 (by decide +kernel) (by decide +kernel) (by decide +kernel) (by decide +kernel)), h.2⟩
set_option maxRecDepth 100000 in
theorem qk8 : qfn (betF (of4 1073741824 0 0 0) (of4 0 0 0 1073741824)) = qfn (of4 0 0 0 1073741824) ∧ betE (of4 1073741824 0 0 0) (of4 0 0 0 1073741824) = 0 := by
  unfold betF betE
  rw [valid_i, valid_z]
  exact ⟨dec4 (by decide +kernel) (by decide +kernel) (by decide +kernel) (by decide +kernel), by decide +kernel⟩
set_option maxRecDepth 100000 in
theorem qk9 : qfn (betF (of4 0 0 0 1073741824) (of4 1073741824 0 0 0)) = qfn (of4 0 0 0 (-1073741824)) ∧ betE (of4 0 0 0 1073741824) (of4 1073741824 0 0 0) = 0 := by
  unfold betF betE
  rw [valid_z, valid_i]
  exact ⟨dec4 (by decide +kernel) (by decide +kernel) (by decide +kernel) (by decide +kernel), by decide +kernel⟩
set_option maxRecDepth 100000 in
theorem qk10 : qfn (turnF (of4 1073741824 0 0 0) (of3 1073741825 0 0)) = qfn (of4 0 0 0 0) ∧ turnE (of4 1073741824 0 0 0) (of3 1073741825 0 0) = 2 := by
  have hs : smallB (of3 1073741825 0 0) 1073741824 = false := by decide +kernel
  have ht : turnOk (of4 1073741824 0 0 0) (of3 1073741825 0 0) = false := by unfold turnOk; rw [hs, Bool.and_false]
  obtain ⟨h1, h2⟩ := turn_not ht
  rw [h1, h2]
  exact ⟨dec4 (by decide +kernel) (by decide +kernel) (by decide +kernel) (by decide +kernel), rfl⟩
end Go.Proofs.Ytcgpcehdeihalaa
