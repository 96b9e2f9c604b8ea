/-
  A vector of three numbers as a row's argument: opened and shut.
-/
import Derived.Test.YthkklhfnmodpnaaLawVec
import Derived.Test.YthkklhfnmodpnaaFrame
import Derived.Laws.IdiomArrays
import Derived.WalkKit
import Derived.ProofKit
import Derived.OpenShut
import Derived.ShutString
import Derived.ChangeOld
import Derived.Below
namespace Go.Proofs.Ythkklhfnmodpnaa
open Go.ChangeShapes Go.WideShapes Go.ChangeAt Go.RowKit
theorem list3 {α : Type} (l : List α) (h : (⟨l⟩ : Array α).size = 3) : ∃ a b c, l = [a, b, c] := by
  match l, h with
  | [a, b, c], _ => exact ⟨a, b, c, rfl⟩
/-- What a reader sees of a vector. -/
def vecD {H : Type} (f : Nat → Int) : DataW H := .agg [.lit (.int .i64 (f 0)), .lit (.int .i64 (f 1)), .lit (.int .i64 (f 2))]
set_option maxRecDepth 100000 in
theorem open_vec {H : Type} {enc : TypeId × Value → H} {W : World} {base : Nat} {spare : Nat → Bool} {held : Bool} {v : Value} {d : DataW H} {p : List MemPlace}
    (hval : Value.okWide Try.prog W .any base 23 v) (h : DataW.Trod enc Try.prog W 0 spare held 23 v d p) : ∃ f : Nat → Int, v = .agg (vfn f) ∧ d = vecD f ∧ p = [] ∧ ∀ i, i < 3 → (Lit.int .i64 (f i)).wf = true := by
  obtain ⟨cs, rfl, hsz, _⟩ : ∃ cs, v = .agg cs ∧ cs.size = Try.prog.cellsOf 23 ∧ Row.okWide Try.prog W .any base 23 cs := by
    simpa [Value.okWide, Try.underlying23] using hval
  rw [show Try.prog.cellsOf 23 = 3 by kernel_rfl] at hsz
  obtain ⟨l⟩ := cs
  obtain ⟨c0, c1, c2, rfl⟩ := list3 l hsz
  obtain ⟨fuel, hf⟩ := h
  obtain ⟨y0, y1, y2, m, hx, hy0, hy1, hy2⟩ := trod_array3 Try.underlying23 (by kernel_rfl) hf
  obtain ⟨x0, e0, rfl, w0⟩ := DataW.trod_int Try.underlying2 hy0
  obtain ⟨x1, e1, rfl, w1⟩ := DataW.trod_int Try.underlying2 hy1
  obtain ⟨x2, e2, rfl, w2⟩ := DataW.trod_int Try.underlying2 hy2
  simp at e0 e1 e2
  subst e0 e1 e2
  simp only [Prod.mk.injEq] at hx
  obtain ⟨rfl, rfl⟩ := hx
  refine ⟨of3 x0 x1 x2, congrArg Value.agg (of3_cells x0 x1 x2), rfl, rfl, fun i hi => ?_⟩
  have : i = 0 ∨ i = 1 ∨ i = 2 := by omega
  rcases this with rfl | rfl | rfl
  · exact w0
  · exact w1
  · exact w2
set_option maxRecDepth 100000 in
theorem shut_vec {H : Type} {enc : TypeId × Value → H} {W : World} {base : Nat} {spare : Nat → Bool} {held : Bool} {f : Nat → Int} (hw : ∀ i, i < 3 → (Lit.int .i64 (f i)).wf = true) :
    DataW.Trod enc Try.prog W base spare held 23 (.agg (vfn f)) (vecD f) [] := by
  have w0 := hw 0 (by omega)
  have w1 := hw 1 (by omega)
  have w2 := hw 2 (by omega)
  have c1 : Try.prog.cellsOf 23 = 3 := by kernel_rfl
  have c2 : Try.prog.cellsOf 2 = 1 := by kernel_rfl
  unfold vfn vecD
  exact ⟨2, by simp [DataW.trod, Value.cells, Try.underlying23, Try.underlying2, c1, c2, w0, w1, w2, show List.range 3 = [0, 1, 2] from rfl]⟩
end Go.Proofs.Ythkklhfnmodpnaa
