/-
  A matrix of nine numbers as a row's argument: opened and shut.
-/
import Derived.Test.YthkklhfnmodpnaaLawVM
import Derived.Test.YthkklhfnmodpnaaFrameV
namespace Go.Proofs.Ythkklhfnmodpnaa
open Go.ChangeShapes Go.WideShapes Go.ChangeAt Go.RowKit
theorem list9 {α : Type} (l : List α) (h : (⟨l⟩ : Array α).size = 9) : ∃ a b c d e f g i j, l = [a, b, c, d, e, f, g, i, j] := by
  match l, h with
  | [a, b, c, d, e, f, g, i, j], _ => exact ⟨a, b, c, d, e, f, g, i, j, rfl⟩
/-- The components of a matrix out of nine numbers. -/
def of9 (a b c d e f g i j : Int) : Nat → Int
  | 0 => a
  | 1 => b
  | 2 => c
  | 3 => d
  | 4 => e
  | 5 => f
  | 6 => g
  | 7 => i
  | _ => j
theorem of9_cells (a b c d e f g i j : Int) : #[Value.int .i64 a, .int .i64 b, .int .i64 c, .int .i64 d, .int .i64 e, .int .i64 f, .int .i64 g, .int .i64 i, .int .i64 j] = mfn (of9 a b c d e f g i j) := by unfold mfn; rfl
/-- What a reader sees of a matrix. -/
def matD {H : Type} (g : Nat → Int) : DataW H := .agg [vecD (mrow g 0), vecD (mrow g 1), vecD (mrow g 2)]
/-- A row of three cells, read. -/
theorem open_row {H : Type} {enc : TypeId × Value → H} {W : World} {base : Nat} {spare : Nat → Bool} {held : Bool} {fuel : Nat} {c0 c1 c2 : Value} {y : DataW H × List MemPlace}
    (h : DataW.trod enc Try.prog W base spare held fuel 23 [c0, c1, c2] = some y) : ∃ x0 x1 x2 : Int, c0 = .int .i64 x0 ∧ c1 = .int .i64 x1 ∧ c2 = .int .i64 x2 ∧ y = (.agg [.lit (.int .i64 x0), .lit (.int .i64 x1), .lit (.int .i64 x2)], []) ∧
      (Lit.int .i64 x0).wf = true ∧ (Lit.int .i64 x1).wf = true ∧ (Lit.int .i64 x2).wf = true := by
  obtain ⟨y0, y1, y2, m, hx, hy0, hy1, hy2⟩ := trod_array3 Try.underlying23 (by kernel_rfl) h
  obtain ⟨x0, e0, rfl, w0⟩ := DataW.trod_int Try.underlying2 hy0
  obtain ⟨x1, e1, rfl, w1⟩ := DataW.trod_int Try.underlying2 hy1
  obtain ⟨x2, e2, rfl, w2⟩ := DataW.trod_int Try.underlying2 hy2
  simp at e0 e1 e2
  exact ⟨x0, x1, x2, e0, e1, e2, hx, w0, w1, w2⟩
set_option maxRecDepth 100000 in
theorem open_mat {H : Type} {enc : TypeId × Value → H} {W : World} {base : Nat} {spare : Nat → Bool} {held : Bool} {v : Value} {d : DataW H} {p : List MemPlace}
    (hval : Value.okWide Try.prog W .any base 25 v) (h : DataW.Trod enc Try.prog W 0 spare held 25 v d p) : ∃ g : Nat → Int, v = .agg (mfn g) ∧ d = matD g ∧ p = [] ∧ ∀ i, i < 9 → (Lit.int .i64 (g i)).wf = true := by
  obtain ⟨cs, rfl, hsz, _⟩ : ∃ cs, v = .agg cs ∧ cs.size = Try.prog.cellsOf 25 ∧ Row.okWide Try.prog W .any base 25 cs := by
    simpa [Value.okWide, Try.underlying25] using hval
  rw [show Try.prog.cellsOf 25 = 9 by kernel_rfl] at hsz
  obtain ⟨l⟩ := cs
  obtain ⟨c0, c1, c2, c3, c4, c5, c6, c7, c8, rfl⟩ := list9 l hsz
  obtain ⟨fuel, hf⟩ := h
  obtain ⟨xs, m, rfl, hx, _, hlen, hget⟩ := DataW.trod_array Try.underlying25 hf
  have hc3 : Try.prog.cellsOf 23 = 3 := by kernel_rfl
  rw [hc3] at hget
  obtain ⟨y0, y1, y2, rfl⟩ := list3 xs (by simpa using hlen)
  have g0 := hget 0 (by omega)
  have g1 := hget 1 (by omega)
  have g2 := hget 2 (by omega)
  obtain ⟨a0, a1, a2, rfl, rfl, rfl, rfl, u0, u1, u2⟩ := open_row (c0 := c0) (c1 := c1) (c2 := c2) (y := y0) g0
  obtain ⟨b0, b1, b2, rfl, rfl, rfl, rfl, u3, u4, u5⟩ := open_row (c0 := c3) (c1 := c4) (c2 := c5) (y := y1) g1
  obtain ⟨e0, e1, e2, rfl, rfl, rfl, rfl, u6, u7, u8⟩ := open_row (c0 := c6) (c1 := c7) (c2 := c8) (y := y2) g2
  have hd : d = .agg [.agg [.lit (.int .i64 a0), .lit (.int .i64 a1), .lit (.int .i64 a2)], .agg [.lit (.int .i64 b0), .lit (.int .i64 b1), .lit (.int .i64 b2)], .agg [.lit (.int .i64 e0), .lit (.int .i64 e1), .lit (.int .i64 e2)]] ∧ p = [] := by
    have := Prod.mk.inj hx
    exact ⟨this.1, by simpa using this.2⟩
  refine ⟨of9 a0 a1 a2 b0 b1 b2 e0 e1 e2, congrArg Value.agg (of9_cells a0 a1 a2 b0 b1 b2 e0 e1 e2), hd.1, hd.2, fun i hi => ?_⟩
  have : i = 0 ∨ i = 1 ∨ i = 2 ∨ i = 3 ∨ i = 4 ∨ i = 5 ∨ i = 6 ∨ i = 7 ∨ i = 8 := by omega
  rcases this with rfl | rfl | rfl | rfl | rfl | rfl | rfl | rfl | rfl <;> assumption
set_option maxRecDepth 100000 in
theorem shut_mat {H : Type} {enc : TypeId × Value → H} {W : World} {base : Nat} {spare : Nat → Bool} {held : Bool} {g : Nat → Int} (hw : ∀ i, i < 9 → (Lit.int .i64 (g i)).wf = true) :
    DataW.Trod enc Try.prog W base spare held 25 (.agg (mfn g)) (matD g) [] := by
  have w0 := hw 0 (by omega)
  have w1 := hw 1 (by omega)
  have w2 := hw 2 (by omega)
  have w3 := hw 3 (by omega)
  have w4 := hw 4 (by omega)
  have w5 := hw 5 (by omega)
  have w6 := hw 6 (by omega)
  have w7 := hw 7 (by omega)
  have w8 := hw 8 (by omega)
  have c0 : Try.prog.cellsOf 25 = 9 := by kernel_rfl
  have c1 : Try.prog.cellsOf 23 = 3 := by kernel_rfl
  have c2 : Try.prog.cellsOf 2 = 1 := by kernel_rfl
  have e : mfn g = #[.int .i64 (g 0), .int .i64 (g 1), .int .i64 (g 2), .int .i64 (g 3), .int .i64 (g 4), .int .i64 (g 5), .int .i64 (g 6), .int .i64 (g 7), .int .i64 (g 8)] := by unfold mfn; rfl
  rw [e]
  unfold matD vecD mrow
  exact ⟨3, by simp [DataW.trod, Value.cells, Try.underlying25, Try.underlying23, Try.underlying2, c0, c1, c2, w0, w1, w2, w3, w4, w5, w6, w7, w8, show List.range 3 = [0, 1, 2] from rfl]⟩
end Go.Proofs.Ythkklhfnmodpnaa
