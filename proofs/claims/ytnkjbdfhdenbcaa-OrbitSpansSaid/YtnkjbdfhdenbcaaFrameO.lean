/-
  The frame of rows whose parameters are orbits, stations and spans.
-/
import Derived.Test.YtnkjbdfhdenbcaaFrameV
import Derived.Test.YtnkjbdfhdenbcaaOrbA
set_option linter.unusedSimpArgs false
set_option linter.unusedVariables false
namespace Go.Proofs.Ytnkjbdfhdenbcaa
open Go.ChangeShapes Go.WideShapes Go.ChangeAt Go.RowKit
theorem listorb {α : Type} (l : List α) (h : l.length = 8) : ∃ x0 x1 x2 x3 x4 x5 x6 x7, l = [x0, x1, x2, x3, x4, x5, x6, x7] := by
  match l, h with
  | [x0, x1, x2, x3, x4, x5, x6, x7], _ => exact ⟨x0, x1, x2, x3, x4, x5, x6, x7, rfl⟩
def oforb (x0 x1 x2 x3 x4 x5 x6 x7 : Int) : Nat → Int
  | 0 => x0
  | 1 => x1
  | 2 => x2
  | 3 => x3
  | 4 => x4
  | 5 => x5
  | 6 => x6
  | _ => x7
def orbRd {H : Type} (f : Nat → Int) : DataW H := .agg [.lit (.int .i64 (f 0)), .lit (.int .i64 (f 1)), .lit (.int .i64 (f 2)), .lit (.int .u32 (f 3)), .lit (.int .u32 (f 4)), .lit (.int .u32 (f 5)), .lit (.int .u32 (f 6)), .lit (.int .i64 (f 7))]
def Worb (f : Nat → Int) : Prop := (Lit.int .i64 (f 0)).wf = true ∧ (Lit.int .i64 (f 1)).wf = true ∧ (Lit.int .i64 (f 2)).wf = true ∧ (Lit.int .u32 (f 3)).wf = true ∧ (Lit.int .u32 (f 4)).wf = true ∧ (Lit.int .u32 (f 5)).wf = true ∧ (Lit.int .u32 (f 6)).wf = true ∧ (Lit.int .i64 (f 7)).wf = true
theorem oforb_cells (x0 x1 x2 x3 x4 x5 x6 x7 : Int) : #[Value.int .i64 x0, Value.int .i64 x1, Value.int .i64 x2, Value.int .u32 x3, Value.int .u32 x4, Value.int .u32 x5, Value.int .u32 x6, Value.int .i64 x7] = ofn (oforb x0 x1 x2 x3 x4 x5 x6 x7) := by unfold ofn; rfl
set_option maxRecDepth 100000 in
set_option maxHeartbeats 1000000 in
theorem open_orb {H : Type} {enc : TypeId × Value → H} {W : World} {base : Nat} {spare : Nat → Bool} {held : Bool} {v : Value} {d : DataW H} {p : List MemPlace}
    (hval : Value.okWide Try.prog W .any base 24 v) (h : DataW.Trod enc Try.prog W 0 spare held 24 v d p) : ∃ f : Nat → Int, v = .agg (ofn f) ∧ d = orbRd f ∧ p = [] ∧ Worb f := by
  obtain ⟨cs, rfl, hsz, _⟩ : ∃ cs, v = .agg cs ∧ cs.size = Try.prog.cellsOf 24 ∧ Row.okWide Try.prog W .any base 24 cs := by
    simpa [Value.okWide, Try.underlying24] using hval
  rw [show Try.prog.cellsOf 24 = 8 by kernel_rfl] at hsz
  obtain ⟨l⟩ := cs
  obtain ⟨c0_, c1_, c2_, c3_, c4_, c5_, c6_, c7_, rfl⟩ := listorb l hsz
  obtain ⟨fuel, hf⟩ := h
  obtain ⟨xs, n, _, hx, hl, hlen, hF⟩ := DataW.trod_struct Try.underlying24 hf
  obtain ⟨y0, y1, y2, y3, y4, y5, y6, y7, rfl⟩ := listorb xs (by simpa using hlen)
  have c1 : Try.prog.cellsOf 2 = 1 := by kernel_rfl
  have c2 : Try.prog.cellsOf 22 = 1 := by kernel_rfl
  obtain ⟨x0, e0, q0, w0⟩ := DataW.trod_int (k := .i64) (by exact Try.underlying2) (hF 0 _ rfl)
  subst q0
  simp [Value.cells, c1, c2] at e0
  obtain ⟨x1, e1, q1, w1⟩ := DataW.trod_int (k := .i64) (by exact Try.underlying2) (hF 1 _ rfl)
  subst q1
  simp [Value.cells, c1, c2] at e1
  obtain ⟨x2, e2, q2, w2⟩ := DataW.trod_int (k := .i64) (by exact Try.underlying2) (hF 2 _ rfl)
  subst q2
  simp [Value.cells, c1, c2] at e2
  obtain ⟨x3, e3, q3, w3⟩ := DataW.trod_int (k := .u32) (by exact Try.underlying22) (hF 3 _ rfl)
  subst q3
  simp [Value.cells, c1, c2] at e3
  obtain ⟨x4, e4, q4, w4⟩ := DataW.trod_int (k := .u32) (by exact Try.underlying22) (hF 4 _ rfl)
  subst q4
  simp [Value.cells, c1, c2] at e4
  obtain ⟨x5, e5, q5, w5⟩ := DataW.trod_int (k := .u32) (by exact Try.underlying22) (hF 5 _ rfl)
  subst q5
  simp [Value.cells, c1, c2] at e5
  obtain ⟨x6, e6, q6, w6⟩ := DataW.trod_int (k := .u32) (by exact Try.underlying22) (hF 6 _ rfl)
  subst q6
  simp [Value.cells, c1, c2] at e6
  obtain ⟨x7, e7, q7, w7⟩ := DataW.trod_int (k := .i64) (by exact Try.underlying2) (hF 7 _ rfl)
  subst q7
  simp [Value.cells, c1, c2] at e7
  subst e0 e1 e2 e3 e4 e5 e6 e7
  simp only [Prod.mk.injEq] at hx
  obtain ⟨rfl, rfl⟩ := hx
  exact ⟨oforb x0 x1 x2 x3 x4 x5 x6 x7, congrArg Value.agg (oforb_cells x0 x1 x2 x3 x4 x5 x6 x7), rfl, rfl, w0, w1, w2, w3, w4, w5, w6, w7⟩
set_option maxRecDepth 100000 in
theorem shut_orb {H : Type} {enc : TypeId × Value → H} {W : World} {base : Nat} {spare : Nat → Bool} {held : Bool} {f : Nat → Int} (hw : Worb f) :
    DataW.Trod enc Try.prog W base spare held 24 (.agg (ofn f)) (orbRd f) [] := by
  obtain ⟨w0, w1, w2, w3, w4, w5, w6, w7⟩ := hw
  have cT : Try.prog.cellsOf 24 = 8 := by kernel_rfl
  have c1 : Try.prog.cellsOf 2 = 1 := by kernel_rfl
  have c2 : Try.prog.cellsOf 22 = 1 := by kernel_rfl
  unfold ofn orbRd
  exact ⟨2, by simp [DataW.trod, Value.cells, Try.underlying24, Try.underlying2, Try.underlying22, cT, c1, c2, w0, w1, w2, w3, w4, w5, w6, w7]⟩
theorem liststn {α : Type} (l : List α) (h : l.length = 3) : ∃ x0 x1 x2, l = [x0, x1, x2] := by
  match l, h with
  | [x0, x1, x2], _ => exact ⟨x0, x1, x2, rfl⟩
def ofstn (x0 x1 x2 : Int) : Nat → Int
  | 0 => x0
  | 1 => x1
  | _ => x2
def stnRd {H : Type} (f : Nat → Int) : DataW H := .agg [.lit (.int .u32 (f 0)), .lit (.int .u32 (f 1)), .lit (.int .i64 (f 2))]
def Wstn (f : Nat → Int) : Prop := (Lit.int .u32 (f 0)).wf = true ∧ (Lit.int .u32 (f 1)).wf = true ∧ (Lit.int .i64 (f 2)).wf = true
theorem ofstn_cells (x0 x1 x2 : Int) : #[Value.int .u32 x0, Value.int .u32 x1, Value.int .i64 x2] = stn (ofstn x0 x1 x2) := by unfold stn; rfl
set_option maxRecDepth 100000 in
set_option maxHeartbeats 1000000 in
theorem open_stn {H : Type} {enc : TypeId × Value → H} {W : World} {base : Nat} {spare : Nat → Bool} {held : Bool} {v : Value} {d : DataW H} {p : List MemPlace}
    (hval : Value.okWide Try.prog W .any base 26 v) (h : DataW.Trod enc Try.prog W 0 spare held 26 v d p) : ∃ f : Nat → Int, v = .agg (stn f) ∧ d = stnRd f ∧ p = [] ∧ Wstn f := by
  obtain ⟨cs, rfl, hsz, _⟩ : ∃ cs, v = .agg cs ∧ cs.size = Try.prog.cellsOf 26 ∧ Row.okWide Try.prog W .any base 26 cs := by
    simpa [Value.okWide, Try.underlying26] using hval
  rw [show Try.prog.cellsOf 26 = 3 by kernel_rfl] at hsz
  obtain ⟨l⟩ := cs
  obtain ⟨c0_, c1_, c2_, rfl⟩ := liststn l hsz
  obtain ⟨fuel, hf⟩ := h
  obtain ⟨xs, n, _, hx, hl, hlen, hF⟩ := DataW.trod_struct Try.underlying26 hf
  obtain ⟨y0, y1, y2, rfl⟩ := liststn xs (by simpa using hlen)
  have c1 : Try.prog.cellsOf 2 = 1 := by kernel_rfl
  have c2 : Try.prog.cellsOf 22 = 1 := by kernel_rfl
  obtain ⟨x0, e0, q0, w0⟩ := DataW.trod_int (k := .u32) (by exact Try.underlying22) (hF 0 _ rfl)
  subst q0
  simp [Value.cells, c1, c2] at e0
  obtain ⟨x1, e1, q1, w1⟩ := DataW.trod_int (k := .u32) (by exact Try.underlying22) (hF 1 _ rfl)
  subst q1
  simp [Value.cells, c1, c2] at e1
  obtain ⟨x2, e2, q2, w2⟩ := DataW.trod_int (k := .i64) (by exact Try.underlying2) (hF 2 _ rfl)
  subst q2
  simp [Value.cells, c1, c2] at e2
  subst e0 e1 e2
  simp only [Prod.mk.injEq] at hx
  obtain ⟨rfl, rfl⟩ := hx
  exact ⟨ofstn x0 x1 x2, congrArg Value.agg (ofstn_cells x0 x1 x2), rfl, rfl, w0, w1, w2⟩
set_option maxRecDepth 100000 in
theorem shut_stn {H : Type} {enc : TypeId × Value → H} {W : World} {base : Nat} {spare : Nat → Bool} {held : Bool} {f : Nat → Int} (hw : Wstn f) :
    DataW.Trod enc Try.prog W base spare held 26 (.agg (stn f)) (stnRd f) [] := by
  obtain ⟨w0, w1, w2⟩ := hw
  have cT : Try.prog.cellsOf 26 = 3 := by kernel_rfl
  have c1 : Try.prog.cellsOf 2 = 1 := by kernel_rfl
  have c2 : Try.prog.cellsOf 22 = 1 := by kernel_rfl
  unfold stn stnRd
  exact ⟨2, by simp [DataW.trod, Value.cells, Try.underlying26, Try.underlying2, Try.underlying22, cT, c1, c2, w0, w1, w2]⟩
theorem listspn {α : Type} (l : List α) (h : l.length = 2) : ∃ x0 x1, l = [x0, x1] := by
  match l, h with
  | [x0, x1], _ => exact ⟨x0, x1, rfl⟩
def ofspn (x0 x1 : Int) : Nat → Int
  | 0 => x0
  | _ => x1
def spnRd {H : Type} (f : Nat → Int) : DataW H := .agg [.lit (.int .i64 (f 0)), .lit (.int .i64 (f 1))]
def Wspn (f : Nat → Int) : Prop := (Lit.int .i64 (f 0)).wf = true ∧ (Lit.int .i64 (f 1)).wf = true
theorem ofspn_cells (x0 x1 : Int) : #[Value.int .i64 x0, Value.int .i64 x1] = spn (ofspn x0 x1) := by unfold spn; rfl
set_option maxRecDepth 100000 in
set_option maxHeartbeats 1000000 in
theorem open_spn {H : Type} {enc : TypeId × Value → H} {W : World} {base : Nat} {spare : Nat → Bool} {held : Bool} {v : Value} {d : DataW H} {p : List MemPlace}
    (hval : Value.okWide Try.prog W .any base 28 v) (h : DataW.Trod enc Try.prog W 0 spare held 28 v d p) : ∃ f : Nat → Int, v = .agg (spn f) ∧ d = spnRd f ∧ p = [] ∧ Wspn f := by
  obtain ⟨cs, rfl, hsz, _⟩ : ∃ cs, v = .agg cs ∧ cs.size = Try.prog.cellsOf 28 ∧ Row.okWide Try.prog W .any base 28 cs := by
    simpa [Value.okWide, Try.underlying28] using hval
  rw [show Try.prog.cellsOf 28 = 2 by kernel_rfl] at hsz
  obtain ⟨l⟩ := cs
  obtain ⟨c0_, c1_, rfl⟩ := listspn l hsz
  obtain ⟨fuel, hf⟩ := h
  obtain ⟨xs, n, _, hx, hl, hlen, hF⟩ := DataW.trod_struct Try.underlying28 hf
  obtain ⟨y0, y1, rfl⟩ := listspn xs (by simpa using hlen)
  have c1 : Try.prog.cellsOf 2 = 1 := by kernel_rfl
  have c2 : Try.prog.cellsOf 22 = 1 := by kernel_rfl
  obtain ⟨x0, e0, q0, w0⟩ := DataW.trod_int (k := .i64) (by exact Try.underlying2) (hF 0 _ rfl)
  subst q0
  simp [Value.cells, c1, c2] at e0
  obtain ⟨x1, e1, q1, w1⟩ := DataW.trod_int (k := .i64) (by exact Try.underlying2) (hF 1 _ rfl)
  subst q1
  simp [Value.cells, c1, c2] at e1
  subst e0 e1
  simp only [Prod.mk.injEq] at hx
  obtain ⟨rfl, rfl⟩ := hx
  exact ⟨ofspn x0 x1, congrArg Value.agg (ofspn_cells x0 x1), rfl, rfl, w0, w1⟩
set_option maxRecDepth 100000 in
theorem shut_spn {H : Type} {enc : TypeId × Value → H} {W : World} {base : Nat} {spare : Nat → Bool} {held : Bool} {f : Nat → Int} (hw : Wspn f) :
    DataW.Trod enc Try.prog W base spare held 28 (.agg (spn f)) (spnRd f) [] := by
  obtain ⟨w0, w1⟩ := hw
  have cT : Try.prog.cellsOf 28 = 2 := by kernel_rfl
  have c1 : Try.prog.cellsOf 2 = 1 := by kernel_rfl
  have c2 : Try.prog.cellsOf 22 = 1 := by kernel_rfl
  unfold spn spnRd
  exact ⟨2, by simp [DataW.trod, Value.cells, Try.underlying28, Try.underlying2, Try.underlying22, cT, c1, c2, w0, w1]⟩
theorem wfU {a : Int} (h : (Lit.int .u32 a).wf = true) : U32 a := by
  obtain ⟨t, rfl, ht⟩ := wfU32 h
  exact ⟨by omega, by omega⟩
theorem Worb_OO {f : Nat → Int} (h : Worb f) : OO f := by
  obtain ⟨w0, w1, w2, w3, w4, w5, w6, w7⟩ := h
  exact ⟨⟨wfI64 w0, wfI64 w1, wfI64 w2, wfI64 w7⟩, wfU w3, wfU w4, wfU w5, wfU w6⟩
theorem Wstn_SS {f : Nat → Int} (h : Wstn f) : SS f := by
  obtain ⟨w0, w1, w2⟩ := h
  exact ⟨wfU w0, wfU w1, wfI64 w2⟩
end Go.Proofs.Ytnkjbdfhdenbcaa
