/-
  The parameters of chapter 21, opened.
-/
import Derived.Test.YtkmelddejdikgaaArg
import Derived.Test.YtkmelddejdikgaaFlC
set_option linter.unusedSimpArgs false
set_option linter.unusedVariables false
namespace Go.Proofs.Ytkmelddejdikgaa
open Go.ChangeShapes Go.WideShapes Go.ChangeAt Go.RowKit PM Dt
theorem of3_wf {a b c : Int} (ha : I64 a) (hb : I64 b) (hc : I64 c) : ∀ i, i < 3 → I64 (of3 a b c i) := by
  intro i hi
  rcases (show i = 0 ∨ i = 1 ∨ i = 2 by omega) with rfl | rfl | rfl <;> assumption
def Wvec (x : (Nat → Int)) : Prop := (∀ i, i < 3 → I64 (x i))
theorem list_vec {α : Type} (l : List α) (h : l.length = 3) : ∃ c0 c1 c2, l = [c0, c1, c2] := by
  match l, h with
  | [c0, c1, c2], _ => exact ⟨c0, c1, c2, rfl⟩
theorem cells_vec (l : List Value) (hl : l.length = 3) (h : ∀ (i : Nat) (q : Option IntKind), ([some .i64, some .i64, some .i64] : List (Option IntKind))[i]? = some q → ∃ u, l[i]? = some u ∧ okK q u) : ∃ x : (Nat → Int), l = (vfn x).toList ∧ Wvec x := by
  obtain ⟨c0, c1, c2, rfl⟩ := list_vec l hl
  obtain ⟨u0, e0, n0, rfl, w0⟩ := h 0 (some .i64) rfl
  cases e0
  obtain ⟨u1, e1, n1, rfl, w1⟩ := h 1 (some .i64) rfl
  cases e1
  obtain ⟨u2, e2, n2, rfl, w2⟩ := h 2 (some .i64) rfl
  cases e2
  exact ⟨(of3 n0 n1 n2), by first | rfl | (unfold vfn; rfl), of3_wf (wfI64 w0) (wfI64 w1) (wfI64 w2)⟩
set_option maxRecDepth 100000 in
theorem open_vect {H : Type} {enc : TypeId × Value → H} {W : World} {base : Nat} {spare : Nat → Bool} {held : Bool} {v : Value} {d : DataW H} {p : List MemPlace}
    (hval : Value.okWide Try.prog W .any base 31 v) (h : DataW.Trod enc Try.prog W 0 spare held 31 v d p) : ∃ x, v = .agg (vfn x) ∧ Wvec x := by
  obtain ⟨cs, rfl, hsz, _⟩ : ∃ cs, v = .agg cs ∧ cs.size = Try.prog.cellsOf 31 ∧ Row.okWide Try.prog W .any base 31 cs := by
    simpa [Value.okWide, Try.underlying31] using hval
  obtain ⟨l⟩ := cs
  obtain ⟨fuel, hf⟩ := h
  rw [show Try.prog.cellsOf 31 = 3 by kernel_rfl] at hsz
  obtain ⟨x, hx, hw⟩ := cells_vec l hsz (fun i q hq => flat_all (by kernel_rfl) hf i q hq)
  exact ⟨x, congrArg Value.agg (by rw [hx]), hw⟩
def Wquat (x : (Nat → Int)) : Prop := (∀ i, i < 4 → I64 (x i))
theorem list_quat {α : Type} (l : List α) (h : l.length = 4) : ∃ c0 c1 c2 c3, l = [c0, c1, c2, c3] := by
  match l, h with
  | [c0, c1, c2, c3], _ => exact ⟨c0, c1, c2, c3, rfl⟩
theorem cells_quat (l : List Value) (hl : l.length = 4) (h : ∀ (i : Nat) (q : Option IntKind), ([some .i64, some .i64, some .i64, some .i64] : List (Option IntKind))[i]? = some q → ∃ u, l[i]? = some u ∧ okK q u) : ∃ x : (Nat → Int), l = (qfn x).toList ∧ Wquat x := by
  obtain ⟨c0, c1, c2, c3, rfl⟩ := list_quat l hl
  obtain ⟨u0, e0, n0, rfl, w0⟩ := h 0 (some .i64) rfl
  cases e0
  obtain ⟨u1, e1, n1, rfl, w1⟩ := h 1 (some .i64) rfl
  cases e1
  obtain ⟨u2, e2, n2, rfl, w2⟩ := h 2 (some .i64) rfl
  cases e2
  obtain ⟨u3, e3, n3, rfl, w3⟩ := h 3 (some .i64) rfl
  cases e3
  exact ⟨(of4 n0 n1 n2 n3), by first | rfl | (unfold qfn; rfl), of4_I (wfI64 w0) (wfI64 w1) (wfI64 w2) (wfI64 w3)⟩
set_option maxRecDepth 100000 in
theorem open_quate {H : Type} {enc : TypeId × Value → H} {W : World} {base : Nat} {spare : Nat → Bool} {held : Bool} {v : Value} {d : DataW H} {p : List MemPlace}
    (hval : Value.okWide Try.prog W .any base 23 v) (h : DataW.Trod enc Try.prog W 0 spare held 23 v d p) : ∃ x, v = .agg (qfn x) ∧ Wquat x := by
  obtain ⟨cs, rfl, hsz, _⟩ : ∃ cs, v = .agg cs ∧ cs.size = Try.prog.cellsOf 23 ∧ Row.okWide Try.prog W .any base 23 cs := by
    simpa [Value.okWide, Try.underlying23] using hval
  obtain ⟨l⟩ := cs
  obtain ⟨fuel, hf⟩ := h
  rw [show Try.prog.cellsOf 23 = 4 by kernel_rfl] at hsz
  obtain ⟨x, hx, hw⟩ := cells_quat l hsz (fun i q hq => flat_all (by kernel_rfl) hf i q hq)
  exact ⟨x, congrArg Value.agg (by rw [hx]), hw⟩
end Go.Proofs.Ytkmelddejdikgaa
