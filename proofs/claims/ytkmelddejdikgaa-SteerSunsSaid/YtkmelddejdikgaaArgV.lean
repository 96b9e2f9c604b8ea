/-
  The starts of chapter 26, opened.
-/
import Derived.Test.YtkmelddejdikgaaArg
import Derived.Test.YtkmelddejdikgaaBdD
import Derived.Test.YtkmelddejdikgaaLawVec
import Derived.Test.YtkmelddejdikgaaQEq
set_option linter.unusedSimpArgs false
set_option linter.unusedVariables false
namespace Go.Proofs.Ytkmelddejdikgaa
open Go.ChangeShapes Go.WideShapes Go.ChangeAt Go.RowKit PM Dt
theorem of3_wf {a b c : Int} (ha : I64 a) (hb : I64 b) (hc : I64 c) : ∀ i, i < 3 → I64 (of3 a b c i) := by
  intro i hi
  rcases (show i = 0 ∨ i = 1 ∨ i = 2 by omega) with rfl | rfl | rfl <;> assumption
def Wst6 (x : (Nat → Int) × (Nat → Int) × (Nat → Int) × Int) : Prop := (∀ i, i < 4 → I64 (x.1 i)) ∧ (∀ i, i < 3 → I64 (x.2.1 i)) ∧ (∀ i, i < 4 → I64 (x.2.2.1 i)) ∧ I64 x.2.2.2
theorem list_st6 {α : Type} (l : List α) (h : l.length = 12) : ∃ c0 c1 c2 c3 c4 c5 c6 c7 c8 c9 c10 c11, l = [c0, c1, c2, c3, c4, c5, c6, c7, c8, c9, c10, c11] := by
  match l, h with
  | [c0, c1, c2, c3, c4, c5, c6, c7, c8, c9, c10, c11], _ => exact ⟨c0, c1, c2, c3, c4, c5, c6, c7, c8, c9, c10, c11, rfl⟩
theorem cells_st6 (l : List Value) (hl : l.length = 12) (h : ∀ (i : Nat) (q : Option IntKind), ([some .i64, some .i64, some .i64, some .i64, some .i64, some .i64, some .i64, some .i64, some .i64, some .i64, some .i64, some .i64] : List (Option IntKind))[i]? = some q → ∃ u, l[i]? = some u ∧ okK q u) : ∃ x : (Nat → Int) × (Nat → Int) × (Nat → Int) × Int, l = (stc x).toList ∧ Wst6 x := by
  obtain ⟨c0, c1, c2, c3, c4, c5, c6, c7, c8, c9, c10, c11, rfl⟩ := list_st6 l hl
  obtain ⟨u0, e0, n0, rfl, w0⟩ := h 0 (some .i64) rfl
  cases e0
  obtain ⟨u1, e1, n1, rfl, w1⟩ := h 1 (some .i64) rfl
  cases e1
  obtain ⟨u2, e2, n2, rfl, w2⟩ := h 2 (some .i64) rfl
  cases e2
  obtain ⟨u3, e3, n3, rfl, w3⟩ := h 3 (some .i64) rfl
  cases e3
  obtain ⟨u4, e4, n4, rfl, w4⟩ := h 4 (some .i64) rfl
  cases e4
  obtain ⟨u5, e5, n5, rfl, w5⟩ := h 5 (some .i64) rfl
  cases e5
  obtain ⟨u6, e6, n6, rfl, w6⟩ := h 6 (some .i64) rfl
  cases e6
  obtain ⟨u7, e7, n7, rfl, w7⟩ := h 7 (some .i64) rfl
  cases e7
  obtain ⟨u8, e8, n8, rfl, w8⟩ := h 8 (some .i64) rfl
  cases e8
  obtain ⟨u9, e9, n9, rfl, w9⟩ := h 9 (some .i64) rfl
  cases e9
  obtain ⟨u10, e10, n10, rfl, w10⟩ := h 10 (some .i64) rfl
  cases e10
  obtain ⟨u11, e11, n11, rfl, w11⟩ := h 11 (some .i64) rfl
  cases e11
  exact ⟨((of4 n0 n1 n2 n3), (of3 n4 n5 n6), (of4 n7 n8 n9 n10), n11), by first | rfl | (unfold stc; rfl), ⟨of4_I (wfI64 w0) (wfI64 w1) (wfI64 w2) (wfI64 w3), of3_wf (wfI64 w4) (wfI64 w5) (wfI64 w6), of4_I (wfI64 w7) (wfI64 w8) (wfI64 w9) (wfI64 w10), wfI64 w11⟩⟩
set_option maxRecDepth 100000 in
theorem open_st6 {H : Type} {enc : TypeId × Value → H} {W : World} {base : Nat} {spare : Nat → Bool} {held : Bool} {v : Value} {d : DataW H} {p : List MemPlace}
    (hval : Value.okWide Try.prog W .any base 76 v) (h : DataW.Trod enc Try.prog W 0 spare held 76 v d p) : ∃ x, v = .agg (stc x) ∧ Wst6 x := by
  obtain ⟨cs, rfl, hsz, _⟩ : ∃ cs, v = .agg cs ∧ cs.size = Try.prog.cellsOf 76 ∧ Row.okWide Try.prog W .any base 76 cs := by
    simpa [Value.okWide, Try.underlying76] using hval
  obtain ⟨l⟩ := cs
  obtain ⟨fuel, hf⟩ := h
  rw [show Try.prog.cellsOf 76 = 12 by kernel_rfl] at hsz
  obtain ⟨x, hx, hw⟩ := cells_st6 l hsz (fun i q hq => flat_all (by kernel_rfl) hf i q hq)
  exact ⟨x, congrArg Value.agg (by rw [hx]), hw⟩
def Wvec (x : (Nat → Int)) : Prop := (∀ i, i < 3 → I64 (x i))
theorem list_vec {α : Type} (l : List α) (h : l.length = 3) : ∃ c0 c1 c2, l = [c0, c1, c2] := by
  match l, h with
  | [c0, c1, c2], _ => exact ⟨c0, c1, c2, rfl⟩
theorem cells_vec (l : List Value) (hl : l.length = 3) (h : ∀ (i : Nat) (q : Option IntKind), ([some .i64, some .i64, some .i64] : List (Option IntKind))[i]? = some q → ∃ u, l[i]? = some u ∧ okK q u) : ∃ x : (Nat → Int), l = (vfn x).toList ∧ Wvec x := by
  obtain ⟨c0, c1, c2, rfl⟩ := list_vec l hl
  obtain ⟨u0, e0, n0, rfl, w0⟩ := h 0 (some .i64) rfl
  cases e0
  obtain ⟨u1, e1, n1, rfl, w1⟩ := h 1 (some .i64) rfl
  cases e1
  obtain ⟨u2, e2, n2, rfl, w2⟩ := h 2 (some .i64) rfl
  cases e2
  exact ⟨(of3 n0 n1 n2), by first | rfl | (unfold vfn; rfl), of3_wf (wfI64 w0) (wfI64 w1) (wfI64 w2)⟩
set_option maxRecDepth 100000 in
theorem open_vect {H : Type} {enc : TypeId × Value → H} {W : World} {base : Nat} {spare : Nat → Bool} {held : Bool} {v : Value} {d : DataW H} {p : List MemPlace}
    (hval : Value.okWide Try.prog W .any base 31 v) (h : DataW.Trod enc Try.prog W 0 spare held 31 v d p) : ∃ x, v = .agg (vfn x) ∧ Wvec x := by
  obtain ⟨cs, rfl, hsz, _⟩ : ∃ cs, v = .agg cs ∧ cs.size = Try.prog.cellsOf 31 ∧ Row.okWide Try.prog W .any base 31 cs := by
    simpa [Value.okWide, Try.underlying31] using hval
  obtain ⟨l⟩ := cs
  obtain ⟨fuel, hf⟩ := h
  rw [show Try.prog.cellsOf 31 = 3 by kernel_rfl] at hsz
  obtain ⟨x, hx, hw⟩ := cells_vec l hsz (fun i q hq => flat_all (by kernel_rfl) hf i q hq)
  exact ⟨x, congrArg Value.agg (by rw [hx]), hw⟩
end Go.Proofs.Ytkmelddejdikgaa
