/-
  The parameters of SteerFollows, opened.
-/
import Derived.Test.YtjnocbjngojigaaArg
import Derived.Test.YtjnocbjngojigaaBdD
import Derived.Test.YtjnocbjngojigaaLawVec
import Derived.Test.YtjnocbjngojigaaQEq
import Derived.Test.YtjnocbjngojigaaLpH
set_option linter.unusedSimpArgs false
set_option linter.unusedVariables false
namespace Go.Proofs.Ytjnocbjngojigaa
open Go.ChangeShapes Go.WideShapes Go.ChangeAt Go.RowKit PM Dt
theorem wf8 {a : Int} (h : (Lit.int .u8 a).wf = true) : 0 ≤ a ∧ a ≤ 255 := by
  simp [Lit.wf, IntKind.min, IntKind.max, IntKind.signed, IntKind.bits] at h
  omega
theorem of3_wf {a b c : Int} (ha : I64 a) (hb : I64 b) (hc : I64 c) : ∀ i, i < 3 → I64 (of3 a b c i) := by
  intro i hi
  rcases (show i = 0 ∨ i = 1 ∨ i = 2 by omega) with rfl | rfl | rfl <;> assumption
def Wst6 (x : (Nat → Int) × (Nat → Int) × (Nat → Int) × Int) : Prop := (∀ i, i < 4 → I64 (x.1 i)) ∧ (∀ i, i < 3 → I64 (x.2.1 i)) ∧ (∀ i, i < 4 → I64 (x.2.2.1 i)) ∧ I64 x.2.2.2
theorem list_st6 {α : Type} (l : List α) (h : l.length = 12) : ∃ c0 c1 c2 c3 c4 c5 c6 c7 c8 c9 c10 c11, l = [c0, c1, c2, c3, c4, c5, c6, c7, c8, c9, c10, c11] := by
  match l, h with
  | [c0, c1, c2, c3, c4, c5, c6, c7, c8, c9, c10, c11], _ => exact ⟨c0, c1, c2, c3, c4, c5, c6, c7, c8, c9, c10, c11, rfl⟩
theorem cells_st6 (l : List Value) (hl : l.length = 12) (h : ∀ (i : Nat) (q : Option IntKind), ([some .i64, some .i64, some .i64, some .i64, some .i64, some .i64, some .i64, some .i64, some .i64, some .i64, some .i64, some .i64] : List (Option IntKind))[i]? = some q → ∃ u, l[i]? = some u ∧ okK q u) : ∃ x : (Nat → Int) × (Nat → Int) × (Nat → Int) × Int, l = (stc x).toList ∧ Wst6 x := by
  obtain ⟨c0, c1, c2, c3, c4, c5, c6, c7, c8, c9, c10, c11, rfl⟩ := list_st6 l hl
  obtain ⟨u0, e0, n0, rfl, w0⟩ := h 0 (some .i64) rfl
  cases e0
  obtain ⟨u1, e1, n1, rfl, w1⟩ := h 1 (some .i64) rfl
  cases e1
  obtain ⟨u2, e2, n2, rfl, w2⟩ := h 2 (some .i64) rfl
  cases e2
  obtain ⟨u3, e3, n3, rfl, w3⟩ := h 3 (some .i64) rfl
  cases e3
  obtain ⟨u4, e4, n4, rfl, w4⟩ := h 4 (some .i64) rfl
  cases e4
  obtain ⟨u5, e5, n5, rfl, w5⟩ := h 5 (some .i64) rfl
  cases e5
  obtain ⟨u6, e6, n6, rfl, w6⟩ := h 6 (some .i64) rfl
  cases e6
  obtain ⟨u7, e7, n7, rfl, w7⟩ := h 7 (some .i64) rfl
  cases e7
  obtain ⟨u8, e8, n8, rfl, w8⟩ := h 8 (some .i64) rfl
  cases e8
  obtain ⟨u9, e9, n9, rfl, w9⟩ := h 9 (some .i64) rfl
  cases e9
  obtain ⟨u10, e10, n10, rfl, w10⟩ := h 10 (some .i64) rfl
  cases e10
  obtain ⟨u11, e11, n11, rfl, w11⟩ := h 11 (some .i64) rfl
  cases e11
  exact ⟨((of4 n0 n1 n2 n3), (of3 n4 n5 n6), (of4 n7 n8 n9 n10), n11), by first | rfl | (unfold stc; rfl), ⟨of4_I (wfI64 w0) (wfI64 w1) (wfI64 w2) (wfI64 w3), of3_wf (wfI64 w4) (wfI64 w5) (wfI64 w6), of4_I (wfI64 w7) (wfI64 w8) (wfI64 w9) (wfI64 w10), wfI64 w11⟩⟩
set_option maxRecDepth 100000 in
theorem open_st6 {H : Type} {enc : TypeId × Value → H} {W : World} {base : Nat} {spare : Nat → Bool} {held : Bool} {v : Value} {d : DataW H} {p : List MemPlace}
    (hval : Value.okWide Try.prog W .any base 89 v) (h : DataW.Trod enc Try.prog W 0 spare held 89 v d p) : ∃ x, v = .agg (stc x) ∧ Wst6 x := by
  obtain ⟨cs, rfl, hsz, _⟩ : ∃ cs, v = .agg cs ∧ cs.size = Try.prog.cellsOf 89 ∧ Row.okWide Try.prog W .any base 89 cs := by
    simpa [Value.okWide, Try.underlying89] using hval
  obtain ⟨l⟩ := cs
  obtain ⟨fuel, hf⟩ := h
  rw [show Try.prog.cellsOf 89 = 12 by kernel_rfl] at hsz
  obtain ⟨x, hx, hw⟩ := cells_st6 l hsz (fun i q hq => flat_all (by kernel_rfl) hf i q hq)
  exact ⟨x, congrArg Value.agg (by rw [hx]), hw⟩
def Wtun (x : Int × Int × (Nat → Int)) : Prop := (0 ≤ x.1 ∧ x.1 ≤ 255) ∧ (0 ≤ x.2.1 ∧ x.2.1 ≤ 255) ∧ (∀ i, i < 4 → I64 (x.2.2 i))
theorem list_tun {α : Type} (l : List α) (h : l.length = 6) : ∃ c0 c1 c2 c3 c4 c5, l = [c0, c1, c2, c3, c4, c5] := by
  match l, h with
  | [c0, c1, c2, c3, c4, c5], _ => exact ⟨c0, c1, c2, c3, c4, c5, rfl⟩
theorem cells_tun (l : List Value) (hl : l.length = 6) (h : ∀ (i : Nat) (q : Option IntKind), ([some .u8, some .u8, some .i64, some .i64, some .i64, some .i64] : List (Option IntKind))[i]? = some q → ∃ u, l[i]? = some u ∧ okK q u) : ∃ x : Int × Int × (Nat → Int), l = (tunc x).toList ∧ Wtun x := by
  obtain ⟨c0, c1, c2, c3, c4, c5, rfl⟩ := list_tun l hl
  obtain ⟨u0, e0, n0, rfl, w0⟩ := h 0 (some .u8) rfl
  cases e0
  obtain ⟨u1, e1, n1, rfl, w1⟩ := h 1 (some .u8) rfl
  cases e1
  obtain ⟨u2, e2, n2, rfl, w2⟩ := h 2 (some .i64) rfl
  cases e2
  obtain ⟨u3, e3, n3, rfl, w3⟩ := h 3 (some .i64) rfl
  cases e3
  obtain ⟨u4, e4, n4, rfl, w4⟩ := h 4 (some .i64) rfl
  cases e4
  obtain ⟨u5, e5, n5, rfl, w5⟩ := h 5 (some .i64) rfl
  cases e5
  exact ⟨(n0, n1, (of4 n2 n3 n4 n5)), by first | rfl | (unfold tunc; rfl), ⟨wf8 w0, wf8 w1, of4_I (wfI64 w2) (wfI64 w3) (wfI64 w4) (wfI64 w5)⟩⟩
set_option maxRecDepth 100000 in
theorem open_tuns {H : Type} {enc : TypeId × Value → H} {W : World} {base : Nat} {spare : Nat → Bool} {held : Bool} {v : Value} {d : DataW H} {p : List MemPlace}
    (hval : Value.okWide Try.prog W .any base 98 v) (h : DataW.Trod enc Try.prog W 0 spare held 98 v d p) : ∃ a n cap, v = .slice a n cap ∧ n ≤ maxLen ∧ ∃ M : Nat → Int × Int × (Nat → Int), ElemsA W a n 6 (fun k => (tunc (M k)).toList) ∧ ∀ k, k < n → Wtun (M k) := by
  obtain ⟨a, n, cap, rfl, hc, hm, C, hC, hk⟩ := open_elems (ks := [some .u8, some .u8, some .i64, some .i64, some .i64, some .i64]) Try.underlying98 (by kernel_rfl) (by decide) hval h
  have key : ∀ k, ∃ x, k < n → C k = (tunc x).toList ∧ Wtun x := fun k => by
    by_cases hkn : k < n
    · obtain ⟨x, hx⟩ := cells_tun (C k) (hk k hkn).1 (hk k hkn).2
      exact ⟨x, fun _ => hx⟩
    · exact ⟨(0, 0, fun _ => 0), fun h => absurd h hkn⟩
  obtain ⟨M, hM⟩ := Classical.skolem.1 key
  refine ⟨a, n, cap, rfl, by omega, M, fun k hkn => ?_, fun k hkn => (hM k hkn).2⟩
  show ∃ b off, a = some ⟨b, off, none⟩ ∧ b < W.heap.size ∧ W.rangeAt b (off + k * 6) ((tunc (M k)).toList)
  rw [← (hM k hkn).1]
  exact hC k hkn
def Wvec (x : (Nat → Int)) : Prop := (∀ i, i < 3 → I64 (x i))
theorem list_vec {α : Type} (l : List α) (h : l.length = 3) : ∃ c0 c1 c2, l = [c0, c1, c2] := by
  match l, h with
  | [c0, c1, c2], _ => exact ⟨c0, c1, c2, rfl⟩
theorem cells_vec (l : List Value) (hl : l.length = 3) (h : ∀ (i : Nat) (q : Option IntKind), ([some .i64, some .i64, some .i64] : List (Option IntKind))[i]? = some q → ∃ u, l[i]? = some u ∧ okK q u) : ∃ x : (Nat → Int), l = (vfn x).toList ∧ Wvec x := by
  obtain ⟨c0, c1, c2, rfl⟩ := list_vec l hl
  obtain ⟨u0, e0, n0, rfl, w0⟩ := h 0 (some .i64) rfl
  cases e0
  obtain ⟨u1, e1, n1, rfl, w1⟩ := h 1 (some .i64) rfl
  cases e1
  obtain ⟨u2, e2, n2, rfl, w2⟩ := h 2 (some .i64) rfl
  cases e2
  exact ⟨(of3 n0 n1 n2), by first | rfl | (unfold vfn; rfl), of3_wf (wfI64 w0) (wfI64 w1) (wfI64 w2)⟩
set_option maxRecDepth 100000 in
theorem open_vect {H : Type} {enc : TypeId × Value → H} {W : World} {base : Nat} {spare : Nat → Bool} {held : Bool} {v : Value} {d : DataW H} {p : List MemPlace}
    (hval : Value.okWide Try.prog W .any base 25 v) (h : DataW.Trod enc Try.prog W 0 spare held 25 v d p) : ∃ x, v = .agg (vfn x) ∧ Wvec x := by
  obtain ⟨cs, rfl, hsz, _⟩ : ∃ cs, v = .agg cs ∧ cs.size = Try.prog.cellsOf 25 ∧ Row.okWide Try.prog W .any base 25 cs := by
    simpa [Value.okWide, Try.underlying25] using hval
  obtain ⟨l⟩ := cs
  obtain ⟨fuel, hf⟩ := h
  rw [show Try.prog.cellsOf 25 = 3 by kernel_rfl] at hsz
  obtain ⟨x, hx, hw⟩ := cells_vec l hsz (fun i q hq => flat_all (by kernel_rfl) hf i q hq)
  exact ⟨x, congrArg Value.agg (by rw [hx]), hw⟩
end Go.Proofs.Ytjnocbjngojigaa
