/-
  The parameters of chapter 26, opened.
-/
import Derived.Test.YtkmelddejdikgaaGreatArg
import Derived.Test.YtkmelddejdikgaaGreatStP
import Derived.Test.YtkmelddejdikgaaGreatLawVec
import Derived.Test.YtkmelddejdikgaaGreatQEq
set_option linter.unusedSimpArgs false
set_option linter.unusedVariables false
namespace Go.Proofs.YtkmelddejdikgaaGreat
open Go.ChangeShapes Go.WideShapes Go.ChangeAt Go.RowKit PM Dt
theorem wf8 {a : Int} (h : (Lit.int .u8 a).wf = true) : 0 ≤ a ∧ a ≤ 255 := by
 simp [Lit.wf, IntKind.min, IntKind.max, IntKind.signed, IntKind.bits] at h
 omega
theorem of3_wf {a b c : Int} (ha : I64 a) (hb : I64 b) (hc : I64 c) : ∀ i, i < 3 → I64 (of3 a b c i) := by
 intro i hi
 rcases (show i = 0 ∨ i = 1 ∨ i = 2 by omega) with rfl | rfl | rfl <;> assumption
def Wa26 (x : Int × (Nat → Int) × (Nat → Int) × Int × (Nat → Int) × (Nat → Int) × (Nat → Int)) : Prop := (0 ≤ x.1 ∧ x.1 ≤ 255) ∧ (∀ i, i < 3 → I64 (x.2.1 i)) ∧ (∀ i, i < 4 → I64 (x.2.2.1 i)) ∧ I64 x.2.2.2.1 ∧ (∀ i, i < 3 → I64 (x.2.2.2.2.1 i)) ∧ (∀ i, i < 4 → I64 (x.2.2.2.2.2.1 i)) ∧ (∀ i, i < 4 → I64 (x.2.2.2.2.2.2 i))
theorem list_a26 {α : Type} (l : List α) (h : l.length = 20) : ∃ c0 c1 c2 c3 c4 c5 c6 c7 c8 c9 c10 c11 c12 c13 c14 c15 c16 c17 c18 c19, l = [c0, c1, c2, c3, c4, c5, c6, c7, c8, c9, c10, c11, c12, c13, c14, c15, c16, c17, c18, c19] := by
 match l, h with
 | [c0, c1, c2, c3, c4, c5, c6, c7, c8, c9, c10, c11, c12, c13, c14, c15, c16, c17, c18, c19], _ => exact ⟨c0, c1, c2, c3, c4, c5, c6, c7, c8, c9, c10, c11, c12, c13, c14, c15, c16, c17, c18, c19, rfl⟩
theorem cells_a26 (l : List Value) (hl : l.length = 20) (h : ∀ (i : Nat) (q : Option IntKind), ([some .u8, some .i64, some .i64, some .i64, some .i64, some .i64, some .i64, some .i64, some .i64, some .i64, some .i64, some .i64, some .i64, some .i64, some .i64, some .i64, some .i64, some .i64, some .i64, some .i64] : List (Option IntKind))[i]? = some q → ∃ u, l[i]? = some u ∧ okK q u) : ∃ x : Int × (Nat → Int) × (Nat → Int) × Int × (Nat → Int) × (Nat → Int) × (Nat → Int), l = (a26p x).toList ∧ Wa26 x := by
 obtain ⟨c0, c1, c2, c3, c4, c5, c6, c7, c8, c9, c10, c11, c12, c13, c14, c15, c16, c17, c18, c19, rfl⟩ := list_a26 l hl
 obtain ⟨u0, e0, n0, rfl, w0⟩ := h 0 (some .u8) rfl
 cases e0
 obtain ⟨u1, e1, n1, rfl, w1⟩ := h 1 (some .i64) rfl
 cases e1
 obtain ⟨u2, e2, n2, rfl, w2⟩ := h 2 (some .i64) rfl
 cases e2
 obtain ⟨u3, e3, n3, rfl, w3⟩ := h 3 (some .i64) rfl
 cases e3
 obtain ⟨u4, e4, n4, rfl, w4⟩ := h 4 (some .i64) rfl
 cases e4
 obtain ⟨u5, e5, n5, rfl, w5⟩ := h 5 (some .i64) rfl
 cases e5
 obtain ⟨u6, e6, n6, rfl, w6⟩ := h 6 (some .i64) rfl
 cases e6
 obtain ⟨u7, e7, n7, rfl, w7⟩ := h 7 (some .i64) rfl
 cases e7
 obtain ⟨u8, e8, n8, rfl, w8⟩ := h 8 (some .i64) rfl
 cases e8
 obtain ⟨u9, e9, n9, rfl, w9⟩ := h 9 (some .i64) rfl
 cases e9
 obtain ⟨u10, e10, n10, rfl, w10⟩ := h 10 (some .i64) rfl
 cases e10
 obtain ⟨u11, e11, n11, rfl, w11⟩ := h 11 (some .i64) rfl
 cases e11
 obtain ⟨u12, e12, n12, rfl, w12⟩ := h 12 (some .i64) rfl
 cases e12
 obtain ⟨u13, e13, n13, rfl, w13⟩ := h 13 (some .i64) rfl
 cases e13
 obtain ⟨u14, e14, n14, rfl, w14⟩ := h 14 (some .i64) rfl
 cases e14
 obtain ⟨u15, e15, n15, rfl, w15⟩ := h 15 (some .i64) rfl
 cases e15
 obtain ⟨u16, e16, n16, rfl, w16⟩ := h 16 (some .i64) rfl
 cases e16
 obtain ⟨u17, e17, n17, rfl, w17⟩ := h 17 (some .i64) rfl
 cases e17
 obtain ⟨u18, e18, n18, rfl, w18⟩ := h 18 (some .i64) rfl
 cases e18
 obtain ⟨u19, e19, n19, rfl, w19⟩ := h 19 (some .i64) rfl
 cases e19
 exact ⟨(n0, (of3 n1 n2 n3), (of4 n4 n5 n6 n7), n8, (of3 n9 n10 n11), (of4 n12 n13 n14 n15), (of4 n16 n17 n18 n19)), by first | rfl | (unfold a26p; rfl), ⟨wf8 w0, of3_wf (wfI64 w1) (wfI64 w2) (wfI64 w3), of4_I (wfI64 w4) (wfI64 w5) (wfI64 w6) (wfI64 w7), wfI64 w8, of3_wf (wfI64 w9) (wfI64 w10) (wfI64 w11), of4_I (wfI64 w12) (wfI64 w13) (wfI64 w14) (wfI64 w15), of4_I (wfI64 w16) (wfI64 w17) (wfI64 w18) (wfI64 w19)⟩⟩
set_option maxRecDepth 100000 in
theorem open_a26s {H : Type} {enc : TypeId × Value → H} {W : World} {base : Nat} {spare : Nat → Bool} {held : Bool} {v : Value} {d : DataW H} {p : List MemPlace}
 (hval : Value.okWide Tryz.prog W .any base 22 v) (h : DataW.Trod enc Tryz.prog W 0 spare held 22 v d p) : ∃ a n cap, v = .slice a n cap ∧ n ≤ maxLen ∧ ∃ M : Nat → Int × (Nat → Int) × (Nat → Int) × Int × (Nat → Int) × (Nat → Int) × (Nat → Int), ElemsA W a n 20 (fun k => (a26p (M k)).toList) ∧ ∀ k, k < n → Wa26 (M k) := by
 obtain ⟨a, n, cap, rfl, hc, hm, C, hC, hk⟩ := open_elems (ks := [some .u8, some .i64, some .i64, some .i64, some .i64, some .i64, some .i64, some .i64, some .i64, some .i64, some .i64, some .i64, some .i64, some .i64, some .i64, some .i64, some .i64, some .i64, some .i64, some .i64]) Tryz.underlying22 (by kernel_rfl) (by decide) hval h
 have key : ∀ k, ∃ x, k < n → C k = (a26p x).toList ∧ Wa26 x := fun k => by
  by_cases hkn : k < n
  ·obtain ⟨x, hx⟩ := cells_a26 (C k) (hk k hkn).1 (hk k hkn).2
   exact ⟨x, fun _ => hx⟩
  ·exact ⟨(0, fun _ => 0, fun _ => 0, 0, fun _ => 0, fun _ => 0, fun _ => 0), fun h => absurd h hkn⟩
 obtain ⟨M, hM⟩ := Classical.skolem.1 key
 refine ⟨a, n, cap, rfl, by omega, M, fun k hkn => ?_, fun k hkn => (hM k hkn).2⟩
 show ∃ b off, a = some ⟨b, off, none⟩ ∧ b < W.heap.size ∧ W.rangeAt b (off + k * 20) ((a26p (M k)).toList)
 rw [← (hM k hkn).1]
 exact hC k hkn
end Go.Proofs.YtkmelddejdikgaaGreat
