/-
  The parameters of chapter 24, opened.
-/
import Derived.Test.YtjnocbjngojigaaGreatArg
import Derived.Test.YtjnocbjngojigaaGreatBdD
set_option linter.unusedSimpArgs false
set_option linter.unusedVariables false
namespace Go.Proofs.YtjnocbjngojigaaGreat
open Go.ChangeShapes Go.WideShapes Go.ChangeAt Go.RowKit PM Dt
theorem wf8 {a : Int} (h : (Lit.int .u8 a).wf = true) : 0 ≤ a ∧ a ≤ 255 := by
  simp [Lit.wf, IntKind.min, IntKind.max, IntKind.signed, IntKind.bits] at h
  omega
theorem of3_wf {a b c : Int} (ha : I64 a) (hb : I64 b) (hc : I64 c) : ∀ i, i < 3 → I64 (of3 a b c i) := by
  intro i hi
  rcases (show i = 0 ∨ i = 1 ∨ i = 2 by omega) with rfl | rfl | rfl <;> assumption
def Wstc (x : (Nat → Int) × (Nat → Int) × (Nat → Int) × Int) : Prop := (∀ i, i < 4 → I64 (x.1 i)) ∧ (∀ i, i < 3 → I64 (x.2.1 i)) ∧ (∀ i, i < 4 → I64 (x.2.2.1 i)) ∧ I64 x.2.2.2
theorem list_stc {α : Type} (l : List α) (h : l.length = 12) : ∃ c0 c1 c2 c3 c4 c5 c6 c7 c8 c9 c10 c11, l = [c0, c1, c2, c3, c4, c5, c6, c7, c8, c9, c10, c11] := by
  match l, h with
  | [c0, c1, c2, c3, c4, c5, c6, c7, c8, c9, c10, c11], _ => exact ⟨c0, c1, c2, c3, c4, c5, c6, c7, c8, c9, c10, c11, rfl⟩
theorem cells_stc (l : List Value) (hl : l.length = 12) (h : ∀ (i : Nat) (q : Option IntKind), ([some .i64, some .i64, some .i64, some .i64, some .i64, some .i64, some .i64, some .i64, some .i64, some .i64, some .i64, some .i64] : List (Option IntKind))[i]? = some q → ∃ u, l[i]? = some u ∧ okK q u) : ∃ x : (Nat → Int) × (Nat → Int) × (Nat → Int) × Int, l = (stc x).toList ∧ Wstc x := by
  obtain ⟨c0, c1, c2, c3, c4, c5, c6, c7, c8, c9, c10, c11, rfl⟩ := list_stc l hl
  obtain ⟨u0, e0, n0, rfl, w0⟩ := h 0 (some .i64) rfl
  cases e0
  obtain ⟨u1, e1, n1, rfl, w1⟩ := h 1 (some .i64) rfl
  cases e1
  obtain ⟨u2, e2, n2, rfl, w2⟩ := h 2 (some .i64) rfl
  cases e2
  obtain ⟨u3, e3, n3, rfl, w3⟩ := h 3 (some .i64) rfl
  cases e3
  obtain ⟨u4, e4, n4, rfl, w4⟩ := h 4 (some .i64) rfl
  cases e4
  obtain ⟨u5, e5, n5, rfl, w5⟩ := h 5 (some .i64) rfl
  cases e5
  obtain ⟨u6, e6, n6, rfl, w6⟩ := h 6 (some .i64) rfl
  cases e6
  obtain ⟨u7, e7, n7, rfl, w7⟩ := h 7 (some .i64) rfl
  cases e7
  obtain ⟨u8, e8, n8, rfl, w8⟩ := h 8 (some .i64) rfl
  cases e8
  obtain ⟨u9, e9, n9, rfl, w9⟩ := h 9 (some .i64) rfl
  cases e9
  obtain ⟨u10, e10, n10, rfl, w10⟩ := h 10 (some .i64) rfl
  cases e10
  obtain ⟨u11, e11, n11, rfl, w11⟩ := h 11 (some .i64) rfl
  cases e11
  exact ⟨((of4 n0 n1 n2 n3), (of3 n4 n5 n6), (of4 n7 n8 n9 n10), n11), by first | rfl | (unfold stc; rfl), ⟨of4_I (wfI64 w0) (wfI64 w1) (wfI64 w2) (wfI64 w3), of3_wf (wfI64 w4) (wfI64 w5) (wfI64 w6), of4_I (wfI64 w7) (wfI64 w8) (wfI64 w9) (wfI64 w10), wfI64 w11⟩⟩
set_option maxRecDepth 100000 in
theorem open_stc {H : Type} {enc : TypeId × Value → H} {W : World} {base : Nat} {spare : Nat → Bool} {held : Bool} {v : Value} {d : DataW H} {p : List MemPlace}
    (hval : Value.okWide Tryz.prog W .any base 46 v) (h : DataW.Trod enc Tryz.prog W 0 spare held 46 v d p) : ∃ x, v = .agg (stc x) ∧ Wstc x := by
  obtain ⟨cs, rfl, hsz, _⟩ : ∃ cs, v = .agg cs ∧ cs.size = Tryz.prog.cellsOf 46 ∧ Row.okWide Tryz.prog W .any base 46 cs := by
    simpa [Value.okWide, Tryz.underlying46] using hval
  obtain ⟨l⟩ := cs
  obtain ⟨fuel, hf⟩ := h
  rw [show Tryz.prog.cellsOf 46 = 12 by kernel_rfl] at hsz
  obtain ⟨x, hx, hw⟩ := cells_stc l hsz (fun i q hq => flat_all (by kernel_rfl) hf i q hq)
  exact ⟨x, congrArg Value.agg (by rw [hx]), hw⟩
def Wact (x : Int × (Nat → Int) × (Nat → Int) × Int) : Prop := (0 ≤ x.1 ∧ x.1 ≤ 255) ∧ (∀ i, i < 4 → I64 (x.2.1 i)) ∧ (∀ i, i < 3 → I64 (x.2.2.1 i)) ∧ I64 x.2.2.2
theorem list_act {α : Type} (l : List α) (h : l.length = 9) : ∃ c0 c1 c2 c3 c4 c5 c6 c7 c8, l = [c0, c1, c2, c3, c4, c5, c6, c7, c8] := by
  match l, h with
  | [c0, c1, c2, c3, c4, c5, c6, c7, c8], _ => exact ⟨c0, c1, c2, c3, c4, c5, c6, c7, c8, rfl⟩
theorem cells_act (l : List Value) (hl : l.length = 9) (h : ∀ (i : Nat) (q : Option IntKind), ([some .u8, some .i64, some .i64, some .i64, some .i64, some .i64, some .i64, some .i64, some .i64] : List (Option IntKind))[i]? = some q → ∃ u, l[i]? = some u ∧ okK q u) : ∃ x : Int × (Nat → Int) × (Nat → Int) × Int, l = (actc x).toList ∧ Wact x := by
  obtain ⟨c0, c1, c2, c3, c4, c5, c6, c7, c8, rfl⟩ := list_act l hl
  obtain ⟨u0, e0, n0, rfl, w0⟩ := h 0 (some .u8) rfl
  cases e0
  obtain ⟨u1, e1, n1, rfl, w1⟩ := h 1 (some .i64) rfl
  cases e1
  obtain ⟨u2, e2, n2, rfl, w2⟩ := h 2 (some .i64) rfl
  cases e2
  obtain ⟨u3, e3, n3, rfl, w3⟩ := h 3 (some .i64) rfl
  cases e3
  obtain ⟨u4, e4, n4, rfl, w4⟩ := h 4 (some .i64) rfl
  cases e4
  obtain ⟨u5, e5, n5, rfl, w5⟩ := h 5 (some .i64) rfl
  cases e5
  obtain ⟨u6, e6, n6, rfl, w6⟩ := h 6 (some .i64) rfl
  cases e6
  obtain ⟨u7, e7, n7, rfl, w7⟩ := h 7 (some .i64) rfl
  cases e7
  obtain ⟨u8, e8, n8, rfl, w8⟩ := h 8 (some .i64) rfl
  cases e8
  exact ⟨(n0, (of4 n1 n2 n3 n4), (of3 n5 n6 n7), n8), by first | rfl | (unfold actc; rfl), ⟨wf8 w0, of4_I (wfI64 w1) (wfI64 w2) (wfI64 w3) (wfI64 w4), of3_wf (wfI64 w5) (wfI64 w6) (wfI64 w7), wfI64 w8⟩⟩
set_option maxRecDepth 100000 in
theorem open_acts {H : Type} {enc : TypeId × Value → H} {W : World} {base : Nat} {spare : Nat → Bool} {held : Bool} {v : Value} {d : DataW H} {p : List MemPlace}
    (hval : Value.okWide Tryz.prog W .any base 47 v) (h : DataW.Trod enc Tryz.prog W 0 spare held 47 v d p) : ∃ a n cap, v = .slice a n cap ∧ n ≤ maxLen ∧ ∃ M : Nat → Int × (Nat → Int) × (Nat → Int) × Int, ElemsA W a n 9 (fun k => (actc (M k)).toList) ∧ ∀ k, k < n → Wact (M k) := by
  obtain ⟨a, n, cap, rfl, hc, hm, C, hC, hk⟩ := open_elems (ks := [some .u8, some .i64, some .i64, some .i64, some .i64, some .i64, some .i64, some .i64, some .i64]) Tryz.underlying47 (by kernel_rfl) (by decide) hval h
  have key : ∀ k, ∃ x, k < n → C k = (actc x).toList ∧ Wact x := fun k => by
    by_cases hkn : k < n
    · obtain ⟨x, hx⟩ := cells_act (C k) (hk k hkn).1 (hk k hkn).2
      exact ⟨x, fun _ => hx⟩
    · exact ⟨(0, fun _ => 0, fun _ => 0, 0), fun h => absurd h hkn⟩
  obtain ⟨M, hM⟩ := Classical.skolem.1 key
  refine ⟨a, n, cap, rfl, by omega, M, fun k hkn => ?_, fun k hkn => (hM k hkn).2⟩
  show ∃ b off, a = some ⟨b, off, none⟩ ∧ b < W.heap.size ∧ W.rangeAt b (off + k * 9) ((actc (M k)).toList)
  rw [← (hM k hkn).1]
  exact hC k hkn
end Go.Proofs.YtjnocbjngojigaaGreat
