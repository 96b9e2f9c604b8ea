/-
  The parameters of chapter 21, opened.
-/
import Derived.Test.YtnkjbdfhdenbcaaArg
import Derived.Test.YtnkjbdfhdenbcaaGyN
set_option linter.unusedSimpArgs false
set_option linter.unusedVariables false
namespace Go.Proofs.Ytnkjbdfhdenbcaa
open Go.ChangeShapes Go.WideShapes Go.ChangeAt Go.RowKit PM Dt
theorem wf8 {a : Int} (h : (Lit.int .u8 a).wf = true) : 0 ≤ a ∧ a ≤ 255 := by
  simp [Lit.wf, IntKind.min, IntKind.max, IntKind.signed, IntKind.bits] at h
  omega
theorem wf32 {a : Int} (h : (Lit.int .u32 a).wf = true) : 0 ≤ a ∧ a ≤ 4294967295 := by
  simp [Lit.wf, IntKind.min, IntKind.max, IntKind.signed, IntKind.bits] at h
  omega
theorem of3_wf {a b c : Int} (ha : I64 a) (hb : I64 b) (hc : I64 c) : ∀ i, i < 3 → I64 (of3 a b c i) := by
  intro i hi
  rcases (show i = 0 ∨ i = 1 ∨ i = 2 by omega) with rfl | rfl | rfl <;> assumption
def Wmot (x : Bool × (Nat → Int) × (Nat → Int)) : Prop := (∀ i, i < 3 → I64 (x.2.1 i)) ∧ (∀ i, i < 3 → I64 (x.2.2 i))
theorem list_mot {α : Type} (l : List α) (h : l.length = 7) : ∃ c0 c1 c2 c3 c4 c5 c6, l = [c0, c1, c2, c3, c4, c5, c6] := by
  match l, h with
  | [c0, c1, c2, c3, c4, c5, c6], _ => exact ⟨c0, c1, c2, c3, c4, c5, c6, rfl⟩
theorem cells_mot (l : List Value) (hl : l.length = 7) (h : ∀ (i : Nat) (q : Option IntKind), ([none, some .i64, some .i64, some .i64, some .i64, some .i64, some .i64] : List (Option IntKind))[i]? = some q → ∃ u, l[i]? = some u ∧ okK q u) : ∃ x : Bool × (Nat → Int) × (Nat → Int), l = (mot x).toList ∧ Wmot x := by
  obtain ⟨c0, c1, c2, c3, c4, c5, c6, rfl⟩ := list_mot l hl
  obtain ⟨u0, e0, b0, rfl⟩ := h 0 none rfl
  cases e0
  obtain ⟨u1, e1, n1, rfl, w1⟩ := h 1 (some .i64) rfl
  cases e1
  obtain ⟨u2, e2, n2, rfl, w2⟩ := h 2 (some .i64) rfl
  cases e2
  obtain ⟨u3, e3, n3, rfl, w3⟩ := h 3 (some .i64) rfl
  cases e3
  obtain ⟨u4, e4, n4, rfl, w4⟩ := h 4 (some .i64) rfl
  cases e4
  obtain ⟨u5, e5, n5, rfl, w5⟩ := h 5 (some .i64) rfl
  cases e5
  obtain ⟨u6, e6, n6, rfl, w6⟩ := h 6 (some .i64) rfl
  cases e6
  exact ⟨(b0, (of3 n1 n2 n3), (of3 n4 n5 n6)), by first | rfl | (unfold mot; rfl), ⟨of3_wf (wfI64 w1) (wfI64 w2) (wfI64 w3), of3_wf (wfI64 w4) (wfI64 w5) (wfI64 w6)⟩⟩
set_option maxRecDepth 100000 in
theorem open_mot {H : Type} {enc : TypeId × Value → H} {W : World} {base : Nat} {spare : Nat → Bool} {held : Bool} {v : Value} {d : DataW H} {p : List MemPlace}
    (hval : Value.okWide Try.prog W .any base 66 v) (h : DataW.Trod enc Try.prog W 0 spare held 66 v d p) : ∃ x, v = .agg (mot x) ∧ Wmot x := by
  obtain ⟨cs, rfl, hsz, _⟩ : ∃ cs, v = .agg cs ∧ cs.size = Try.prog.cellsOf 66 ∧ Row.okWide Try.prog W .any base 66 cs := by
    simpa [Value.okWide, Try.underlying66] using hval
  obtain ⟨l⟩ := cs
  obtain ⟨fuel, hf⟩ := h
  rw [show Try.prog.cellsOf 66 = 7 by kernel_rfl] at hsz
  obtain ⟨x, hx, hw⟩ := cells_mot l hsz (fun i q hq => flat_all (by kernel_rfl) hf i q hq)
  exact ⟨x, congrArg Value.agg (by rw [hx]), hw⟩
set_option maxRecDepth 100000 in
theorem open_mots {H : Type} {enc : TypeId × Value → H} {W : World} {base : Nat} {spare : Nat → Bool} {held : Bool} {v : Value} {d : DataW H} {p : List MemPlace}
    (hval : Value.okWide Try.prog W .any base 57 v) (h : DataW.Trod enc Try.prog W 0 spare held 57 v d p) : ∃ a n cap, v = .slice a n cap ∧ n ≤ maxLen ∧ ∃ M : Nat → Bool × (Nat → Int) × (Nat → Int), ElemsA W a n 7 (fun k => (mot (M k)).toList) ∧ ∀ k, k < n → Wmot (M k) := by
  obtain ⟨a, n, cap, rfl, hc, hm, C, hC, hk⟩ := open_elems (ks := [none, some .i64, some .i64, some .i64, some .i64, some .i64, some .i64]) Try.underlying57 (by kernel_rfl) (by decide) hval h
  have key : ∀ k, ∃ x, k < n → C k = (mot x).toList ∧ Wmot x := fun k => by
    by_cases hkn : k < n
    · obtain ⟨x, hx⟩ := cells_mot (C k) (hk k hkn).1 (hk k hkn).2
      exact ⟨x, fun _ => hx⟩
    · exact ⟨(false, fun _ => 0, fun _ => 0), fun h => absurd h hkn⟩
  obtain ⟨M, hM⟩ := Classical.skolem.1 key
  refine ⟨a, n, cap, rfl, by omega, M, fun k hkn => ?_, fun k hkn => (hM k hkn).2⟩
  show ∃ b off, a = some ⟨b, off, none⟩ ∧ b < W.heap.size ∧ W.rangeAt b (off + k * 7) ((mot (M k)).toList)
  rw [← (hM k hkn).1]
  exact hC k hkn
def Wlok (x : Bool × (Nat → Int) × (Nat → Int)) : Prop := (∀ i, i < 3 → I64 (x.2.1 i)) ∧ (∀ i, i < 4 → I64 (x.2.2 i))
theorem list_lok {α : Type} (l : List α) (h : l.length = 8) : ∃ c0 c1 c2 c3 c4 c5 c6 c7, l = [c0, c1, c2, c3, c4, c5, c6, c7] := by
  match l, h with
  | [c0, c1, c2, c3, c4, c5, c6, c7], _ => exact ⟨c0, c1, c2, c3, c4, c5, c6, c7, rfl⟩
theorem cells_lok (l : List Value) (hl : l.length = 8) (h : ∀ (i : Nat) (q : Option IntKind), ([none, some .i64, some .i64, some .i64, some .i64, some .i64, some .i64, some .i64] : List (Option IntKind))[i]? = some q → ∃ u, l[i]? = some u ∧ okK q u) : ∃ x : Bool × (Nat → Int) × (Nat → Int), l = (lok x).toList ∧ Wlok x := by
  obtain ⟨c0, c1, c2, c3, c4, c5, c6, c7, rfl⟩ := list_lok l hl
  obtain ⟨u0, e0, b0, rfl⟩ := h 0 none rfl
  cases e0
  obtain ⟨u1, e1, n1, rfl, w1⟩ := h 1 (some .i64) rfl
  cases e1
  obtain ⟨u2, e2, n2, rfl, w2⟩ := h 2 (some .i64) rfl
  cases e2
  obtain ⟨u3, e3, n3, rfl, w3⟩ := h 3 (some .i64) rfl
  cases e3
  obtain ⟨u4, e4, n4, rfl, w4⟩ := h 4 (some .i64) rfl
  cases e4
  obtain ⟨u5, e5, n5, rfl, w5⟩ := h 5 (some .i64) rfl
  cases e5
  obtain ⟨u6, e6, n6, rfl, w6⟩ := h 6 (some .i64) rfl
  cases e6
  obtain ⟨u7, e7, n7, rfl, w7⟩ := h 7 (some .i64) rfl
  cases e7
  exact ⟨(b0, (of3 n1 n2 n3), (of4 n4 n5 n6 n7)), by first | rfl | (unfold lok; rfl), ⟨of3_wf (wfI64 w1) (wfI64 w2) (wfI64 w3), of4_I (wfI64 w4) (wfI64 w5) (wfI64 w6) (wfI64 w7)⟩⟩
set_option maxRecDepth 100000 in
theorem open_lok {H : Type} {enc : TypeId × Value → H} {W : World} {base : Nat} {spare : Nat → Bool} {held : Bool} {v : Value} {d : DataW H} {p : List MemPlace}
    (hval : Value.okWide Try.prog W .any base 78 v) (h : DataW.Trod enc Try.prog W 0 spare held 78 v d p) : ∃ x, v = .agg (lok x) ∧ Wlok x := by
  obtain ⟨cs, rfl, hsz, _⟩ : ∃ cs, v = .agg cs ∧ cs.size = Try.prog.cellsOf 78 ∧ Row.okWide Try.prog W .any base 78 cs := by
    simpa [Value.okWide, Try.underlying78] using hval
  obtain ⟨l⟩ := cs
  obtain ⟨fuel, hf⟩ := h
  rw [show Try.prog.cellsOf 78 = 8 by kernel_rfl] at hsz
  obtain ⟨x, hx, hw⟩ := cells_lok l hsz (fun i q hq => flat_all (by kernel_rfl) hf i q hq)
  exact ⟨x, congrArg Value.agg (by rw [hx]), hw⟩
set_option maxRecDepth 100000 in
theorem open_loks {H : Type} {enc : TypeId × Value → H} {W : World} {base : Nat} {spare : Nat → Bool} {held : Bool} {v : Value} {d : DataW H} {p : List MemPlace}
    (hval : Value.okWide Try.prog W .any base 72 v) (h : DataW.Trod enc Try.prog W 0 spare held 72 v d p) : ∃ a n cap, v = .slice a n cap ∧ n ≤ maxLen ∧ ∃ M : Nat → Bool × (Nat → Int) × (Nat → Int), ElemsA W a n 8 (fun k => (lok (M k)).toList) ∧ ∀ k, k < n → Wlok (M k) := by
  obtain ⟨a, n, cap, rfl, hc, hm, C, hC, hk⟩ := open_elems (ks := [none, some .i64, some .i64, some .i64, some .i64, some .i64, some .i64, some .i64]) Try.underlying72 (by kernel_rfl) (by decide) hval h
  have key : ∀ k, ∃ x, k < n → C k = (lok x).toList ∧ Wlok x := fun k => by
    by_cases hkn : k < n
    · obtain ⟨x, hx⟩ := cells_lok (C k) (hk k hkn).1 (hk k hkn).2
      exact ⟨x, fun _ => hx⟩
    · exact ⟨(false, fun _ => 0, fun _ => 0), fun h => absurd h hkn⟩
  obtain ⟨M, hM⟩ := Classical.skolem.1 key
  refine ⟨a, n, cap, rfl, by omega, M, fun k hkn => ?_, fun k hkn => (hM k hkn).2⟩
  show ∃ b off, a = some ⟨b, off, none⟩ ∧ b < W.heap.size ∧ W.rangeAt b (off + k * 8) ((lok (M k)).toList)
  rw [← (hM k hkn).1]
  exact hC k hkn
def Wvec (x : (Nat → Int)) : Prop := (∀ i, i < 3 → I64 (x i))
theorem list_vec {α : Type} (l : List α) (h : l.length = 3) : ∃ c0 c1 c2, l = [c0, c1, c2] := by
  match l, h with
  | [c0, c1, c2], _ => exact ⟨c0, c1, c2, rfl⟩
theorem cells_vec (l : List Value) (hl : l.length = 3) (h : ∀ (i : Nat) (q : Option IntKind), ([some .i64, some .i64, some .i64] : List (Option IntKind))[i]? = some q → ∃ u, l[i]? = some u ∧ okK q u) : ∃ x : (Nat → Int), l = (vfn x).toList ∧ Wvec x := by
  obtain ⟨c0, c1, c2, rfl⟩ := list_vec l hl
  obtain ⟨u0, e0, n0, rfl, w0⟩ := h 0 (some .i64) rfl
  cases e0
  obtain ⟨u1, e1, n1, rfl, w1⟩ := h 1 (some .i64) rfl
  cases e1
  obtain ⟨u2, e2, n2, rfl, w2⟩ := h 2 (some .i64) rfl
  cases e2
  exact ⟨(of3 n0 n1 n2), by first | rfl | (unfold vfn; rfl), of3_wf (wfI64 w0) (wfI64 w1) (wfI64 w2)⟩
set_option maxRecDepth 100000 in
theorem open_vect {H : Type} {enc : TypeId × Value → H} {W : World} {base : Nat} {spare : Nat → Bool} {held : Bool} {v : Value} {d : DataW H} {p : List MemPlace}
    (hval : Value.okWide Try.prog W .any base 39 v) (h : DataW.Trod enc Try.prog W 0 spare held 39 v d p) : ∃ x, v = .agg (vfn x) ∧ Wvec x := by
  obtain ⟨cs, rfl, hsz, _⟩ : ∃ cs, v = .agg cs ∧ cs.size = Try.prog.cellsOf 39 ∧ Row.okWide Try.prog W .any base 39 cs := by
    simpa [Value.okWide, Try.underlying39] using hval
  obtain ⟨l⟩ := cs
  obtain ⟨fuel, hf⟩ := h
  rw [show Try.prog.cellsOf 39 = 3 by kernel_rfl] at hsz
  obtain ⟨x, hx, hw⟩ := cells_vec l hsz (fun i q hq => flat_all (by kernel_rfl) hf i q hq)
  exact ⟨x, congrArg Value.agg (by rw [hx]), hw⟩
set_option maxRecDepth 100000 in
theorem open_vecs {H : Type} {enc : TypeId × Value → H} {W : World} {base : Nat} {spare : Nat → Bool} {held : Bool} {v : Value} {d : DataW H} {p : List MemPlace}
    (hval : Value.okWide Try.prog W .any base 47 v) (h : DataW.Trod enc Try.prog W 0 spare held 47 v d p) : ∃ a n cap, v = .slice a n cap ∧ n ≤ maxLen ∧ ∃ M : Nat → (Nat → Int), ElemsA W a n 3 (fun k => (vfn (M k)).toList) ∧ ∀ k, k < n → Wvec (M k) := by
  obtain ⟨a, n, cap, rfl, hc, hm, C, hC, hk⟩ := open_elems (ks := [some .i64, some .i64, some .i64]) Try.underlying47 (by kernel_rfl) (by decide) hval h
  have key : ∀ k, ∃ x, k < n → C k = (vfn x).toList ∧ Wvec x := fun k => by
    by_cases hkn : k < n
    · obtain ⟨x, hx⟩ := cells_vec (C k) (hk k hkn).1 (hk k hkn).2
      exact ⟨x, fun _ => hx⟩
    · exact ⟨fun _ => 0, fun h => absurd h hkn⟩
  obtain ⟨M, hM⟩ := Classical.skolem.1 key
  refine ⟨a, n, cap, rfl, by omega, M, fun k hkn => ?_, fun k hkn => (hM k hkn).2⟩
  show ∃ b off, a = some ⟨b, off, none⟩ ∧ b < W.heap.size ∧ W.rangeAt b (off + k * 3) ((vfn (M k)).toList)
  rw [← (hM k hkn).1]
  exact hC k hkn
def Wquat (x : (Nat → Int)) : Prop := (∀ i, i < 4 → I64 (x i))
theorem list_quat {α : Type} (l : List α) (h : l.length = 4) : ∃ c0 c1 c2 c3, l = [c0, c1, c2, c3] := by
  match l, h with
  | [c0, c1, c2, c3], _ => exact ⟨c0, c1, c2, c3, rfl⟩
theorem cells_quat (l : List Value) (hl : l.length = 4) (h : ∀ (i : Nat) (q : Option IntKind), ([some .i64, some .i64, some .i64, some .i64] : List (Option IntKind))[i]? = some q → ∃ u, l[i]? = some u ∧ okK q u) : ∃ x : (Nat → Int), l = (qfn x).toList ∧ Wquat x := by
  obtain ⟨c0, c1, c2, c3, rfl⟩ := list_quat l hl
  obtain ⟨u0, e0, n0, rfl, w0⟩ := h 0 (some .i64) rfl
  cases e0
  obtain ⟨u1, e1, n1, rfl, w1⟩ := h 1 (some .i64) rfl
  cases e1
  obtain ⟨u2, e2, n2, rfl, w2⟩ := h 2 (some .i64) rfl
  cases e2
  obtain ⟨u3, e3, n3, rfl, w3⟩ := h 3 (some .i64) rfl
  cases e3
  exact ⟨(of4 n0 n1 n2 n3), by first | rfl | (unfold qfn; rfl), of4_I (wfI64 w0) (wfI64 w1) (wfI64 w2) (wfI64 w3)⟩
set_option maxRecDepth 100000 in
theorem open_quate {H : Type} {enc : TypeId × Value → H} {W : World} {base : Nat} {spare : Nat → Bool} {held : Bool} {v : Value} {d : DataW H} {p : List MemPlace}
    (hval : Value.okWide Try.prog W .any base 46 v) (h : DataW.Trod enc Try.prog W 0 spare held 46 v d p) : ∃ x, v = .agg (qfn x) ∧ Wquat x := by
  obtain ⟨cs, rfl, hsz, _⟩ : ∃ cs, v = .agg cs ∧ cs.size = Try.prog.cellsOf 46 ∧ Row.okWide Try.prog W .any base 46 cs := by
    simpa [Value.okWide, Try.underlying46] using hval
  obtain ⟨l⟩ := cs
  obtain ⟨fuel, hf⟩ := h
  rw [show Try.prog.cellsOf 46 = 4 by kernel_rfl] at hsz
  obtain ⟨x, hx, hw⟩ := cells_quat l hsz (fun i q hq => flat_all (by kernel_rfl) hf i q hq)
  exact ⟨x, congrArg Value.agg (by rw [hx]), hw⟩
end Go.Proofs.Ytnkjbdfhdenbcaa
