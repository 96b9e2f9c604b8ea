/-
  The first line of the translated program as a list of signs, and what the rows ask of it. Small laws for the rows: what it means that an argument fits its kind, and the closed facts of a row. A vector of three numbers as a row's argument: opened and shut.
-/
import Derived.Test.YtnkjbdfhdenbcaaRows
import Derived.ProofKit
import Derived.JoinedOf
import Derived.Test.YtnkjbdfhdenbcaaHyp
import Derived.OpenShut
import Derived.Test.YtnkjbdfhdenbcaaLawVec
import Derived.Laws.IdiomArrays
import Derived.WalkKit
import Derived.ShutString
import Derived.ChangeOld
import Derived.Below
set_option linter.unusedSimpArgs false
set_option linter.unusedVariables false
namespace Go.Proofs.Ytnkjbdfhdenbcaa
def headLine : String := "harness 76501664c55ec2bede4bd2a532804ff4fb31cc7dd14991b984ea4b8d5be88674 cut at perigee/perigeelaw25.OrbitSpans perigee/perigeelaw25.OrbitKnown perigee/perigeelaw21.GyrosFollows perigee/perigeelaw21.GyrosReads perigee/perigeelaw21.GyrosFilters perigee/perigeelaw21.GyrosValid perigee/perigeelaw21.GyrosSettles perigee/perigeelaw21.GyrosNone perigee/perigeelaw21.GyrosKnown perigee/perigeelaw20.StarsResiduals perigee/perigeelaw20.StarsKnown perigee/perigeetop.TopPasses"
def headSigns : List Char := [Char.ofNat 104, Char.ofNat 97, Char.ofNat 114, Char.ofNat 110, Char.ofNat 101, Char.ofNat 115, Char.ofNat 115, Char.ofNat 32, Char.ofNat 55, Char.ofNat 54, Char.ofNat 53, Char.ofNat 48, Char.ofNat 49, Char.ofNat 54, Char.ofNat 54, Char.ofNat 52, Char.ofNat 99, Char.ofNat 53, Char.ofNat 53, Char.ofNat 101, Char.ofNat 99, Char.ofNat 50, Char.ofNat 98, Char.ofNat 101, Char.ofNat 100, Char.ofNat 101, Char.ofNat 52, Char.ofNat 98, Char.ofNat 100, Char.ofNat 50, Char.ofNat 97, Char.ofNat 53, Char.ofNat 51, Char.ofNat 50, Char.ofNat 56, Char.ofNat 48, Char.ofNat 52, Char.ofNat 102, Char.ofNat 102, Char.ofNat 52, Char.ofNat 102, Char.ofNat 98, Char.ofNat 51, Char.ofNat 49, Char.ofNat 99, Char.ofNat 99, Char.ofNat 55, Char.ofNat 100, Char.ofNat 100, Char.ofNat 49, Char.ofNat 52, Char.ofNat 57, Char.ofNat 57, Char.ofNat 49, Char.ofNat 98, Char.ofNat 57, Char.ofNat 56, Char.ofNat 52, Char.ofNat 101, Char.ofNat 97, Char.ofNat 52, Char.ofNat 98, Char.ofNat 56, Char.ofNat 100, Char.ofNat 53, Char.ofNat 98, Char.ofNat 101, Char.ofNat 56, Char.ofNat 56, Char.ofNat 54, Char.ofNat 55, Char.ofNat 52, Char.ofNat 32, Char.ofNat 99, Char.ofNat 117, Char.ofNat 116, Char.ofNat 32, Char.ofNat 97, Char.ofNat 116, Char.ofNat 32, Char.ofNat 112, Char.ofNat 101, Char.ofNat 114, Char.ofNat 105, Char.ofNat 103, Char.ofNat 101, Char.ofNat 101, Char.ofNat 47, Char.ofNat 112, Char.ofNat 101, Char.ofNat 114, Char.ofNat 105, Char.ofNat 103, Char.ofNat 101, Char.ofNat 101, Char.ofNat 108, Char.ofNat 97, Char.ofNat 119, Char.ofNat 50, Char.ofNat 53, Char.ofNat 46, Char.ofNat 79, Char.ofNat 114, Char.ofNat 98, Char.ofNat 105, Char.ofNat 116, Char.ofNat 83, Char.ofNat 112, Char.ofNat 97, Char.ofNat 110, Char.ofNat 115, Char.ofNat 32, Char.ofNat 112, Char.ofNat 101, Char.ofNat 114, Char.ofNat 105, Char.ofNat 103, Char.ofNat 101, Char.ofNat 101, Char.ofNat 47, Char.ofNat 112, Char.ofNat 101, Char.ofNat 114, Char.ofNat 105, Char.ofNat 103, Char.ofNat 101, Char.ofNat 101, Char.ofNat 108, Char.ofNat 97, Char.ofNat 119, Char.ofNat 50, Char.ofNat 53, Char.ofNat 46, Char.ofNat 79, Char.ofNat 114, Char.ofNat 98, Char.ofNat 105, Char.ofNat 116, Char.ofNat 75, Char.ofNat 110, Char.ofNat 111, Char.ofNat 119, Char.ofNat 110, Char.ofNat 32, Char.ofNat 112, Char.ofNat 101, Char.ofNat 114, Char.ofNat 105, Char.ofNat 103, Char.ofNat 101, Char.ofNat 101, Char.ofNat 47, Char.ofNat 112, Char.ofNat 101, Char.ofNat 114, Char.ofNat 105, Char.ofNat 103, Char.ofNat 101, Char.ofNat 101, Char.ofNat 108, Char.ofNat 97, Char.ofNat 119, Char.ofNat 50, Char.ofNat 49, Char.ofNat 46, Char.ofNat 71, Char.ofNat 121, Char.ofNat 114, Char.ofNat 111, Char.ofNat 115, Char.ofNat 70, Char.ofNat 111, Char.ofNat 108, Char.ofNat 108, Char.ofNat 111, Char.ofNat 119, Char.ofNat 115, Char.ofNat 32, Char.ofNat 112, Char.ofNat 101, Char.ofNat 114, Char.ofNat 105, Char.ofNat 103, Char.ofNat 101, Char.ofNat 101, Char.ofNat 47, Char.ofNat 112, Char.ofNat 101, Char.ofNat 114, Char.ofNat 105, Char.ofNat 103, Char.ofNat 101, Char.ofNat 101, Char.ofNat 108, Char.ofNat 97, Char.ofNat 119, Char.ofNat 50, Char.ofNat 49, Char.ofNat 46, Char.ofNat 71, Char.ofNat 121, Char.ofNat 114, Char.ofNat 111, Char.ofNat 115, Char.ofNat 82, Char.ofNat 101, Char.ofNat 97, Char.ofNat 100, Char.ofNat 115, Char.ofNat 32, Char.ofNat 112, Char.ofNat 101, Char.ofNat 114, Char.ofNat 105, Char.ofNat 103, Char.ofNat 101, Char.ofNat 101, Char.ofNat 47, Char.ofNat 112, Char.ofNat 101, Char.ofNat 114, Char.ofNat 105, Char.ofNat 103, Char.ofNat 101, Char.ofNat 101, Char.ofNat 108, Char.ofNat 97, Char.ofNat 119, Char.ofNat 50, Char.ofNat 49, Char.ofNat 46, Char.ofNat 71, Char.ofNat 121, Char.ofNat 114, Char.ofNat 111, Char.ofNat 115, Char.ofNat 70, Char.ofNat 105, Char.ofNat 108, Char.ofNat 116, Char.ofNat 101, Char.ofNat 114, Char.ofNat 115, Char.ofNat 32, Char.ofNat 112, Char.ofNat 101, Char.ofNat 114, Char.ofNat 105, Char.ofNat 103, Char.ofNat 101, Char.ofNat 101, Char.ofNat 47, Char.ofNat 112, Char.ofNat 101, Char.ofNat 114, Char.ofNat 105, Char.ofNat 103, Char.ofNat 101, Char.ofNat 101, Char.ofNat 108, Char.ofNat 97, Char.ofNat 119, Char.ofNat 50, Char.ofNat 49, Char.ofNat 46, Char.ofNat 71, Char.ofNat 121, Char.ofNat 114, Char.ofNat 111, Char.ofNat 115, Char.ofNat 86, Char.ofNat 97, Char.ofNat 108, Char.ofNat 105, Char.ofNat 100, Char.ofNat 32, Char.ofNat 112, Char.ofNat 101, Char.ofNat 114, Char.ofNat 105, Char.ofNat 103, Char.ofNat 101, Char.ofNat 101, Char.ofNat 47, Char.ofNat 112, Char.ofNat 101, Char.ofNat 114, Char.ofNat 105, Char.ofNat 103, Char.ofNat 101, Char.ofNat 101, Char.ofNat 108, Char.ofNat 97, Char.ofNat 119, Char.ofNat 50, Char.ofNat 49, Char.ofNat 46, Char.ofNat 71, Char.ofNat 121, Char.ofNat 114, Char.ofNat 111, Char.ofNat 115, Char.ofNat 83, Char.ofNat 101, Char.ofNat 116, Char.ofNat 116, Char.ofNat 108, Char.ofNat 101, Char.ofNat 115, Char.ofNat 32, Char.ofNat 112, Char.ofNat 101, Char.ofNat 114, Char.ofNat 105, Char.ofNat 103, Char.ofNat 101, Char.ofNat 101, Char.ofNat 47, Char.ofNat 112, Char.ofNat 101, Char.ofNat 114, Char.ofNat 105, Char.ofNat 103, Char.ofNat 101, Char.ofNat 101, Char.ofNat 108, Char.ofNat 97, Char.ofNat 119, Char.ofNat 50, Char.ofNat 49, Char.ofNat 46, Char.ofNat 71, Char.ofNat 121, Char.ofNat 114, Char.ofNat 111, Char.ofNat 115, Char.ofNat 78, Char.ofNat 111, Char.ofNat 110, Char.ofNat 101, Char.ofNat 32, Char.ofNat 112, Char.ofNat 101, Char.ofNat 114, Char.ofNat 105, Char.ofNat 103, Char.ofNat 101, Char.ofNat 101, Char.ofNat 47, Char.ofNat 112, Char.ofNat 101, Char.ofNat 114, Char.ofNat 105, Char.ofNat 103, Char.ofNat 101, Char.ofNat 101, Char.ofNat 108, Char.ofNat 97, Char.ofNat 119, Char.ofNat 50, Char.ofNat 49, Char.ofNat 46, Char.ofNat 71, Char.ofNat 121, Char.ofNat 114, Char.ofNat 111, Char.ofNat 115, Char.ofNat 75, Char.ofNat 110, Char.ofNat 111, Char.ofNat 119, Char.ofNat 110, Char.ofNat 32, Char.ofNat 112, Char.ofNat 101, Char.ofNat 114, Char.ofNat 105, Char.ofNat 103, Char.ofNat 101, Char.ofNat 101, Char.ofNat 47, Char.ofNat 112, Char.ofNat 101, Char.ofNat 114, Char.ofNat 105, Char.ofNat 103, Char.ofNat 101, Char.ofNat 101, Char.ofNat 108, Char.ofNat 97, Char.ofNat 119, Char.ofNat 50, Char.ofNat 48, Char.ofNat 46, Char.ofNat 83, Char.ofNat 116, Char.ofNat 97, Char.ofNat 114, Char.ofNat 115, Char.ofNat 82, Char.ofNat 101, Char.ofNat 115, Char.ofNat 105, Char.ofNat 100, Char.ofNat 117, Char.ofNat 97, Char.ofNat 108, Char.ofNat 115, Char.ofNat 32, Char.ofNat 112, Char.ofNat 101, Char.ofNat 114, Char.ofNat 105, Char.ofNat 103, Char.ofNat 101, Char.ofNat 101, Char.ofNat 47, Char.ofNat 112, Char.ofNat 101, Char.ofNat 114, Char.ofNat 105, Char.ofNat 103, Char.ofNat 101, Char.ofNat 101, Char.ofNat 108, Char.ofNat 97, Char.ofNat 119, Char.ofNat 50, Char.ofNat 48, Char.ofNat 46, Char.ofNat 83, Char.ofNat 116, Char.ofNat 97, Char.ofNat 114, Char.ofNat 115, Char.ofNat 75, Char.ofNat 110, Char.ofNat 111, Char.ofNat 119, Char.ofNat 110, Char.ofNat 32, Char.ofNat 112, Char.ofNat 101, Char.ofNat 114, Char.ofNat 105, Char.ofNat 103, Char.ofNat 101, Char.ofNat 101, Char.ofNat 47, Char.ofNat 112, Char.ofNat 101, Char.ofNat 114, Char.ofNat 105, Char.ofNat 103, Char.ofNat 101, Char.ofNat 101, Char.ofNat 116, Char.ofNat 111, Char.ofNat 112, Char.ofNat 46, Char.ofNat 84, Char.ofNat 111, Char.ofNat 112, Char.ofNat 80, Char.ofNat 97, Char.ofNat 115, Char.ofNat 115, Char.ofNat 101, Char.ofNat 115]
theorem headLine_signs : headLine = String.ofList headSigns := by kernel_rfl
theorem headLine_toList : headLine.toList = headSigns := by rw [headLine_signs, String.toList_ofList]
theorem prog_initOrder : Try.pinned.checked.prog.initOrder = headLine := by kernel_rfl
theorem prog_signs : Try.pinned.checked.prog.initOrder.toList = headSigns := by rw [prog_initOrder, headLine_toList]
theorem prog_words : ∃ rest, behindMainWord (wordsSigns headSigns) = "cut".toList :: rest := ⟨(behindMainWord (wordsSigns headSigns)).tail, by kernel_rfl⟩
theorem prog_laysLater : Program.laysLater Try.pinned.checked.prog = false := by kernel_rfl
theorem prog_bearsReflect : Program.bearsReflect Try.pinned.checked.prog = false := by kernel_rfl
theorem prog_liftsFinal : Program.liftsFinal Try.pinned.checked.prog = false := by
  unfold Program.liftsFinal Program.headLifts
  rw [prog_signs]
  kernel_rfl
theorem make_of (P : Program) (rest : List (List Char)) (h : behindMainWord (wordsSigns P.initOrder.toList) = "cut".toList :: rest) : P.make = some .cut := by
  unfold Program.make
  rw [h]
  rfl
theorem mayEnter_of (P : Program) (rest : List (List Char)) (h : behindMainWord (wordsSigns P.initOrder.toList) = "cut".toList :: rest)
    (h1 : P.laysLater = false) (h2 : P.bearsReflect = false) (h3 : P.doorFits [] = true) : P.mayEnter = true := by
  have hs : stripLifts liftWords ("cut".toList :: rest) = ([], "cut".toList :: rest) := rfl
  unfold Program.mayEnter
  rw [h]
  simp only [hs, h1, h2, h3]
  simp
theorem prog_door : Program.doorFits Try.pinned.checked.prog [] = true := by kernel_rfl
theorem prog_make : Program.make Try.pinned.checked.prog = some .cut := by
  obtain ⟨rest, h⟩ := prog_words
  exact make_of _ rest ((congrArg (fun l => behindMainWord (wordsSigns l)) prog_signs).trans h)
theorem prog_mayEnter : Program.mayEnter Try.pinned.checked.prog = true := by
  obtain ⟨rest, h⟩ := prog_words
  exact mayEnter_of _ rest ((congrArg (fun l => behindMainWord (wordsSigns l)) prog_signs).trans h) prog_laysLater prog_bearsReflect prog_door
end Go.Proofs.Ytnkjbdfhdenbcaa
namespace Go.Proofs.Ytnkjbdfhdenbcaa
open Go.RowKit
theorem wfI64 {a : Int} (h : (Lit.int .i64 a).wf = true) : I64 a := by
  simp only [Lit.wf, Bool.and_eq_true, decide_eq_true_eq] at h
  exact ⟨h.1, h.2⟩
theorem wfU32 {a : Int} (h : (Lit.int .u32 a).wf = true) : ∃ t : Nat, a = t ∧ t < 4294967296 := by
  simp only [Lit.wf, Bool.and_eq_true, decide_eq_true_eq] at h
  have h1 : 0 ≤ a := h.1
  have h2 : a ≤ 4294967295 := h.2
  exact ⟨a.toNat, by omega, by omega⟩
theorem cell_lt {w : World} {a : Addr} {v : Value} (h : w.cell? a = some v) : a.block < w.heap.size := by
  unfold World.cell? at h
  split at h
  · rename_i c e z hb
    exact (Array.getElem?_eq_some_iff.1 hb).1
  · cases h
theorem getD_take (zs : List Int) (n k : Nat) (h : k < n) : (zs.take n).getD k 0 = zs.getD k 0 := by
  simp only [List.getD_eq_getElem?_getD, List.getElem?_take, if_pos h]
/-- A slice of integers that came in. -/
theorem ints_of {w : World} {a : Option Addr} {len cap : Nat} {zs : List Int}
    (h : (a = none ∧ len = 0 ∧ cap = 0 ∧ zs = []) ∨ ∃ x, a = some x ∧ len ≤ cap ∧ cap ≤ maxLen ∧ zs.length = cap ∧ (∀ i, i < zs.length → w.cell? (x.add i) = some (.int .i64 (zs.getD i 0))) ∧ ∀ n ∈ zs, (Lit.int .i64 n).wf = true) :
    Ints w (.slice a len cap) (zs.take len) ∧ ∀ k, k < (zs.take len).length → I64 ((zs.take len).getD k 0) := by
  rcases h with ⟨rfl, rfl, rfl, rfl⟩ | ⟨x, rfl, hl, hm, hz, hc, hw⟩
  · exact ⟨Or.inl ⟨rfl, none, 0, rfl⟩, fun k hk => by simp at hk⟩
  · have hlen : (zs.take len).length = len := by rw [List.length_take]; omega
    have hI : ∀ k, k < (zs.take len).length → I64 ((zs.take len).getD k 0) := by
      intro k hk
      rw [hlen] at hk
      rw [getD_take _ _ _ hk]
      have hk' : k < zs.length := by omega
      have e : zs.getD k 0 = zs[k] := by simp [List.getD_eq_getElem?_getD, List.getElem?_eq_getElem hk']
      rw [e]; exact wfI64 (hw _ (List.getElem_mem hk'))
    refine ⟨?_, hI⟩
    rcases Nat.eq_zero_or_pos len with h0 | h0
    · subst h0; exact Or.inl ⟨by simp, some x, cap, rfl⟩
    · obtain ⟨b, off, rfl, hb⟩ := Go.ints_at (k := .i64) hc (by omega)
      refine Or.inr ⟨by omega, b, off, cap, by rw [hlen], cell_lt (hb 0 (by omega)), fun k hk => ?_⟩
      rw [hlen] at hk
      rw [getD_take _ _ _ hk]; exact hb k (by omega)
end Go.Proofs.Ytnkjbdfhdenbcaa
namespace Go.Proofs.Ytnkjbdfhdenbcaa
open Go.ChangeShapes Go.WideShapes Go.ChangeAt Go.RowKit
theorem list3 {α : Type} (l : List α) (h : (⟨l⟩ : Array α).size = 3) : ∃ a b c, l = [a, b, c] := by
  match l, h with
  | [a, b, c], _ => exact ⟨a, b, c, rfl⟩
/-- What a reader sees of a vector. -/
def vecD {H : Type} (f : Nat → Int) : DataW H := .agg [.lit (.int .i64 (f 0)), .lit (.int .i64 (f 1)), .lit (.int .i64 (f 2))]
set_option maxRecDepth 100000 in
theorem open_vec {H : Type} {enc : TypeId × Value → H} {W : World} {base : Nat} {spare : Nat → Bool} {held : Bool} {v : Value} {d : DataW H} {p : List MemPlace}
    (hval : Value.okWide Try.prog W .any base 39 v) (h : DataW.Trod enc Try.prog W 0 spare held 39 v d p) : ∃ f : Nat → Int, v = .agg (vfn f) ∧ d = vecD f ∧ p = [] ∧ ∀ i, i < 3 → (Lit.int .i64 (f i)).wf = true := by
  obtain ⟨cs, rfl, hsz, _⟩ : ∃ cs, v = .agg cs ∧ cs.size = Try.prog.cellsOf 39 ∧ Row.okWide Try.prog W .any base 39 cs := by
    simpa [Value.okWide, Try.underlying39] using hval
  rw [show Try.prog.cellsOf 39 = 3 by kernel_rfl] at hsz
  obtain ⟨l⟩ := cs
  obtain ⟨c0, c1, c2, rfl⟩ := list3 l hsz
  obtain ⟨fuel, hf⟩ := h
  obtain ⟨y0, y1, y2, m, hx, hy0, hy1, hy2⟩ := trod_array3 Try.underlying39 (by kernel_rfl) hf
  obtain ⟨x0, e0, rfl, w0⟩ := DataW.trod_int Try.underlying2 hy0
  obtain ⟨x1, e1, rfl, w1⟩ := DataW.trod_int Try.underlying2 hy1
  obtain ⟨x2, e2, rfl, w2⟩ := DataW.trod_int Try.underlying2 hy2
  simp at e0 e1 e2
  subst e0 e1 e2
  simp only [Prod.mk.injEq] at hx
  obtain ⟨rfl, rfl⟩ := hx
  refine ⟨of3 x0 x1 x2, congrArg Value.agg (of3_cells x0 x1 x2), rfl, rfl, fun i hi => ?_⟩
  have : i = 0 ∨ i = 1 ∨ i = 2 := by omega
  rcases this with rfl | rfl | rfl
  · exact w0
  · exact w1
  · exact w2
set_option maxRecDepth 100000 in
theorem shut_vec {H : Type} {enc : TypeId × Value → H} {W : World} {base : Nat} {spare : Nat → Bool} {held : Bool} {f : Nat → Int} (hw : ∀ i, i < 3 → (Lit.int .i64 (f i)).wf = true) :
    DataW.Trod enc Try.prog W base spare held 39 (.agg (vfn f)) (vecD f) [] := by
  have w0 := hw 0 (by omega)
  have w1 := hw 1 (by omega)
  have w2 := hw 2 (by omega)
  have c1 : Try.prog.cellsOf 39 = 3 := by kernel_rfl
  have c2 : Try.prog.cellsOf 2 = 1 := by kernel_rfl
  unfold vfn vecD
  exact ⟨2, by simp [DataW.trod, Value.cells, Try.underlying39, Try.underlying2, c1, c2, w0, w1, w2, show List.range 3 = [0, 1, 2] from rfl]⟩
end Go.Proofs.Ytnkjbdfhdenbcaa
