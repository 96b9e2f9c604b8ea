/-
  The first line of the translated program as a list of signs, and what the rows ask of it. Small laws for the rows: what it means that an argument fits its kind, and the closed facts of a row. A vector of three numbers as a row's argument: opened and shut.
-/
import Derived.Test.YtkmelddejdikgaaRows
import Derived.ProofKit
import Derived.JoinedOf
import Derived.Test.YtkmelddejdikgaaHyp
import Derived.OpenShut
import Derived.Test.YtkmelddejdikgaaLawVec
import Derived.Laws.IdiomArrays
import Derived.WalkKit
import Derived.ShutString
import Derived.ChangeOld
import Derived.Below
set_option linter.unusedSimpArgs false
set_option linter.unusedVariables false
namespace Go.Proofs.Ytkmelddejdikgaa
def headLine : String := "harness 56cb0a195e1de27e407ed297ebc1e53fe242d58c6e0944952e7e992012229712 cut at perigee/perigeelaw20.StarsResiduals perigee/perigeelaw20.StarsKnown perigee/perigeelaw20.StarsExchanged perigee/perigeelaw20.StarsExact perigee/perigeetop.TopPasses perigee/perigeelaw26.SteerSuns perigee/perigeelaw26.SteerPoints perigee/perigeelaw21.GyrosSettles"
def headSigns : List Char := [Char.ofNat 104, Char.ofNat 97, Char.ofNat 114, Char.ofNat 110, Char.ofNat 101, Char.ofNat 115, Char.ofNat 115, Char.ofNat 32, Char.ofNat 53, Char.ofNat 54, Char.ofNat 99, Char.ofNat 98, Char.ofNat 48, Char.ofNat 97, Char.ofNat 49, Char.ofNat 57, Char.ofNat 53, Char.ofNat 101, Char.ofNat 49, Char.ofNat 100, Char.ofNat 101, Char.ofNat 50, Char.ofNat 55, Char.ofNat 101, Char.ofNat 52, Char.ofNat 48, Char.ofNat 55, Char.ofNat 101, Char.ofNat 100, Char.ofNat 50, Char.ofNat 57, Char.ofNat 55, Char.ofNat 101, Char.ofNat 98, Char.ofNat 99, Char.ofNat 49, Char.ofNat 101, Char.ofNat 53, Char.ofNat 51, Char.ofNat 102, Char.ofNat 101, Char.ofNat 50, Char.ofNat 52, Char.ofNat 50, Char.ofNat 100, Char.ofNat 53, Char.ofNat 56, Char.ofNat 99, Char.ofNat 54, Char.ofNat 101, Char.ofNat 48, Char.ofNat 57, Char.ofNat 52, Char.ofNat 52, Char.ofNat 57, Char.ofNat 53, Char.ofNat 50, Char.ofNat 101, Char.ofNat 55, Char.ofNat 101, Char.ofNat 57, Char.ofNat 57, Char.ofNat 50, Char.ofNat 48, Char.ofNat 49, Char.ofNat 50, Char.ofNat 50, Char.ofNat 50, Char.ofNat 57, Char.ofNat 55, Char.ofNat 49, Char.ofNat 50, Char.ofNat 32, Char.ofNat 99, Char.ofNat 117, Char.ofNat 116, Char.ofNat 32, Char.ofNat 97, Char.ofNat 116, Char.ofNat 32, Char.ofNat 112, Char.ofNat 101, Char.ofNat 114, Char.ofNat 105, Char.ofNat 103, Char.ofNat 101, Char.ofNat 101, Char.ofNat 47, Char.ofNat 112, Char.ofNat 101, Char.ofNat 114, Char.ofNat 105, Char.ofNat 103, Char.ofNat 101, Char.ofNat 101, Char.ofNat 108, Char.ofNat 97, Char.ofNat 119, Char.ofNat 50, Char.ofNat 48, Char.ofNat 46, Char.ofNat 83, Char.ofNat 116, Char.ofNat 97, Char.ofNat 114, Char.ofNat 115, Char.ofNat 82, Char.ofNat 101, Char.ofNat 115, Char.ofNat 105, Char.ofNat 100, Char.ofNat 117, Char.ofNat 97, Char.ofNat 108, Char.ofNat 115, Char.ofNat 32, Char.ofNat 112, Char.ofNat 101, Char.ofNat 114, Char.ofNat 105, Char.ofNat 103, Char.ofNat 101, Char.ofNat 101, Char.ofNat 47, Char.ofNat 112, Char.ofNat 101, Char.ofNat 114, Char.ofNat 105, Char.ofNat 103, Char.ofNat 101, Char.ofNat 101, Char.ofNat 108, Char.ofNat 97, Char.ofNat 119, Char.ofNat 50, Char.ofNat 48, Char.ofNat 46, Char.ofNat 83, Char.ofNat 116, Char.ofNat 97, Char.ofNat 114, Char.ofNat 115, Char.ofNat 75, Char.ofNat 110, Char.ofNat 111, Char.ofNat 119, Char.ofNat 110, Char.ofNat 32, Char.ofNat 112, Char.ofNat 101, Char.ofNat 114, Char.ofNat 105, Char.ofNat 103, Char.ofNat 101, Char.ofNat 101, Char.ofNat 47, Char.ofNat 112, Char.ofNat 101, Char.ofNat 114, Char.ofNat 105, Char.ofNat 103, Char.ofNat 101, Char.ofNat 101, Char.ofNat 108, Char.ofNat 97, Char.ofNat 119, Char.ofNat 50, Char.ofNat 48, Char.ofNat 46, Char.ofNat 83, Char.ofNat 116, Char.ofNat 97, Char.ofNat 114, Char.ofNat 115, Char.ofNat 69, Char.ofNat 120, Char.ofNat 99, Char.ofNat 104, Char.ofNat 97, Char.ofNat 110, Char.ofNat 103, Char.ofNat 101, Char.ofNat 100, Char.ofNat 32, Char.ofNat 112, Char.ofNat 101, Char.ofNat 114, Char.ofNat 105, Char.ofNat 103, Char.ofNat 101, Char.ofNat 101, Char.ofNat 47, Char.ofNat 112, Char.ofNat 101, Char.ofNat 114, Char.ofNat 105, Char.ofNat 103, Char.ofNat 101, Char.ofNat 101, Char.ofNat 108, Char.ofNat 97, Char.ofNat 119, Char.ofNat 50, Char.ofNat 48, Char.ofNat 46, Char.ofNat 83, Char.ofNat 116, Char.ofNat 97, Char.ofNat 114, Char.ofNat 115, Char.ofNat 69, Char.ofNat 120, Char.ofNat 97, Char.ofNat 99, Char.ofNat 116, Char.ofNat 32, Char.ofNat 112, Char.ofNat 101, Char.ofNat 114, Char.ofNat 105, Char.ofNat 103, Char.ofNat 101, Char.ofNat 101, Char.ofNat 47, Char.ofNat 112, Char.ofNat 101, Char.ofNat 114, Char.ofNat 105, Char.ofNat 103, Char.ofNat 101, Char.ofNat 101, Char.ofNat 116, Char.ofNat 111, Char.ofNat 112, Char.ofNat 46, Char.ofNat 84, Char.ofNat 111, Char.ofNat 112, Char.ofNat 80, Char.ofNat 97, Char.ofNat 115, Char.ofNat 115, Char.ofNat 101, Char.ofNat 115, Char.ofNat 32, Char.ofNat 112, Char.ofNat 101, Char.ofNat 114, Char.ofNat 105, Char.ofNat 103, Char.ofNat 101, Char.ofNat 101, Char.ofNat 47, Char.ofNat 112, Char.ofNat 101, Char.ofNat 114, Char.ofNat 105, Char.ofNat 103, Char.ofNat 101, Char.ofNat 101, Char.ofNat 108, Char.ofNat 97, Char.ofNat 119, Char.ofNat 50, Char.ofNat 54, Char.ofNat 46, Char.ofNat 83, Char.ofNat 116, Char.ofNat 101, Char.ofNat 101, Char.ofNat 114, Char.ofNat 83, Char.ofNat 117, Char.ofNat 110, Char.ofNat 115, Char.ofNat 32, Char.ofNat 112, Char.ofNat 101, Char.ofNat 114, Char.ofNat 105, Char.ofNat 103, Char.ofNat 101, Char.ofNat 101, Char.ofNat 47, Char.ofNat 112, Char.ofNat 101, Char.ofNat 114, Char.ofNat 105, Char.ofNat 103, Char.ofNat 101, Char.ofNat 101, Char.ofNat 108, Char.ofNat 97, Char.ofNat 119, Char.ofNat 50, Char.ofNat 54, Char.ofNat 46, Char.ofNat 83, Char.ofNat 116, Char.ofNat 101, Char.ofNat 101, Char.ofNat 114, Char.ofNat 80, Char.ofNat 111, Char.ofNat 105, Char.ofNat 110, Char.ofNat 116, Char.ofNat 115, Char.ofNat 32, Char.ofNat 112, Char.ofNat 101, Char.ofNat 114, Char.ofNat 105, Char.ofNat 103, Char.ofNat 101, Char.ofNat 101, Char.ofNat 47, Char.ofNat 112, Char.ofNat 101, Char.ofNat 114, Char.ofNat 105, Char.ofNat 103, Char.ofNat 101, Char.ofNat 101, Char.ofNat 108, Char.ofNat 97, Char.ofNat 119, Char.ofNat 50, Char.ofNat 49, Char.ofNat 46, Char.ofNat 71, Char.ofNat 121, Char.ofNat 114, Char.ofNat 111, Char.ofNat 115, Char.ofNat 83, Char.ofNat 101, Char.ofNat 116, Char.ofNat 116, Char.ofNat 108, Char.ofNat 101, Char.ofNat 115]
theorem headLine_signs : headLine = String.ofList headSigns := by kernel_rfl
theorem headLine_toList : headLine.toList = headSigns := by rw [headLine_signs, String.toList_ofList]
theorem prog_initOrder : Try.pinned.checked.prog.initOrder = headLine := by kernel_rfl
theorem prog_signs : Try.pinned.checked.prog.initOrder.toList = headSigns := by rw [prog_initOrder, headLine_toList]
theorem prog_words : ∃ rest, behindMainWord (wordsSigns headSigns) = "cut".toList :: rest := ⟨(behindMainWord (wordsSigns headSigns)).tail, by kernel_rfl⟩
theorem prog_laysLater : Program.laysLater Try.pinned.checked.prog = false := by kernel_rfl
theorem prog_bearsReflect : Program.bearsReflect Try.pinned.checked.prog = false := by kernel_rfl
theorem prog_liftsFinal : Program.liftsFinal Try.pinned.checked.prog = false := by
  unfold Program.liftsFinal Program.headLifts
  rw [prog_signs]
  kernel_rfl
theorem make_of (P : Program) (rest : List (List Char)) (h : behindMainWord (wordsSigns P.initOrder.toList) = "cut".toList :: rest) : P.make = some .cut := by
  unfold Program.make
  rw [h]
  rfl
theorem mayEnter_of (P : Program) (rest : List (List Char)) (h : behindMainWord (wordsSigns P.initOrder.toList) = "cut".toList :: rest)
    (h1 : P.laysLater = false) (h2 : P.bearsReflect = false) (h3 : P.doorFits [] = true) : P.mayEnter = true := by
  have hs : stripLifts liftWords ("cut".toList :: rest) = ([], "cut".toList :: rest) := rfl
  unfold Program.mayEnter
  rw [h]
  simp only [hs, h1, h2, h3]
  simp
theorem prog_door : Program.doorFits Try.pinned.checked.prog [] = true := by kernel_rfl
theorem prog_make : Program.make Try.pinned.checked.prog = some .cut := by
  obtain ⟨rest, h⟩ := prog_words
  exact make_of _ rest ((congrArg (fun l => behindMainWord (wordsSigns l)) prog_signs).trans h)
theorem prog_mayEnter : Program.mayEnter Try.pinned.checked.prog = true := by
  obtain ⟨rest, h⟩ := prog_words
  exact mayEnter_of _ rest ((congrArg (fun l => behindMainWord (wordsSigns l)) prog_signs).trans h) prog_laysLater prog_bearsReflect prog_door
end Go.Proofs.Ytkmelddejdikgaa
namespace Go.Proofs.Ytkmelddejdikgaa
open Go.RowKit
theorem wfI64 {a : Int} (h : (Lit.int .i64 a).wf = true) : I64 a := by
  simp only [Lit.wf, Bool.and_eq_true, decide_eq_true_eq] at h
  exact ⟨h.1, h.2⟩
end Go.Proofs.Ytkmelddejdikgaa
namespace Go.Proofs.Ytkmelddejdikgaa
open Go.ChangeShapes Go.WideShapes Go.ChangeAt Go.RowKit
end Go.Proofs.Ytkmelddejdikgaa
