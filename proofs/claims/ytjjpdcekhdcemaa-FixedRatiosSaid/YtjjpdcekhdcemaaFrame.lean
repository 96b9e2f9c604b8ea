/-
  Small laws for the rows: what it means that an argument fits its kind, and the closed facts of a row.
-/
import Derived.Test.YtjjpdcekhdcemaaHyp
import Derived.Test.YtjjpdcekhdcemaaJoin
namespace Go.Proofs.Ytjjpdcekhdcemaa
open Go.RowKit
theorem wfI64 {a : Int} (h : (Lit.int .i64 a).wf = true) : I64 a := by
  simp only [Lit.wf, Bool.and_eq_true, decide_eq_true_eq] at h
  exact ⟨h.1, h.2⟩
theorem wfU32 {a : Int} (h : (Lit.int .u32 a).wf = true) : ∃ t : Nat, a = t ∧ t < 4294967296 := by
  simp only [Lit.wf, Bool.and_eq_true, decide_eq_true_eq] at h
  have h1 : 0 ≤ a := h.1
  have h2 : a ≤ 4294967295 := h.2
  exact ⟨a.toNat, by omega, by omega⟩
end Go.Proofs.Ytjjpdcekhdcemaa
