/-
  Shortened vectors: Limit of the package.
-/
import Derived.Test.YtnkjbdfhdenbcaaVTow
set_option linter.unusedSimpArgs false
set_option linter.unusedVariables false
namespace Go.Proofs.Ytnkjbdfhdenbcaa
open Go.RowKit PM Dt
def okL (f : Nat → Int) (m : Int) : Prop := okV f = true ∧ 0 ≤ m ∧ m ≤ 1099511627776
instance (f : Nat → Int) (m : Int) : Decidable (okL f m) := by unfold okL; infer_instance
def limX (f : Nat → Int) (m : Int) (i : Nat) : Int := towV (f i) m.toNat (lst f)
/-- A vector, shortened to a limit. -/
def limF (f : Nat → Int) (m : Int) : Nat → Int := if okL f m then (if (lst f : Int) ≤ m then f else limX f m) else fun _ => 0
def limE (f : Nat → Int) (m : Int) : Int := if okL f m then 0 else 2
theorem tow_vb {a : Int} {m n : Nat} (hn : 0 < n) (h : a.natAbs ≤ n) (hm : m ≤ 1099511627776) : vb (towV a m n) = true := by
  have := tow_le (m := m) hn h
  unfold towV
  generalize a.natAbs * m / n = q at *
  exact (vb_iff _).2 (by split <;> omega)
end Go.Proofs.Ytnkjbdfhdenbcaa
