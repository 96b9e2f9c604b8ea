/-
  Quaternions out of four numbers, and their equality.
-/
import Derived.Test.YtkmelddejdikgaaQuatD
import Derived.Test.YtkmelddejdikgaaLawVec
set_option linter.unusedSimpArgs false
set_option linter.unusedVariables false
namespace Go.Proofs.Ytkmelddejdikgaa
open Go.RowKit PM Dt
def of4 (a b c d : Int) : Nat → Int
  | 0 => a
  | 1 => b
  | 2 => c
  | _ => d
theorem of4_cells (a b c d : Int) : #[Value.int .i64 a, .int .i64 b, .int .i64 c, .int .i64 d] = qfn (of4 a b c d) := by unfold qfn; rfl
theorem validQ_ok {f : Nat → Int} (hI : ∀ i, i < 4 → I64 (f i)) (h : validQ f = true) : okQ f = true := by
  cases hb : okQ f with
  | true => rfl
  | false => rw [nQ_bad hI hb] at h; cases h
theorem of4_I {a b c d : Int} (ha : I64 a) (hb : I64 b) (hc : I64 c) (hd : I64 d) : ∀ i, i < 4 → I64 (of4 a b c d i) := by
  intro i hi
  have : i = 0 ∨ i = 1 ∨ i = 2 ∨ i = 3 := by omega
  rcases this with rfl | rfl | rfl | rfl <;> assumption
end Go.Proofs.Ytkmelddejdikgaa
