/-
  Acts on controls.
-/
import Derived.Test.YtkmelddejdikgaaGreatStM
set_option linter.unusedSimpArgs false
set_option linter.unusedVariables false
namespace Go.Proofs.YtkmelddejdikgaaGreat
open Go.RowKit PM Dt
def a26c (x : Int × SeT × (Nat → Int)) : Array Value := #[.int .u8 x.1, .int .i64 (x.2.1.rate 0), .int .i64 (x.2.1.rate 1), .int .i64 (x.2.1.rate 2), .int .i64 (x.2.1.sp 0), .int .i64 (x.2.1.sp 1), .int .i64 (x.2.1.sp 2), .int .i64 (x.2.1.sp 3), .int .i64 x.2.1.f, .int .i64 (x.2.1.sun 0), .int .i64 (x.2.1.sun 1), .int .i64 (x.2.1.sun 2), .int .i64 (x.2.1.att 0), .int .i64 (x.2.1.att 1), .int .i64 (x.2.1.att 2), .int .i64 (x.2.1.att 3), .int .i64 (x.2.2 0), .int .i64 (x.2.2 1), .int .i64 (x.2.2 2), .int .i64 (x.2.2 3)]
theorem a26c_size (x : Int × SeT × (Nat → Int)) : (a26c x).size = 20 := rfl
theorem a26c_one (x : Int × SeT × (Nat → Int)) : (a26c x).all (·.oneCell') = true := by simp [a26c, Value.oneCell']
theorem a26_v (y : Int) (V : SeT) (q : Nat → Int) (j : Nat) (hj : j < (sec V).size) : (a26c (y, V, q))[1 + j]? = (sec V)[j]? := by
 rw [sec_size] at hj
 rcases (show j = 0 ∨ j = 1 ∨ j = 2 ∨ j = 3 ∨ j = 4 ∨ j = 5 ∨ j = 6 ∨ j = 7 ∨ j = 8 ∨ j = 9 ∨ j = 10 ∨ j = 11 ∨ j = 12 ∨ j = 13 ∨ j = 14 by omega) with rfl | rfl | rfl | rfl | rfl | rfl | rfl | rfl | rfl | rfl | rfl | rfl | rfl | rfl | rfl <;> rfl
theorem a26_q (y : Int) (V : SeT) (q : Nat → Int) (j : Nat) (hj : j < (qfn q).size) : (a26c (y, V, q))[16 + j]? = (qfn q)[j]? := by
 rw [qfn_size] at hj
 rw [qfn_get _ hj]
 exact c4 (P := fun j => (a26c (y, V, q))[16 + j]? = some (.int .i64 (q j))) hj rfl rfl rfl rfl
def a26p (x : Int × (Nat → Int) × (Nat → Int) × Int × (Nat → Int) × (Nat → Int) × (Nat → Int)) : Array Value := a26c (x.1, ⟨x.2.1, x.2.2.1, x.2.2.2.1, x.2.2.2.2.1, x.2.2.2.2.2.1⟩, x.2.2.2.2.2.2)
end Go.Proofs.YtkmelddejdikgaaGreat
