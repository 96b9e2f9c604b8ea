/-
  The test of nearness in the statements on package fixed.
-/
import Derived.Test.YtmanfiphdmmgdaaWave
set_option linter.unusedSimpArgs false
set_option linter.unusedVariables false
namespace Go.Proofs.Ytmanfiphdmmgdaa
open Go.RowKit PM Dt
set_option maxRecDepth 100000 in
set_option maxHeartbeats 1000000 in
theorem near_any (a b m : Int) (w : World) (h1 : I64 (a - m)) (h2 : I64 (b - m)) (h3 : a - m ≤ b) (h4 : b - m ≤ a) :
    Calls Try.prog 44 #[.int .i64 a, .int .i64 b, .int .i64 m] w fun e w' => e = .returned (.bool true) ∧ w = w' := by
  have d1 : decide (a - m ≤ b) = true := decide_eq_true h3
  have d2 : decide (b - m ≤ a) = true := decide_eq_true h4
  have w1 : wrap64 (a - m) = a - m := wrap64_I h1
  have w2 : wrap64 (b - m) = b - m := wrap64_I h2
  clear h1 h2 h3 h4
  go_enter Try.func44, Try.ntmps44
  go_wp2_with (fail)
  go_ret
  exact ⟨rfl, rfl⟩
end Go.Proofs.Ytmanfiphdmmgdaa
