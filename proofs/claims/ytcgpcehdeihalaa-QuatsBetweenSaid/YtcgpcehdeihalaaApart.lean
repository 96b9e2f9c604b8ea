/-
  Two numbers that differ by at most so much.
-/
import Derived.Test.YtcgpcehdeihalaaQuatB
set_option linter.unusedSimpArgs false
set_option linter.unusedVariables false
namespace Go.Proofs.Ytcgpcehdeihalaa
open Go.RowKit PM Dt
set_option maxRecDepth 100000 in
set_option maxHeartbeats 2000000 in
theorem apart_any (a b m : Int) (w : World) (ha : -4611686018427387904 ≤ a ∧ a ≤ 4611686018427387904) (hb : -4611686018427387904 ≤ b ∧ b ≤ 4611686018427387904) (hm : 0 ≤ m ∧ m ≤ 9223372036854775807) (h1 : a ≤ b + m) (h2 : b ≤ a + m) : Calls Try.prog 21 #[.int .i64 a, .int .i64 b, .int .i64 m] w fun e w' => e = .returned (.bool false) ∧ Below w.heap.size w w' := by
  have wm : IntKind.u64.wrap m = m := by rw [IntKind.wrap_u64]; omega
  rcases Int.lt_trichotomy a b with h | h | h
  · have d1 : decide (b < a) = false := decide_eq_false (by omega)
    have d2 : decide (a < b) = true := decide_eq_true h
    have s1 : IntKind.u64.wrap (IntKind.u64.wrap b - IntKind.u64.wrap a) = b - a := by simp only [IntKind.wrap_u64]; omega
    have d3 : decide (m < b - a) = false := decide_eq_false (by omega)
    clear ha hb hm h1 h2 h
    go_enter Try.func21, Try.ntmps21
    go_wp2_with (fail)
    go_ret
    exact ⟨rfl, Below.refl _ _⟩
  · have d1 : decide (b < a) = false := decide_eq_false (by omega)
    have d2 : decide (a < b) = false := decide_eq_false (by omega)
    clear ha hb hm h1 h2 h
    go_enter Try.func21, Try.ntmps21
    go_wp2_with (fail)
    go_ret
    exact ⟨rfl, Below.refl _ _⟩
  · have d1 : decide (b < a) = true := decide_eq_true h
    have s1 : IntKind.u64.wrap (IntKind.u64.wrap a - IntKind.u64.wrap b) = a - b := by simp only [IntKind.wrap_u64]; omega
    have d2 : decide (a < b) = false := decide_eq_false (by omega)
    have d3 : decide (m < a - b) = false := decide_eq_false (by omega)
    clear ha hb hm h1 h2 h
    go_enter Try.func21, Try.ntmps21
    go_wp2_with (fail)
    go_ret
    exact ⟨rfl, Below.refl _ _⟩
end Go.Proofs.Ytcgpcehdeihalaa
