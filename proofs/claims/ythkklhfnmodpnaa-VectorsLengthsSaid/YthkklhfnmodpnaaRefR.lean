/-
  Quotients, products and square roots by the specification's own numbers (package perigeeref01): Ratio, Mul, Div.
-/
import Derived.Test.YthkklhfnmodpnaaNear
set_option linter.unusedSimpArgs false
set_option linter.unusedVariables false
namespace Go.Proofs.Ythkklhfnmodpnaa
open Go.RowKit PM Dt
/-- An int64. -/
def I64 (a : Int) : Prop := -9223372036854775808 ≤ a ∧ a ≤ 9223372036854775807
theorem mul_abs_lt {a b : Int} (ha : I64 a) (hb : I64 b) : a.natAbs * b.natAbs < 170141183460469231731687303715884105728 := by
  have h1 : a.natAbs ≤ 9223372036854775808 := by obtain ⟨_, _⟩ := ha; omega
  have h2 : b.natAbs ≤ 9223372036854775808 := by obtain ⟨_, _⟩ := hb; omega
  have := Nat.mul_le_mul h1 h2
  omega
set_option maxRecDepth 100000 in
set_option maxHeartbeats 4000000 in
theorem rratio_any (a b c : Int) (w : World) (ha : I64 a) (hb : I64 b) (hc : I64 c) :
    Calls Try.prog 85 #[.int .i64 a, .int .i64 b, .int .i64 c] w fun e w' => e = .returned (.tuple #[.int .i64 (ratioV a b c), .int .i64 (ratioE a b c)]) ∧ Below w.heap.size w w' := by
  have HP := Lib.hid (mul_abs_lt ha hb)
  obtain ⟨ha1, ha2⟩ := ha
  obtain ⟨hb1, hb2⟩ := hb
  obtain ⟨hc1, hc2⟩ := hc
  have hB : Below w.heap.size w w := Below.refl _ _
  by_cases hc0 : c = 0
  · subst hc0
    go_enter Try.func85, Try.ntmps85
    go_wp2_with (fail)
    go_ret2
    exact ⟨rfl, Below.refl _ _⟩
  · have hq := ratioQ_nearest a b c _ rfl
    have HQ := Lib.hid hq
    have hcz : (c == 0) = false := by simpa using hc0
    have HV : Hid (ratioV a b c = fitV (ratioQ a b c)) := by show _ = _; unfold ratioV; rw [if_neg hc0]
    have HE : Hid (ratioE a b c = fitE (ratioQ a b c)) := by show _ = _; unfold ratioE; rw [if_neg hc0]
    clear hq
    by_cases hsa : a < 0 <;> by_cases hsb : b < 0 <;> by_cases hsc : c < 0
    all_goals
      first | have SA := Lib.hid (show decide (a < 0) = true from decide_eq_true hsa) | have SA := Lib.hid (show decide (a < 0) = false from decide_eq_false hsa)
      first | have SB := Lib.hid (show decide (b < 0) = true from decide_eq_true hsb) | have SB := Lib.hid (show decide (b < 0) = false from decide_eq_false hsb)
      first | have SC := Lib.hid (show decide (c < 0) = true from decide_eq_true hsc) | have SC := Lib.hid (show decide (c < 0) = false from decide_eq_false hsc)
      go_enter Try.func85, Try.ntmps85
      go_wp2_with (first | (go_at_call 95; refine (abs_any _ _ (by omega) (by omega)).mono ?_; rintro e w1 ⟨rfl, hb⟩; have hB := More.trans hB hb; clear hb) | (go_at_call 94; refine (times_any _ _ _ (by omega) (by omega)).mono ?_; rintro e w1 ⟨rfl, hb⟩; have hB := More.trans hB hb; clear hb) | (go_at_call 115; refine (nearest_any _ _ _ _ HP.out (by omega) (by omega)).mono ?_; rintro e w1 ⟨rfl, hb⟩; have hB := More.trans hB hb; clear hb))
      go_ret2
      refine ⟨ret2I ?_ ?_, hB⟩
      · rw [HV.out, HQ.out, SA.out, SB.out, SC.out]; rfl
      · rw [HE.out, HQ.out, SA.out, SB.out, SC.out]; rfl
end Go.Proofs.Ythkklhfnmodpnaa
