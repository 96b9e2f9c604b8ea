/-
  FixedWaves and FixedRatios return true: the walks.
-/
import Derived.Test.YtjjpdcekhdcemaaAwakeFixed
set_option linter.unusedSimpArgs false
set_option linter.unusedVariables false
namespace Go.Proofs.Ytjjpdcekhdcemaa
open Go.RowKit PM Dt
set_option maxRecDepth 100000 in
set_option maxHeartbeats 1000000 in
theorem waves_any (t : Nat) (w : World) (ht : t < 4294967296) : Calls Try.prog 10 #[.int .u32 t] w fun e w' => e = .returned (.bool true) ∧ Below w.heap.size w w' := by
  have HT := Lib.hid ht
  clear ht
  have hB : More w w := Below.refl _ _
  go_enter Try.func10, Try.ntmps10
  go_wp2_with (first
    | (go_at_call 70; refine (sin_any _ _ HT.out).mono ?_; rintro e w1 ⟨rfl, hb⟩; replace hB := More.trans hB hb; clear hb)
    | (go_at_call 71; refine (rsin_any _ _ HT.out).mono ?_; rintro e w1 ⟨rfl, hb⟩; replace hB := More.trans hB hb; clear hb)
    | (go_at_call 72; refine (cos_any _ _ HT.out).mono ?_; rintro e w1 ⟨rfl, hb⟩; replace hB := More.trans hB hb; clear hb)
    | (go_at_call 73; refine (rcos_any _ _ HT.out).mono ?_; rintro e w1 ⟨rfl, hb⟩; replace hB := More.trans hB hb; clear hb)
    | (go_at_call 60; refine (awakeF_any _).mono ?_; rintro e w1 ⟨rfl, hb⟩; replace hB := More.trans hB hb; clear hb))
  go_ret
  exact ⟨rfl, hB⟩
set_option maxRecDepth 100000 in
set_option maxHeartbeats 1000000 in
theorem ratios_any (a b c : Int) (w : World) (ha : I64 a) (hb : I64 b) (hc : I64 c) : Calls Try.prog 9 #[.int .i64 a, .int .i64 b, .int .i64 c] w fun e w' => e = .returned (.bool true) ∧ Below w.heap.size w w' := by
  have HA := Lib.hid ha
  have HBB := Lib.hid hb
  have HC := Lib.hid hc
  clear ha hb hc
  have hB : More w w := Below.refl _ _
  go_enter Try.func9, Try.ntmps9
  go_wp2_with (first
    | (go_at_call 61; refine (mul_any _ _ _ HA.out HBB.out).mono ?_; rintro e w1 ⟨rfl, hb⟩; replace hB := More.trans hB hb; clear hb)
    | (go_at_call 64; refine (rmul_any _ _ _ HA.out HBB.out).mono ?_; rintro e w1 ⟨rfl, hb⟩; replace hB := More.trans hB hb; clear hb)
    | (go_at_call 63; refine (div_any _ _ _ HA.out HBB.out).mono ?_; rintro e w1 ⟨rfl, hb⟩; replace hB := More.trans hB hb; clear hb)
    | (go_at_call 65; refine (rdiv_any _ _ _ HA.out HBB.out).mono ?_; rintro e w1 ⟨rfl, hb⟩; replace hB := More.trans hB hb; clear hb)
    | (go_at_call 66; refine (ratio_any _ _ _ _ HA.out HBB.out HC.out).mono ?_; rintro e w1 ⟨rfl, hb⟩; replace hB := More.trans hB hb; clear hb)
    | (go_at_call 67; refine (rratio_any _ _ _ _ HA.out HBB.out HC.out).mono ?_; rintro e w1 ⟨rfl, hb⟩; replace hB := More.trans hB hb; clear hb)
    | (go_at_call 68; refine (clamp_any _ _ _ _).mono ?_; rintro e w1 ⟨rfl, rfl⟩)
    | (go_at_call 69; refine (rclamp_any _ _ _ _).mono ?_; rintro e w1 ⟨rfl, rfl⟩)
    | (go_at_call 60; refine (awakeF_any _).mono ?_; rintro e w1 ⟨rfl, hb⟩; replace hB := More.trans hB hb; clear hb))
  go_ret
  exact ⟨rfl, hB⟩
end Go.Proofs.Ytjjpdcekhdcemaa
