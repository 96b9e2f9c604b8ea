/-
  FixedRoots returns true: the walk.
-/
import Derived.Test.YtmanfiphdmmgdaaAwakeFixed
import Derived.Test.YtmanfiphdmmgdaaHypB
set_option linter.unusedSimpArgs false
set_option linter.unusedVariables false
namespace Go.Proofs.Ytmanfiphdmmgdaa
open Go.RowKit PM Dt
set_option maxRecDepth 100000 in
set_option maxHeartbeats 2000000 in
theorem roots_any (a : Int) (xs : List Int) (v : Value) (w : World) (ha : I64 a) (hv : Ints w v xs) (hx : ∀ k, k < xs.length → I64 (xs.getD k 0)) :
    Calls Try.prog 10 #[.int .i64 a, v] w fun e w' => e = .returned (.bool true) ∧ Below w.heap.size w w' := by
  have hlenI : ∀ a c n, v = .slice a n c → n = xs.length := by
    rintro a c n rfl
    rcases hv with ⟨h, a', c', hh⟩ | ⟨_, b, off, cap, hh, _⟩
    · cases hh; rw [h]; rfl
    · cases hh; rfl
  obtain ⟨va, vc, n, rfl⟩ : ∃ a c n, v = .slice a n c := by
    rcases hv with ⟨h, a', c', hh⟩ | ⟨_, b, off, cap, hh, _⟩
    · exact ⟨_, _, _, hh⟩
    · exact ⟨_, _, _, hh⟩
  clear hlenI
  have HV := Lib.hid hv
  have HX := Lib.hid hx
  have HA := Lib.hid ha
  have hB : More w w := Below.refl _ _
  clear hv hx ha
  by_cases h50 : 50 < n
  · have hd' : decide ((50 : Int) < (n : Int)) = true := decide_eq_true (by omega)
    clear h50
    go_enter Try.func10, Try.ntmps10
    go_wp2_with (go_at_call 42; refine (awakeF_any _).mono ?_; rintro e w1 ⟨rfl, hb⟩; replace hB := More.trans hB hb; clear hb)
    go_ret
    exact ⟨rfl, hB⟩
  · have hd' : decide ((50 : Int) < (n : Int)) = false := decide_eq_false (by omega)
    clear h50
    obtain ⟨s, hs⟩ : ∃ s : Int, s = (if a < 0 then (0 : Int) else ((isqrt (a.natAbs * 1073741824) : Nat) : Int)) := ⟨_, rfl⟩
    obtain ⟨se, hse⟩ : ∃ se : Int, se = (if a < 0 then 2 else 0) := ⟨_, rfl⟩
    obtain ⟨m, hm⟩ : ∃ m : Int, m = (if 8 < xs.length then 0 else fitV (hypQ xs)) := ⟨_, rfl⟩
    obtain ⟨me, hme⟩ : ∃ me : Int, me = (if 8 < xs.length then 2 else fitE (hypQ xs)) := ⟨_, rfl⟩
    have C1 := Lib.hid (fun w => sqrt_any a w HA.out)
    have C2 := Lib.hid (fun w => rsqrt_any a w HA.out)
    have C3 := Lib.hid (fun w hw => hypot_any xs (.slice va n vc) w hw HX.out)
    have C4 := Lib.hid (fun w hw => rhypot_any xs (.slice va n vc) w hw HX.out)
    rw [← hs, ← hse] at C1 C2
    rw [← hm, ← hme] at C3 C4
    clear hs hse hm hme
    go_enter Try.func10, Try.ntmps10
    go_wp2_with (first
      | (go_at_call 48; refine (C1.out _).mono ?_; rintro e w1 ⟨rfl, rfl⟩)
      | (go_at_call 49; refine (C2.out _).mono ?_; rintro e w1 ⟨rfl, hb⟩; replace hB := More.trans hB hb; clear hb)
      | (go_at_call 50; refine (C3.out _ (HV.out.below hB)).mono ?_; rintro e w1 ⟨rfl, rfl⟩)
      | (go_at_call 51; refine (C4.out _ (HV.out.below hB)).mono ?_; rintro e w1 ⟨rfl, hb⟩; replace hB := More.trans hB hb; clear hb)
      | (go_at_call 42; refine (awakeF_any _).mono ?_; rintro e w1 ⟨rfl, hb⟩; replace hB := More.trans hB hb; clear hb))
    go_ret
    exact ⟨rfl, hB⟩
end Go.Proofs.Ytmanfiphdmmgdaa
