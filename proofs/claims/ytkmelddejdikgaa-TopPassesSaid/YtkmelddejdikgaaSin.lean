/-
  Sines and cosines of package fixed and of its specification: what they return.
-/
import Derived.Test.YtkmelddejdikgaaWave
set_option linter.unusedSimpArgs false
set_option linter.unusedVariables false
namespace Go.Proofs.Ytkmelddejdikgaa
open Go.RowKit PM Dt
/-- The sine of q quarters of a turn and a part. -/
def sinQ (q r : Nat) : Int :=
  if q = 0 then waveV r else if q = 1 then waveV (1073741824 - r) else if q = 2 then wrap64 (-waveV r) else wrap64 (-waveV (1073741824 - r))
/-- The sine of a part of a turn. -/
def sinV (t : Nat) : Int := sinQ (t / 1073741824) (t % 1073741824)
theorem ret1J {k : IntKind} {a b : Int} (h : a = b) : Ending.returned (.int k a) = Ending.returned (.int k b) := by rw [h]
set_option maxRecDepth 100000 in
set_option maxHeartbeats 1000000 in
theorem sin_any (t : Nat) (w : World) (ht : t < 4294967296) :
    Calls Try.prog 133 #[.int .u32 t] w fun e w' => e = .returned (.int .i64 (sinV t)) ∧ Below w.heap.size w w' := by
  obtain ⟨q, hq⟩ : ∃ q, q = t / 1073741824 := ⟨_, rfl⟩
  obtain ⟨r, hr⟩ : ∃ r, r = t % 1073741824 := ⟨_, rfl⟩
  have hr1 : r < 1073741824 := by omega
  have hq1 : q < 4 := by omega
  have h1 : (t : Int) % 1073741824 = (r : Int) := by omega
  have h2 : (t : Int) / 1073741824 = (q : Int) := by omega
  unfold sinV
  rw [← hq, ← hr]
  clear ht hq hr
  have hB : More w w := Below.refl _ _
  rcases Nat.eq_or_lt_of_le (show 0 ≤ q by omega) with h | h
  · obtain rfl : q = 0 := h.symm
    have h3 : sinQ 0 r = waveV r := rfl
    rw [h3]
    clear hq1 h3 h
    go_enter Try.func133, Try.ntmps133
    go_wp2_with (first | (go_at_call 176; refine (wave_any _ _ (by omega) (by omega)).mono ?_; rintro e w1 ⟨rfl, hb⟩; replace hB := More.trans hB hb; clear hb))
    go_ret
    exact ⟨ret1J (by first | rfl | (congr 1 <;> omega)), hB⟩
  rcases Nat.eq_or_lt_of_le (show 1 ≤ q by omega) with h | h
  · obtain rfl : q = 1 := h.symm
    have h3 : sinQ 1 r = waveV (1073741824 - r) := rfl
    rw [h3]
    clear hq1 h3 h
    go_enter Try.func133, Try.ntmps133
    go_wp2_with (first | (go_at_call 176; refine (wave_any _ _ (by omega) (by omega)).mono ?_; rintro e w1 ⟨rfl, hb⟩; replace hB := More.trans hB hb; clear hb))
    go_ret
    exact ⟨ret1J (by first | rfl | (congr 1 <;> omega)), hB⟩
  rcases Nat.eq_or_lt_of_le (show 2 ≤ q by omega) with h | h
  · obtain rfl : q = 2 := h.symm
    have h3 : sinQ 2 r = wrap64 (-waveV r) := rfl
    rw [h3]
    clear hq1 h3 h
    go_enter Try.func133, Try.ntmps133
    go_wp2_with (first | (go_at_call 176; refine (wave_any _ _ (by omega) (by omega)).mono ?_; rintro e w1 ⟨rfl, hb⟩; replace hB := More.trans hB hb; clear hb))
    go_ret
    exact ⟨ret1J (by first | rfl | (congr 1 <;> omega)), hB⟩
  rcases Nat.eq_or_lt_of_le (show 3 ≤ q by omega) with h | h
  · obtain rfl : q = 3 := h.symm
    have h3 : sinQ 3 r = wrap64 (-waveV (1073741824 - r)) := rfl
    rw [h3]
    clear hq1 h3 h
    go_enter Try.func133, Try.ntmps133
    go_wp2_with (first | (go_at_call 176; refine (wave_any _ _ (by omega) (by omega)).mono ?_; rintro e w1 ⟨rfl, hb⟩; replace hB := More.trans hB hb; clear hb))
    go_ret
    exact ⟨ret1J (by first | rfl | (congr 1 <;> omega)), hB⟩
  omega
set_option maxRecDepth 100000 in
theorem cos_any (t : Nat) (w : World) (ht : t < 4294967296) :
    Calls Try.prog 135 #[.int .u32 t] w fun e w' => e = .returned (.int .i64 (sinV ((t + 1073741824) % 4294967296))) ∧ Below w.heap.size w w' := by
  have h1 : IntKind.u32.wrap ((t : Int) + 1073741824) = (((t + 1073741824) % 4294967296 : Nat) : Int) := by simp only [IntKind.wrap_u32]; omega
  obtain ⟨s, hs⟩ : ∃ s, s = (t + 1073741824) % 4294967296 := ⟨_, rfl⟩
  have hs1 : s < 4294967296 := by omega
  rw [← hs] at h1 ⊢
  clear hs ht
  have hB : More w w := Below.refl _ _
  go_enter Try.func135, Try.ntmps135
  go_wp2_with (first | (rw [h1]; go_at_call 133; refine (sin_any _ _ hs1).mono ?_; rintro e w1 ⟨rfl, hb⟩; replace hB := More.trans hB hb; clear hb) | (go_at_call 133; refine (sin_any _ _ hs1).mono ?_; rintro e w1 ⟨rfl, hb⟩; replace hB := More.trans hB hb; clear hb))
  go_ret
  exact ⟨rfl, hB⟩
end Go.Proofs.Ytkmelddejdikgaa
