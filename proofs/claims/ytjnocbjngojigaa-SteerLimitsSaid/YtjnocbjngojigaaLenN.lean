/-
  Vector products of small vectors: orthogonal to their factors within the bound, and of the other sign in the other order. No program in sight. Unit vectors and shortened vectors: their norms, directions and signs. No program in sight.
-/
import Derived.Test.YtjnocbjngojigaaVecG
import Derived.Test.YtjnocbjngojigaaLawVec
import Derived.Test.YtjnocbjngojigaaLenM
import Derived.Test.YtjnocbjngojigaaVLimP
set_option linter.unusedSimpArgs false
set_option linter.unusedVariables false
namespace Go.Proofs.Ytjnocbjngojigaa
open Go.RowKit PM Dt
theorem rnd_err (n : Int) : ∃ e, 1073741824 * rnd n = n + e ∧ -536870912 ≤ e ∧ e ≤ 536870912 := ⟨1073741824 * rnd n - n, by omega, by unfold rnd; omega, by unfold rnd; omega⟩
end Go.Proofs.Ytjnocbjngojigaa
namespace Go.Proofs.Ytjnocbjngojigaa
open Go.RowKit PM Dt
theorem shft_scale (n : Nat) : ∀ (k : Nat) (f : Nat → Int), ∃ P : Int, ∀ i, shft n k f i = P * f i
  | 0, f => ⟨1, fun i => (Int.one_mul _).symm⟩
  | k + 1, f => by
    unfold shft
    split
    · obtain ⟨P, h⟩ := shft_scale n k (dbl f)
      exact ⟨P * 2, fun i => by rw [h i, Int.mul_assoc]; rfl⟩
    · exact ⟨1, fun i => (Int.one_mul _).symm⟩
/-- A unit vector: it is one; each component's error; its size. -/
theorem vun_core {f : Nat → Int} (hk : okV f = true) (hz : zV f = false) :
    vunE f = 0 ∧ (∀ i, i < 3 → vb (vunF f i) = true) ∧ (∃ N P : Int, 35184372088832 ≤ N ∧ ∀ i, i < 3 → ∃ d, 2 * (N * vunF f i) = 2 * (1073741824 * (P * f i)) + d ∧ -N ≤ d ∧ d ≤ N) ∧
    1073741823 * 1073741823 ≤ vunF f 0 * vunF f 0 + vunF f 1 * vunF f 1 + vunF f 2 * vunF f 2 ∧ vunF f 0 * vunF f 0 + vunF f 1 * vunF f 1 + vunF f 2 * vunF f 2 < 1073741825 * 1073741825 := by
  have hu : vunF f = vuX f := by unfold vunF; rw [hk, hz]; rfl
  have hE : vunE f = 0 := by unfold vunE; rw [hk, hz]; rfl
  rw [hu]
  have HL := zV_no hz
  have HU := ok_upb3 hk
  have hF := shft_upb 45 f HU
  have hb := shft_done 45 3 f HL
  obtain ⟨P, hP⟩ := shft_scale 3 45 f
  unfold vuX
  generalize shft 3 45 f = F at *
  obtain ⟨-, hfit⟩ := unit_fit hF hb
  have hS := sqs3_i F
  have q : ∀ i, i < 3 → F i * F i ≤ 4951760157141521099596496896 := fun i hi => by
    have hh := hF i hi
    exact (bmul (P := 70368744177664) (R := 70368744177664) hh.1 hh.2 hh.1 hh.2).2
  have q0 := q 0 (by omega)
  have q1 := q 1 (by omega)
  have q2 := q 2 (by omega)
  have n0 := sq_nn (F 0)
  have n1 := sq_nn (F 1)
  have n2 := sq_nn (F 2)
  obtain ⟨j, hj, hs⟩ : ∃ j, j < 3 ∧ sm (F j) = false := by
    apply Classical.byContradiction; intro hn
    have : sml 3 F = true := (sml_iff 3 F).2 fun i hi => by
      cases hx : sm (F i) with
      | true => rfl
      | false => exact absurd ⟨i, hi, hx⟩ hn
    rw [hb] at this; cases this
  have big : 1237940039285380274899124224 ≤ F j * F j := by
    have : ¬ (-35184372088832 < F j ∧ F j < 35184372088832) := fun hc => by rw [(sm_iff _).2 hc] at hs; cases hs
    by_cases h : 35184372088832 ≤ F j
    · exact Int.mul_le_mul h h (by omega) (by omega)
    · have h2 : 35184372088832 ≤ -F j := by omega
      have := Int.mul_le_mul h2 h2 (by omega) (by omega : (0 : Int) ≤ -F j)
      rw [Int.neg_mul_neg] at this
      exact this
  have hSl : 1237940039285380274899124224 ≤ F 0 * F 0 + F 1 * F 1 + F 2 * F 2 := by
    have : j = 0 ∨ j = 1 ∨ j = 2 := by omega
    rcases this with rfl | rfl | rfl <;> omega
  obtain ⟨S, hSS⟩ : ∃ S, sqs [F 0, F 1, F 2] = S := ⟨_, rfl⟩
  rw [hSS] at hS
  have h4 : S < 4 ^ 200 := Nat.lt_of_le_of_lt (show S ≤ 14855280471424563298789490688 by omega) (by decide)
  obtain ⟨N, hN⟩ : ∃ N, isqrt S = N := ⟨_, rfl⟩
  have hr : N < 140737488355328 := by rw [← hN]; exact (isqrt_lt h4).2 (by omega)
  have hl : 35184372088832 ≤ N := by rw [← hN]; exact (isqrt_ge h4).2 (by omega)
  have hu1 : S < (N + 1) * (N + 1) := (isqrt_lt h4).1 (by omega)
  have hu2 : N * N ≤ S := (isqrt_ge h4).1 (by omega)
  have hn3 : fitV (n3 F) = (N : Int) := by
    unfold n3 hypQ
    rw [hSS, hN]
    exact (fit_of (q := (N : Int)) (by omega) (by omega)).1
  rw [hn3] at hfit ⊢
  have hS1 : (N : Int) * N ≤ F 0 * F 0 + F 1 * F 1 + F 2 * F 2 := by rw [← hS]; exact_mod_cast hu2
  have hS2 : F 0 * F 0 + F 1 * F 1 + F 2 * F 2 < ((N : Int) + 1) * ((N : Int) + 1) := by rw [← hS]; exact_mod_cast hu1
  have hval : ∀ i, i < 3 → ratioV (F i) 1073741824 (N : Int) = nearest (F i * 1073741824) (N : Int) := fun i hi => by
    obtain ⟨h1, h2⟩ := hfit i hi
    unfold ratioE at h1
    unfold ratioV ratioQ
    rw [if_neg (by omega)] at h1
    rw [if_neg (by omega), if_neg (by omega)]
    unfold ratioQ at h1
    rw [if_neg (by omega)] at h1
    exact (fit_zero h1).2.2
  have herr : ∀ i, i < 3 → ∃ d, 2 * ((N : Int) * ratioV (F i) 1073741824 (N : Int)) = 2 * (1073741824 * F i) + d ∧ -(N : Int) ≤ d ∧ d ≤ N := fun i hi => by
    rw [hval i hi]
    obtain ⟨d, h1, h2⟩ := near_err (F i * 1073741824) (b := (N : Int)) (by omega)
    exact ⟨d, by rw [h1, Int.mul_comm (F i)], h2⟩
  obtain ⟨d0, e0, b0⟩ := herr 0 (by omega)
  obtain ⟨d1, e1, b1⟩ := herr 1 (by omega)
  obtain ⟨d2, e2, b2⟩ := herr 2 (by omega)
  have hA := three_sum (a0 := (F 0).natAbs) (a1 := (F 1).natAbs) (a2 := (F 2).natAbs) (N := (N : Int)) (by omega) (by omega) (by omega) (by omega) (by rw [abs_sq, abs_sq, abs_sq]; exact hS2)
  have core := unit_core (F3 := 0) (u3 := 0) (d3 := 0) (a3 := 0) (a0 := (F 0).natAbs) (a1 := (F 1).natAbs) (a2 := (F 2).natAbs) (c := 7) (N := (N : Int)) (by omega) (by simpa using hS1) (by simpa using hS2) e0 e1 e2 (by omega) b0 b1 b2 (by omega) (by omega) (by omega) (by omega) (by omega) hA
  refine ⟨hE, fun i hi => (hfit i hi).2, ⟨N, P, by omega, fun i hi => by rw [← hP i]; exact herr i hi⟩, ?_, ?_⟩
  · generalize ratioV (F 0) 1073741824 (N : Int) * ratioV (F 0) 1073741824 (N : Int) = x0 at *
    generalize ratioV (F 1) 1073741824 (N : Int) * ratioV (F 1) 1073741824 (N : Int) = x1 at *
    generalize ratioV (F 2) 1073741824 (N : Int) * ratioV (F 2) 1073741824 (N : Int) = x2 at *
    have := core.1
    omega
  · generalize ratioV (F 0) 1073741824 (N : Int) * ratioV (F 0) 1073741824 (N : Int) = x0 at *
    generalize ratioV (F 1) 1073741824 (N : Int) * ratioV (F 1) 1073741824 (N : Int) = x1 at *
    generalize ratioV (F 2) 1073741824 (N : Int) * ratioV (F 2) 1073741824 (N : Int) = x2 at *
    have := core.2
    omega
theorem sq_div {a m L : Nat} : (a * m / L * L) * (a * m / L * L) ≤ (a * a) * (m * m) := by
  have h := Nat.div_mul_le_self (a * m) L
  have := Nat.mul_le_mul h h
  have e : (a * m) * (a * m) = (a * a) * (m * m) := by grind
  omega
/-- A shortened vector: each component, the signs, and its norm. -/
theorem lim_core {f : Nat → Int} {m : Int} (h : okL f m) : (∀ i, i < 3 → -m ≤ limF f m i ∧ limF f m i ≤ m) ∧ (∀ i, i < 3 → limF f m i ≠ 0 → (limF f m i < 0 ↔ f i < 0)) ∧
    limF f m 0 * limF f m 0 + limF f m 1 * limF f m 1 + limF f m 2 * limF f m 2 ≤ m * m := by
  obtain ⟨hk, h0, h1⟩ := h
  have hf : limF f m = if (lst f : Int) ≤ m then f else limX f m := by unfold limF; rw [if_pos ⟨hk, h0, h1⟩]
  obtain ⟨M, rfl⟩ : ∃ M : Nat, m = M := ⟨m.toNat, by omega⟩
  have hS := sqs3_i f
  have hp := fun i hi => lst_part hk i hi
  have hL : ¬ lst f * lst f < sq3 f := fun hh => Nat.lt_irrefl _ ((lst_above hk _).2 hh)
  have hS' : ((sq3 f : Nat) : Int) = f 0 * f 0 + f 1 * f 1 + f 2 * f 2 := hS
  by_cases hl : (lst f : Int) ≤ M
  · rw [hf, if_pos hl]
    refine ⟨fun i hi => by have := hp i hi; omega, fun i hi _ => Iff.rfl, ?_⟩
    have h3 : lst f * lst f ≤ M * M := Nat.mul_le_mul (by omega) (by omega)
    rw [← hS']
    have : sq3 f ≤ M * M := by omega
    exact_mod_cast this
  · rw [hf, if_neg hl]
    unfold limX
    rw [Int.toNat_natCast]
    generalize lst f = L at *
    have hL0 : 0 < L := by omega
    have hle := fun i hi => tow_le (m := M) hL0 (hp i hi)
    have sq : ∀ i, towV (f i) M L * towV (f i) M L = (((f i).natAbs * M / L * ((f i).natAbs * M / L) : Nat) : Int) := fun i => by
      unfold towV
      split
      · rw [Int.neg_mul_neg, Int.natCast_mul]
      · rw [Int.natCast_mul]
    refine ⟨fun i hi => ?_, fun i hi hne => ?_, ?_⟩
    · have := hle i hi
      unfold towV
      generalize (f i).natAbs * M / L = q at *
      split <;> omega
    · unfold towV at hne ⊢
      generalize (f i).natAbs * M / L = q at *
      split at hne <;> rename_i hc
      · rw [if_pos hc]; omega
      · rw [if_neg hc]; omega
    · rw [sq, sq, sq]
      have s0 := sq_div (a := (f 0).natAbs) (m := M) (L := L)
      have s1 := sq_div (a := (f 1).natAbs) (m := M) (L := L)
      have s2 := sq_div (a := (f 2).natAbs) (m := M) (L := L)
      have hsq : sq3 f = (f 0).natAbs * (f 0).natAbs + (f 1).natAbs * (f 1).natAbs + (f 2).natAbs * (f 2).natAbs := by
        unfold sq3
        rw [sqs_cons, sqs_cons, sqs_cons, sqs_nil]
        omega
      rw [hsq] at hL
      generalize (f 0).natAbs * M / L = q0 at *
      generalize (f 1).natAbs * M / L = q1 at *
      generalize (f 2).natAbs * M / L = q2 at *
      generalize (f 0).natAbs * (f 0).natAbs = A0 at *
      generalize (f 1).natAbs * (f 1).natAbs = A1 at *
      generalize (f 2).natAbs * (f 2).natAbs = A2 at *
      have key : (L * L) * (q0 * q0 + q1 * q1 + q2 * q2) ≤ (L * L) * (M * M) := by
        have e : (L * L) * (q0 * q0 + q1 * q1 + q2 * q2) = (q0 * L) * (q0 * L) + (q1 * L) * (q1 * L) + (q2 * L) * (q2 * L) := by grind
        have e2 : A0 * (M * M) + A1 * (M * M) + A2 * (M * M) = (A0 + A1 + A2) * (M * M) := by grind
        have e3 : (A0 + A1 + A2) * (M * M) ≤ (L * L) * (M * M) := Nat.mul_le_mul (by omega) (Nat.le_refl _)
        rw [e]
        omega
      have := Nat.le_of_mul_le_mul_left key (Nat.mul_pos hL0 hL0)
      exact_mod_cast this
end Go.Proofs.Ytjnocbjngojigaa
