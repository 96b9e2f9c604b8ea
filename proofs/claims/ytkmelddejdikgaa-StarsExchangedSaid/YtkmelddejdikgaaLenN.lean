/-
  Shortened vectors, in the package: sums of squares, the least integer that is not below a norm, quotients toward zero. Shortened vectors, in the package: the least integer that is not below a norm. Shortened vectors, in the package: quotients toward zero, and Limit. Shortened vectors: Limit of the package. Vector products of small vectors: orthogonal to their factors within the bound, and of the other sign in the other order. No program in sight. Unit vectors and shortened vectors: their norms, directions and signs. No program in sight.
-/
import Derived.Test.YtkmelddejdikgaaVUnit
import Derived.Test.YtkmelddejdikgaaShift
import Derived.Test.YtkmelddejdikgaaVecG
import Derived.Test.YtkmelddejdikgaaLawVec
import Derived.Test.YtkmelddejdikgaaLenM
set_option linter.unusedSimpArgs false
set_option linter.unusedVariables false
namespace Go.Proofs.Ytkmelddejdikgaa
open Go.RowKit PM Dt
end Go.Proofs.Ytkmelddejdikgaa
namespace Go.Proofs.Ytkmelddejdikgaa
open Go.RowKit PM Dt
def sq3 (f : Nat → Int) : Nat := sqs [f 0, f 1, f 2]
def lstN (f : Nat → Int) : Nat := isqrt (sq3 f)
theorem ok_sq {f : Nat → Int} (h : okV f = true) : sq3 f ≤ 3626777458843887524118528 := by
  have q : ∀ i, i < 3 → f i * f i ≤ 1208925819614629174706176 := fun i hi => by
    have hh := (vb_iff _).1 ((okV_iff f).1 h i hi)
    exact (bmul (P := 1099511627776) (R := 1099511627776) hh.1 hh.2 hh.1 hh.2).2
  have e := sqs3_i f
  have q0 := q 0 (by omega)
  have q1 := q 1 (by omega)
  have q2 := q 2 (by omega)
  unfold sq3
  omega
theorem lstN_spec {f : Nat → Int} (h : okV f = true) : lstN f * lstN f ≤ sq3 f ∧ sq3 f < (lstN f + 1) * (lstN f + 1) ∧ lstN f < 2199023255552 := by
  have hS := ok_sq h
  unfold lstN
  generalize sq3 f = S at *
  have h4 : S < 4 ^ 200 := Nat.lt_of_le_of_lt hS (by decide)
  exact ⟨(isqrt_ge h4).1 (Nat.le_refl _), (isqrt_lt h4).1 (Nat.lt_succ_self _), (isqrt_lt h4).2 (by omega)⟩
end Go.Proofs.Ytkmelddejdikgaa
namespace Go.Proofs.Ytkmelddejdikgaa
open Go.RowKit PM Dt
end Go.Proofs.Ytkmelddejdikgaa
namespace Go.Proofs.Ytkmelddejdikgaa
open Go.RowKit PM Dt
def okL (f : Nat → Int) (m : Int) : Prop := okV f = true ∧ 0 ≤ m ∧ m ≤ 1099511627776
instance (f : Nat → Int) (m : Int) : Decidable (okL f m) := by unfold okL; infer_instance
end Go.Proofs.Ytkmelddejdikgaa
namespace Go.Proofs.Ytkmelddejdikgaa
open Go.RowKit PM Dt
theorem rnd_err (n : Int) : ∃ e, 1073741824 * rnd n = n + e ∧ -536870912 ≤ e ∧ e ≤ 536870912 := ⟨1073741824 * rnd n - n, by omega, by unfold rnd; omega, by unfold rnd; omega⟩
end Go.Proofs.Ytkmelddejdikgaa
namespace Go.Proofs.Ytkmelddejdikgaa
open Go.RowKit PM Dt
theorem shft_scale (n : Nat) : ∀ (k : Nat) (f : Nat → Int), ∃ P : Int, ∀ i, shft n k f i = P * f i
  | 0, f => ⟨1, fun i => (Int.one_mul _).symm⟩
  | k + 1, f => by
    unfold shft
    split
    · obtain ⟨P, h⟩ := shft_scale n k (dbl f)
      exact ⟨P * 2, fun i => by rw [h i, Int.mul_assoc]; rfl⟩
    · exact ⟨1, fun i => (Int.one_mul _).symm⟩
/-- A unit vector: it is one; each component's error; its size. -/
theorem vun_core {f : Nat → Int} (hk : okV f = true) (hz : zV f = false) :
    vunE f = 0 ∧ (∀ i, i < 3 → vb (vunF f i) = true) ∧ (∃ N P : Int, 35184372088832 ≤ N ∧ ∀ i, i < 3 → ∃ d, 2 * (N * vunF f i) = 2 * (1073741824 * (P * f i)) + d ∧ -N ≤ d ∧ d ≤ N) ∧
    1073741823 * 1073741823 ≤ vunF f 0 * vunF f 0 + vunF f 1 * vunF f 1 + vunF f 2 * vunF f 2 ∧ vunF f 0 * vunF f 0 + vunF f 1 * vunF f 1 + vunF f 2 * vunF f 2 < 1073741825 * 1073741825 := by
  have hu : vunF f = vuX f := by unfold vunF; rw [hk, hz]; rfl
  have hE : vunE f = 0 := by unfold vunE; rw [hk, hz]; rfl
  rw [hu]
  have HL := zV_no hz
  have HU := ok_upb3 hk
  have hF := shft_upb 45 f HU
  have hb := shft_done 45 3 f HL
  obtain ⟨P, hP⟩ := shft_scale 3 45 f
  unfold vuX
  generalize shft 3 45 f = F at *
  obtain ⟨-, hfit⟩ := unit_fit hF hb
  have hS := sqs3_i F
  have q : ∀ i, i < 3 → F i * F i ≤ 4951760157141521099596496896 := fun i hi => by
    have hh := hF i hi
    exact (bmul (P := 70368744177664) (R := 70368744177664) hh.1 hh.2 hh.1 hh.2).2
  have q0 := q 0 (by omega)
  have q1 := q 1 (by omega)
  have q2 := q 2 (by omega)
  have n0 := sq_nn (F 0)
  have n1 := sq_nn (F 1)
  have n2 := sq_nn (F 2)
  obtain ⟨j, hj, hs⟩ : ∃ j, j < 3 ∧ sm (F j) = false := by
    apply Classical.byContradiction; intro hn
    have : sml 3 F = true := (sml_iff 3 F).2 fun i hi => by
      cases hx : sm (F i) with
      | true => rfl
      | false => exact absurd ⟨i, hi, hx⟩ hn
    rw [hb] at this; cases this
  have big : 1237940039285380274899124224 ≤ F j * F j := by
    have : ¬ (-35184372088832 < F j ∧ F j < 35184372088832) := fun hc => by rw [(sm_iff _).2 hc] at hs; cases hs
    by_cases h : 35184372088832 ≤ F j
    · exact Int.mul_le_mul h h (by omega) (by omega)
    · have h2 : 35184372088832 ≤ -F j := by omega
      have := Int.mul_le_mul h2 h2 (by omega) (by omega : (0 : Int) ≤ -F j)
      rw [Int.neg_mul_neg] at this
      exact this
  have hSl : 1237940039285380274899124224 ≤ F 0 * F 0 + F 1 * F 1 + F 2 * F 2 := by
    have : j = 0 ∨ j = 1 ∨ j = 2 := by omega
    rcases this with rfl | rfl | rfl <;> omega
  obtain ⟨S, hSS⟩ : ∃ S, sqs [F 0, F 1, F 2] = S := ⟨_, rfl⟩
  rw [hSS] at hS
  have h4 : S < 4 ^ 200 := Nat.lt_of_le_of_lt (show S ≤ 14855280471424563298789490688 by omega) (by decide)
  obtain ⟨N, hN⟩ : ∃ N, isqrt S = N := ⟨_, rfl⟩
  have hr : N < 140737488355328 := by rw [← hN]; exact (isqrt_lt h4).2 (by omega)
  have hl : 35184372088832 ≤ N := by rw [← hN]; exact (isqrt_ge h4).2 (by omega)
  have hu1 : S < (N + 1) * (N + 1) := (isqrt_lt h4).1 (by omega)
  have hu2 : N * N ≤ S := (isqrt_ge h4).1 (by omega)
  have hn3 : fitV (n3 F) = (N : Int) := by
    unfold n3 hypQ
    rw [hSS, hN]
    exact (fit_of (q := (N : Int)) (by omega) (by omega)).1
  rw [hn3] at hfit ⊢
  have hS1 : (N : Int) * N ≤ F 0 * F 0 + F 1 * F 1 + F 2 * F 2 := by rw [← hS]; exact_mod_cast hu2
  have hS2 : F 0 * F 0 + F 1 * F 1 + F 2 * F 2 < ((N : Int) + 1) * ((N : Int) + 1) := by rw [← hS]; exact_mod_cast hu1
  have hval : ∀ i, i < 3 → ratioV (F i) 1073741824 (N : Int) = nearest (F i * 1073741824) (N : Int) := fun i hi => by
    obtain ⟨h1, h2⟩ := hfit i hi
    unfold ratioE at h1
    unfold ratioV ratioQ
    rw [if_neg (by omega)] at h1
    rw [if_neg (by omega), if_neg (by omega)]
    unfold ratioQ at h1
    rw [if_neg (by omega)] at h1
    exact (fit_zero h1).2.2
  have herr : ∀ i, i < 3 → ∃ d, 2 * ((N : Int) * ratioV (F i) 1073741824 (N : Int)) = 2 * (1073741824 * F i) + d ∧ -(N : Int) ≤ d ∧ d ≤ N := fun i hi => by
    rw [hval i hi]
    obtain ⟨d, h1, h2⟩ := near_err (F i * 1073741824) (b := (N : Int)) (by omega)
    exact ⟨d, by rw [h1, Int.mul_comm (F i)], h2⟩
  obtain ⟨d0, e0, b0⟩ := herr 0 (by omega)
  obtain ⟨d1, e1, b1⟩ := herr 1 (by omega)
  obtain ⟨d2, e2, b2⟩ := herr 2 (by omega)
  have hA := three_sum (a0 := (F 0).natAbs) (a1 := (F 1).natAbs) (a2 := (F 2).natAbs) (N := (N : Int)) (by omega) (by omega) (by omega) (by omega) (by rw [abs_sq, abs_sq, abs_sq]; exact hS2)
  have core := unit_core (F3 := 0) (u3 := 0) (d3 := 0) (a3 := 0) (a0 := (F 0).natAbs) (a1 := (F 1).natAbs) (a2 := (F 2).natAbs) (c := 7) (N := (N : Int)) (by omega) (by simpa using hS1) (by simpa using hS2) e0 e1 e2 (by omega) b0 b1 b2 (by omega) (by omega) (by omega) (by omega) (by omega) hA
  refine ⟨hE, fun i hi => (hfit i hi).2, ⟨N, P, by omega, fun i hi => by rw [← hP i]; exact herr i hi⟩, ?_, ?_⟩
  · generalize ratioV (F 0) 1073741824 (N : Int) * ratioV (F 0) 1073741824 (N : Int) = x0 at *
    generalize ratioV (F 1) 1073741824 (N : Int) * ratioV (F 1) 1073741824 (N : Int) = x1 at *
    generalize ratioV (F 2) 1073741824 (N : Int) * ratioV (F 2) 1073741824 (N : Int) = x2 at *
    have := core.1
    omega
  · generalize ratioV (F 0) 1073741824 (N : Int) * ratioV (F 0) 1073741824 (N : Int) = x0 at *
    generalize ratioV (F 1) 1073741824 (N : Int) * ratioV (F 1) 1073741824 (N : Int) = x1 at *
    generalize ratioV (F 2) 1073741824 (N : Int) * ratioV (F 2) 1073741824 (N : Int) = x2 at *
    have := core.2
    omega
/-- The norm of a valid vector, by its square. -/
theorem norm_val {f : Nat → Int} (hk : okV f = true) : normE f = 0 ∧ ∃ N : Nat, normV f = N ∧ (N : Int) * N ≤ f 0 * f 0 + f 1 * f 1 + f 2 * f 2 ∧ f 0 * f 0 + f 1 * f 1 + f 2 * f 2 < ((N : Int) + 1) * ((N : Int) + 1) ∧ N < 2199023255552 := by
  obtain ⟨h1, h2, h3⟩ := lstN_spec hk
  have hh : hypQ [f 0, f 1, f 2] = ((lstN f : Nat) : Int) := rfl
  have hf := fit_of (q := ((lstN f : Nat) : Int)) (by omega) (by omega)
  have e := sqs3_i f
  refine ⟨by unfold normE; rw [hk, if_pos rfl, hh]; exact hf.2, lstN f, by unfold normV; rw [hk, if_pos rfl, hh]; exact hf.1, ?_, ?_, h3⟩
  · rw [← e]; exact_mod_cast h1
  · rw [← e]; exact_mod_cast h2
theorem vun_norm {f : Nat → Int} (hk : okV f = true) (hz : zV f = false) : okV (vunF f) = true ∧ normE (vunF f) = 0 ∧ (normV (vunF f) = 1073741824 ∨ normV (vunF f) = 1073741823) := by
  obtain ⟨_, hv, _, lo, hi⟩ := vun_core hk hz
  have hku : okV (vunF f) = true := (okV_iff _).2 hv
  obtain ⟨hE, N, hN, h1, h2, _⟩ := norm_val hku
  refine ⟨hku, hE, ?_⟩
  rw [hN]
  have a1 : (N : Int) < 1073741825 := sq_lt_iff (by omega) (by omega) (by omega)
  have a2 : (1073741823 : Int) < (N : Int) + 1 := sq_lt_iff (by omega) (by omega) (by omega)
  omega
end Go.Proofs.Ytkmelddejdikgaa
