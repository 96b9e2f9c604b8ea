/-
  Norms of unit vectors: arithmetic. No program in sight. Vector products of small vectors: orthogonal to their factors within the bound, and of the other sign in the other order. No program in sight. Unit vectors and shortened vectors: their norms, directions and signs. No program in sight. Norms of quaternions: unit quaternions, products, turned attitudes. No program in sight.
-/
import Derived.Test.YtkmelddejdikgaaVUnit
import Derived.Test.YtkmelddejdikgaaVecG
import Derived.Test.YtkmelddejdikgaaLawVec
import Derived.Test.YtkmelddejdikgaaVLimP
import Derived.Test.YtkmelddejdikgaaTurn
set_option linter.unusedSimpArgs false
set_option linter.unusedVariables false
namespace Go.Proofs.Ytkmelddejdikgaa
open Go.RowKit PM Dt
theorem sq_nn (x : Int) : 0 ≤ x * x := by
  by_cases h : 0 ≤ x
  · exact Int.mul_nonneg h h
  · exact Int.mul_nonneg_of_nonpos_of_nonpos (by omega) (by omega)
theorem sq_mono {a b : Int} (h0 : 0 ≤ a) (h : a ≤ b) : a * a ≤ b * b := Int.mul_le_mul h h h0 (by omega)
theorem sq_lt_iff {a b : Int} (ha : 0 ≤ a) (hb : 0 ≤ b) (h : a * a < b * b) : a < b := by
  apply Classical.byContradiction; intro hc
  have := sq_mono hb (show b ≤ a by omega)
  omega
theorem three_sq (a b c : Int) : (a + b + c) * (a + b + c) ≤ 3 * (a * a + b * b + c * c) := by
  have h1 := sq_nn (a - b)
  have h2 := sq_nn (b - c)
  have h3 := sq_nn (a - c)
  have e : 3 * (a * a + b * b + c * c) = (a + b + c) * (a + b + c) + ((a - b) * (a - b) + (b - c) * (b - c) + (a - c) * (a - c)) := by grind
  omega
theorem four_sq (a b c d : Int) : (a + b + c + d) * (a + b + c + d) ≤ 4 * (a * a + b * b + c * c + d * d) := by
  have h1 := sq_nn (a - b)
  have h2 := sq_nn (b - c)
  have h3 := sq_nn (a - c)
  have h4 := sq_nn (a - d)
  have h5 := sq_nn (b - d)
  have h6 := sq_nn (c - d)
  have e : 4 * (a * a + b * b + c * c + d * d) = (a + b + c + d) * (a + b + c + d) + ((a - b) * (a - b) + (b - c) * (b - c) + (a - c) * (a - c) + (a - d) * (a - d) + (b - d) * (b - d) + (c - d) * (c - d)) := by grind
  omega
theorem abs_sq (a : Int) : (a.natAbs : Int) * (a.natAbs : Int) = a * a := Int.natAbs_mul_self' a
theorem near_err (a : Int) {b : Int} (hb : 0 < b) : ∃ d, 2 * (b * nearest a b) = 2 * a + d ∧ -b ≤ d ∧ d ≤ b := by
  refine ⟨2 * (b * nearest a b) - 2 * a, by omega, ?_, ?_⟩
  all_goals
    have h1 := Int.mul_ediv_self_le (x := 2 * a + b) (k := 2 * b) (by omega)
    have h2 := Int.lt_mul_ediv_self_add (x := 2 * a + b) (k := 2 * b) (by omega)
    have e : 2 * b * ((2 * a + b) / (2 * b)) = 2 * (b * nearest a b) := by unfold nearest; rw [Int.mul_assoc]
    rw [e] at h1 h2
    omega
theorem comp_id {O N F u d : Int} (h : 2 * (N * u) = 2 * (O * F) + d) : 4 * ((N * N) * (u * u)) = 4 * ((O * O) * (F * F)) + 4 * (O * (F * d)) + d * d := by
  have e : 4 * ((N * N) * (u * u)) = (2 * (N * u)) * (2 * (N * u)) := by grind
  rw [e, h]
  grind
theorem core_sum {m0 m1 m2 m3 s0 s1 s2 s3 t0 t1 t2 t3 g0 g1 g2 g3 : Int} (i0 : 4 * m0 = 4 * (1073741824 * 1073741824 * s0) + 4 * (1073741824 * t0) + g0) (i1 : 4 * m1 = 4 * (1073741824 * 1073741824 * s1) + 4 * (1073741824 * t1) + g1)
    (i2 : 4 * m2 = 4 * (1073741824 * 1073741824 * s2) + 4 * (1073741824 * t2) + g2) (i3 : 4 * m3 = 4 * (1073741824 * 1073741824 * s3) + 4 * (1073741824 * t3) + g3) :
    4 * m0 + 4 * m1 + 4 * m2 + 4 * m3 = 4611686018427387904 * (s0 + s1 + s2 + s3) + 4294967296 * (t0 + t1 + t2 + t3) + (g0 + g1 + g2 + g3) := by omega
theorem core_Y {r0 r1 r2 r3 t0 t1 t2 t3 : Int} (p0 : -r0 ≤ t0 ∧ t0 ≤ r0) (p1 : -r1 ≤ t1 ∧ t1 ≤ r1) (p2 : -r2 ≤ t2 ∧ t2 ≤ r2) (p3 : -r3 ≤ t3 ∧ t3 ≤ r3) : -(r0 + r1 + r2 + r3) ≤ t0 + t1 + t2 + t3 ∧ t0 + t1 + t2 + t3 ≤ r0 + r1 + r2 + r3 := by omega
theorem core_Z {M g0 g1 g2 g3 : Int} (p0 : -M ≤ g0 ∧ g0 ≤ M) (p1 : -M ≤ g1 ∧ g1 ≤ M) (p2 : -M ≤ g2 ∧ g2 ≤ M) (p3 : -M ≤ g3 ∧ g3 ≤ M) (n0 : 0 ≤ g0) (n1 : 0 ≤ g1) (n2 : 0 ≤ g2) (n3 : 0 ≤ g3) : 0 ≤ g0 + g1 + g2 + g3 ∧ g0 + g1 + g2 + g3 ≤ 4 * M := by omega
theorem core_lo {M X Y Z R C : Int} (hY : -R ≤ Y ∧ Y ≤ R) (hS : M ≤ X) (hAN : 4 * R ≤ C) (hZ : 0 ≤ Z ∧ Z ≤ 4 * M) : 4611686018427387904 * M - 1073741824 * C ≤ 4611686018427387904 * X + 4294967296 * Y + Z := by omega
theorem core_hi {M X Y Z R C N : Int} (hY : -R ≤ Y ∧ Y ≤ R) (hS : X < M + 2 * N + 1) (hAN : 4 * R ≤ C) (hZ : 0 ≤ Z ∧ Z ≤ 4 * M) (hN : 35184372088832 * N ≤ M) : 4611686018427387904 * X + 4294967296 * Y + Z ≤ 4611686018427387904 * M + 1073741824 * C + 262148 * M := by omega
theorem unit_core {F0 F1 F2 F3 u0 u1 u2 u3 d0 d1 d2 d3 a0 a1 a2 a3 N c : Int} (hN : 35184372088832 ≤ N)
    (hS1 : N * N ≤ F0 * F0 + F1 * F1 + F2 * F2 + F3 * F3) (hS2 : F0 * F0 + F1 * F1 + F2 * F2 + F3 * F3 < (N + 1) * (N + 1))
    (h0 : 2 * (N * u0) = 2 * (1073741824 * F0) + d0) (h1 : 2 * (N * u1) = 2 * (1073741824 * F1) + d1) (h2 : 2 * (N * u2) = 2 * (1073741824 * F2) + d2) (h3 : 2 * (N * u3) = 2 * (1073741824 * F3) + d3)
    (b0 : -N ≤ d0 ∧ d0 ≤ N) (b1 : -N ≤ d1 ∧ d1 ≤ N) (b2 : -N ≤ d2 ∧ d2 ≤ N) (b3 : -N ≤ d3 ∧ d3 ≤ N)
    (e0 : -a0 ≤ F0 ∧ F0 ≤ a0) (e1 : -a1 ≤ F1 ∧ F1 ≤ a1) (e2 : -a2 ≤ F2 ∧ F2 ≤ a2) (e3 : -a3 ≤ F3 ∧ F3 ≤ a3) (hA : 4 * (a0 + a1 + a2 + a3) ≤ c * N) :
    4611686018427387904 - 1073741824 * c ≤ 4 * (u0 * u0 + u1 * u1 + u2 * u2 + u3 * u3) ∧ 4 * (u0 * u0 + u1 * u1 + u2 * u2 + u3 * u3) ≤ 4611686018427387904 + 1073741824 * c + 262148 := by
  have i0 := comp_id h0
  have i1 := comp_id h1
  have i2 := comp_id h2
  have i3 := comp_id h3
  have p0 := bmul e0.1 e0.2 b0.1 b0.2
  have p1 := bmul e1.1 e1.2 b1.1 b1.2
  have p2 := bmul e2.1 e2.2 b2.1 b2.2
  have p3 := bmul e3.1 e3.2 b3.1 b3.2
  have q0 := bmul b0.1 b0.2 b0.1 b0.2
  have q1 := bmul b1.1 b1.2 b1.1 b1.2
  have q2 := bmul b2.1 b2.2 b2.1 b2.2
  have q3 := bmul b3.1 b3.2 b3.1 b3.2
  have n0 := sq_nn d0
  have n1 := sq_nn d1
  have n2 := sq_nn d2
  have n3 := sq_nn d3
  clear h0 h1 h2 h3 b0 b1 b2 b3 e0 e1 e2 e3
  have hAN : 4 * (a0 * N + a1 * N + a2 * N + a3 * N) ≤ c * (N * N) := by
    have := Int.mul_le_mul_of_nonneg_right hA (show 0 ≤ N by omega)
    have e : 4 * (a0 + a1 + a2 + a3) * N = 4 * (a0 * N + a1 * N + a2 * N + a3 * N) := by grind
    have e2 : c * N * N = c * (N * N) := Int.mul_assoc _ _ _
    omega
  have hNN : 35184372088832 * N ≤ N * N := Int.mul_le_mul_of_nonneg_right hN (by omega)
  have hSS : (N + 1) * (N + 1) = N * N + 2 * N + 1 := by grind
  have hPos : 0 < N * N := Int.mul_pos (by omega) (by omega)
  have hu : (N * N) * (4 * (u0 * u0 + u1 * u1 + u2 * u2 + u3 * u3)) = 4 * ((N * N) * (u0 * u0)) + 4 * ((N * N) * (u1 * u1)) + 4 * ((N * N) * (u2 * u2)) + 4 * ((N * N) * (u3 * u3)) := by grind
  have hsum := hu.trans (core_sum i0 i1 i2 i3)
  have hY := core_Y p0 p1 p2 p3
  have hZ := core_Z q0 q1 q2 q3 n0 n1 n2 n3
  have hS2' : F0 * F0 + F1 * F1 + F2 * F2 + F3 * F3 < N * N + 2 * N + 1 := by rw [← hSS]; exact hS2
  have e1 : N * N * (4611686018427387904 - 1073741824 * c) = 4611686018427387904 * (N * N) - 1073741824 * (c * (N * N)) := by
    generalize N * N = M
    rw [Int.mul_sub, Int.mul_comm M, Int.mul_left_comm, Int.mul_comm M]
  have e2 : N * N * (4611686018427387904 + 1073741824 * c + 262148) = 4611686018427387904 * (N * N) + 1073741824 * (c * (N * N)) + 262148 * (N * N) := by
    generalize N * N = M
    rw [Int.mul_add, Int.mul_add, Int.mul_comm M, Int.mul_left_comm, Int.mul_comm M, Int.mul_comm M]
  have lo : N * N * (4611686018427387904 - 1073741824 * c) ≤ N * N * (4 * (u0 * u0 + u1 * u1 + u2 * u2 + u3 * u3)) := by
    rw [e1, hsum]
    exact core_lo hY hS1 hAN hZ
  have hi : N * N * (4 * (u0 * u0 + u1 * u1 + u2 * u2 + u3 * u3)) ≤ N * N * (4611686018427387904 + 1073741824 * c + 262148) := by
    rw [e2, hsum]
    exact core_hi hY hS2' hAN hZ hNN
  exact ⟨Int.le_of_mul_le_mul_left lo hPos, Int.le_of_mul_le_mul_left hi hPos⟩
theorem three_sum {a0 a1 a2 N : Int} (hN : 35184372088832 ≤ N) (n0 : 0 ≤ a0) (n1 : 0 ≤ a1) (n2 : 0 ≤ a2) (hS2 : a0 * a0 + a1 * a1 + a2 * a2 < (N + 1) * (N + 1)) : 4 * (a0 + a1 + a2 + 0) ≤ 7 * N := by
  have h := three_sq a0 a1 a2
  apply Classical.byContradiction; intro hc
  have h2 : (7 * N + 1) * (7 * N + 1) ≤ (4 * (a0 + a1 + a2)) * (4 * (a0 + a1 + a2)) := sq_mono (by omega) (by omega)
  have e1 : (4 * (a0 + a1 + a2)) * (4 * (a0 + a1 + a2)) = 16 * ((a0 + a1 + a2) * (a0 + a1 + a2)) := by grind
  have e2 : (7 * N + 1) * (7 * N + 1) = 49 * (N * N) + 14 * N + 1 := by grind
  have e3 : (N + 1) * (N + 1) = N * N + 2 * N + 1 := by grind
  have hNN : 35184372088832 * N ≤ N * N := Int.mul_le_mul_of_nonneg_right hN (by omega)
  omega
theorem four_sum {a0 a1 a2 a3 N : Int} (hN : 35184372088832 ≤ N) (n0 : 0 ≤ a0) (n1 : 0 ≤ a1) (n2 : 0 ≤ a2) (n3 : 0 ≤ a3) (hS2 : a0 * a0 + a1 * a1 + a2 * a2 + a3 * a3 < (N + 1) * (N + 1)) : 4 * (a0 + a1 + a2 + a3) ≤ 9 * N := by
  have h := four_sq a0 a1 a2 a3
  apply Classical.byContradiction; intro hc
  have h2 : (9 * N + 1) * (9 * N + 1) ≤ (4 * (a0 + a1 + a2 + a3)) * (4 * (a0 + a1 + a2 + a3)) := sq_mono (by omega) (by omega)
  have e1 : (4 * (a0 + a1 + a2 + a3)) * (4 * (a0 + a1 + a2 + a3)) = 16 * ((a0 + a1 + a2 + a3) * (a0 + a1 + a2 + a3)) := by grind
  have e2 : (9 * N + 1) * (9 * N + 1) = 81 * (N * N) + 18 * N + 1 := by grind
  have e3 : (N + 1) * (N + 1) = N * N + 2 * N + 1 := by grind
  have hNN : 35184372088832 * N ≤ N * N := Int.mul_le_mul_of_nonneg_right hN (by omega)
  omega
end Go.Proofs.Ytkmelddejdikgaa
namespace Go.Proofs.Ytkmelddejdikgaa
open Go.RowKit PM Dt
theorem rnd_err (n : Int) : ∃ e, 1073741824 * rnd n = n + e ∧ -536870912 ≤ e ∧ e ≤ 536870912 := ⟨1073741824 * rnd n - n, by omega, by unfold rnd; omega, by unfold rnd; omega⟩
end Go.Proofs.Ytkmelddejdikgaa
namespace Go.Proofs.Ytkmelddejdikgaa
open Go.RowKit PM Dt
theorem shft_scale (n : Nat) : ∀ (k : Nat) (f : Nat → Int), ∃ P : Int, ∀ i, shft n k f i = P * f i
  | 0, f => ⟨1, fun i => (Int.one_mul _).symm⟩
  | k + 1, f => by
    unfold shft
    split
    · obtain ⟨P, h⟩ := shft_scale n k (dbl f)
      exact ⟨P * 2, fun i => by rw [h i, Int.mul_assoc]; rfl⟩
    · exact ⟨1, fun i => (Int.one_mul _).symm⟩
theorem vun_core {f : Nat → Int} (hk : okV f = true) (hz : zV f = false) :
    vunE f = 0 ∧ (∀ i, i < 3 → vb (vunF f i) = true) ∧ (∃ N P : Int, 35184372088832 ≤ N ∧ ∀ i, i < 3 → ∃ d, 2 * (N * vunF f i) = 2 * (1073741824 * (P * f i)) + d ∧ -N ≤ d ∧ d ≤ N) ∧
    1073741823 * 1073741823 ≤ vunF f 0 * vunF f 0 + vunF f 1 * vunF f 1 + vunF f 2 * vunF f 2 ∧ vunF f 0 * vunF f 0 + vunF f 1 * vunF f 1 + vunF f 2 * vunF f 2 < 1073741825 * 1073741825 := by
  have hu : vunF f = vuX f := by unfold vunF; rw [hk, hz]; rfl
  have hE : vunE f = 0 := by unfold vunE; rw [hk, hz]; rfl
  rw [hu]
  have HL := zV_no hz
  have HU := ok_upb3 hk
  have hF := shft_upb 45 f HU
  have hb := shft_done 45 3 f HL
  obtain ⟨P, hP⟩ := shft_scale 3 45 f
  unfold vuX
  generalize shft 3 45 f = F at *
  obtain ⟨-, hfit⟩ := unit_fit hF hb
  have hS := sqs3_i F
  have q : ∀ i, i < 3 → F i * F i ≤ 4951760157141521099596496896 := fun i hi => by
    have hh := hF i hi
    exact (bmul (P := 70368744177664) (R := 70368744177664) hh.1 hh.2 hh.1 hh.2).2
  have q0 := q 0 (by omega)
  have q1 := q 1 (by omega)
  have q2 := q 2 (by omega)
  have n0 := sq_nn (F 0)
  have n1 := sq_nn (F 1)
  have n2 := sq_nn (F 2)
  obtain ⟨j, hj, hs⟩ : ∃ j, j < 3 ∧ sm (F j) = false := by
    apply Classical.byContradiction; intro hn
    have : sml 3 F = true := (sml_iff 3 F).2 fun i hi => by
      cases hx : sm (F i) with
      | true => rfl
      | false => exact absurd ⟨i, hi, hx⟩ hn
    rw [hb] at this; cases this
  have big : 1237940039285380274899124224 ≤ F j * F j := by
    have : ¬ (-35184372088832 < F j ∧ F j < 35184372088832) := fun hc => by rw [(sm_iff _).2 hc] at hs; cases hs
    by_cases h : 35184372088832 ≤ F j
    · exact Int.mul_le_mul h h (by omega) (by omega)
    · have h2 : 35184372088832 ≤ -F j := by omega
      have := Int.mul_le_mul h2 h2 (by omega) (by omega : (0 : Int) ≤ -F j)
      rw [Int.neg_mul_neg] at this
      exact this
  have hSl : 1237940039285380274899124224 ≤ F 0 * F 0 + F 1 * F 1 + F 2 * F 2 := by
    have : j = 0 ∨ j = 1 ∨ j = 2 := by omega
    rcases this with rfl | rfl | rfl <;> omega
  obtain ⟨S, hSS⟩ : ∃ S, sqs [F 0, F 1, F 2] = S := ⟨_, rfl⟩
  rw [hSS] at hS
  have h4 : S < 4 ^ 200 := Nat.lt_of_le_of_lt (show S ≤ 14855280471424563298789490688 by omega) (by decide)
  obtain ⟨N, hN⟩ : ∃ N, isqrt S = N := ⟨_, rfl⟩
  have hr : N < 140737488355328 := by rw [← hN]; exact (isqrt_lt h4).2 (by omega)
  have hl : 35184372088832 ≤ N := by rw [← hN]; exact (isqrt_ge h4).2 (by omega)
  have hu1 : S < (N + 1) * (N + 1) := (isqrt_lt h4).1 (by omega)
  have hu2 : N * N ≤ S := (isqrt_ge h4).1 (by omega)
  have hn3 : fitV (n3 F) = (N : Int) := by
    unfold n3 hypQ
    rw [hSS, hN]
    exact (fit_of (q := (N : Int)) (by omega) (by omega)).1
  rw [hn3] at hfit ⊢
  have hS1 : (N : Int) * N ≤ F 0 * F 0 + F 1 * F 1 + F 2 * F 2 := by rw [← hS]; exact_mod_cast hu2
  have hS2 : F 0 * F 0 + F 1 * F 1 + F 2 * F 2 < ((N : Int) + 1) * ((N : Int) + 1) := by rw [← hS]; exact_mod_cast hu1
  have hval : ∀ i, i < 3 → ratioV (F i) 1073741824 (N : Int) = nearest (F i * 1073741824) (N : Int) := fun i hi => by
    obtain ⟨h1, h2⟩ := hfit i hi
    unfold ratioE at h1
    unfold ratioV ratioQ
    rw [if_neg (by omega)] at h1
    rw [if_neg (by omega), if_neg (by omega)]
    unfold ratioQ at h1
    rw [if_neg (by omega)] at h1
    exact (fit_zero h1).2.2
  have herr : ∀ i, i < 3 → ∃ d, 2 * ((N : Int) * ratioV (F i) 1073741824 (N : Int)) = 2 * (1073741824 * F i) + d ∧ -(N : Int) ≤ d ∧ d ≤ N := fun i hi => by
    rw [hval i hi]
    obtain ⟨d, h1, h2⟩ := near_err (F i * 1073741824) (b := (N : Int)) (by omega)
    exact ⟨d, by rw [h1, Int.mul_comm (F i)], h2⟩
  obtain ⟨d0, e0, b0⟩ := herr 0 (by omega)
  obtain ⟨d1, e1, b1⟩ := herr 1 (by omega)
  obtain ⟨d2, e2, b2⟩ := herr 2 (by omega)
  have hA := three_sum (a0 := (F 0).natAbs) (a1 := (F 1).natAbs) (a2 := (F 2).natAbs) (N := (N : Int)) (by omega) (by omega) (by omega) (by omega) (by rw [abs_sq, abs_sq, abs_sq]; exact hS2)
  have core := unit_core (F3 := 0) (u3 := 0) (d3 := 0) (a3 := 0) (a0 := (F 0).natAbs) (a1 := (F 1).natAbs) (a2 := (F 2).natAbs) (c := 7) (N := (N : Int)) (by omega) (by simpa using hS1) (by simpa using hS2) e0 e1 e2 (by omega) b0 b1 b2 (by omega) (by omega) (by omega) (by omega) (by omega) hA
  refine ⟨hE, fun i hi => (hfit i hi).2, ⟨N, P, by omega, fun i hi => by rw [← hP i]; exact herr i hi⟩, ?_, ?_⟩
  · generalize ratioV (F 0) 1073741824 (N : Int) * ratioV (F 0) 1073741824 (N : Int) = x0 at *
    generalize ratioV (F 1) 1073741824 (N : Int) * ratioV (F 1) 1073741824 (N : Int) = x1 at *
    generalize ratioV (F 2) 1073741824 (N : Int) * ratioV (F 2) 1073741824 (N : Int) = x2 at *
    have := core.1
    omega
  · generalize ratioV (F 0) 1073741824 (N : Int) * ratioV (F 0) 1073741824 (N : Int) = x0 at *
    generalize ratioV (F 1) 1073741824 (N : Int) * ratioV (F 1) 1073741824 (N : Int) = x1 at *
    generalize ratioV (F 2) 1073741824 (N : Int) * ratioV (F 2) 1073741824 (N : Int) = x2 at *
    have := core.2
    omega
theorem cross_left {N P f1 f2 u1 u2 d1 d2 a1 a2 : Int} (hN : 0 < N) (h1 : 2 * (N * u1) = 2 * (1073741824 * (P * f1)) + d1) (h2 : 2 * (N * u2) = 2 * (1073741824 * (P * f2)) + d2)
    (b1 : -N ≤ d1 ∧ d1 ≤ N) (b2 : -N ≤ d2 ∧ d2 ≤ N) (e1 : -a1 ≤ f1 ∧ f1 ≤ a1) (e2 : -a2 ≤ f2 ∧ f2 ≤ a2) : -(a1 + a2) ≤ 2 * (u1 * f2 - u2 * f1) ∧ 2 * (u1 * f2 - u2 * f1) ≤ a1 + a2 := by
  have p1 := bmul b1.1 b1.2 e2.1 e2.2
  have p2 := bmul b2.1 b2.2 e1.1 e1.2
  have e : N * (2 * (u1 * f2 - u2 * f1)) = (2 * (N * u1)) * f2 - (2 * (N * u2)) * f1 := by grind
  have e3 : N * (2 * (u1 * f2 - u2 * f1)) = d1 * f2 - d2 * f1 := by rw [e, h1, h2]; grind
  have e4 : N * (a1 + a2) = N * a1 + N * a2 := Int.mul_add _ _ _
  have e5 : N * -(a1 + a2) = -(N * a1 + N * a2) := by rw [Int.mul_neg, e4]
  constructor
  · refine Int.le_of_mul_le_mul_left (a := N) ?_ hN
    rw [e5, e3]; omega
  · refine Int.le_of_mul_le_mul_left (a := N) ?_ hN
    rw [e4, e3]; omega
end Go.Proofs.Ytkmelddejdikgaa
namespace Go.Proofs.Ytkmelddejdikgaa
open Go.RowKit PM Dt
def nn (f : Nat → Int) : Int := f 0 * f 0 + f 1 * f 1 + f 2 * f 2 + f 3 * f 3
theorem sqs4_i (f : Nat → Int) : ((sqs [f 0, f 1, f 2, f 3] : Nat) : Int) = nn f := by
  unfold nn
  rw [sqs4]
  have e0 := Int.natAbs_mul_self' (f 0)
  have e1 := Int.natAbs_mul_self' (f 1)
  have e2 := Int.natAbs_mul_self' (f 2)
  have e3 := Int.natAbs_mul_self' (f 3)
  simp only [Int.natCast_add, Int.natCast_mul]
  omega
theorem nn_nonneg (f : Nat → Int) : 0 ≤ nn f := by
  have h0 := sq_nn (f 0)
  have h1 := sq_nn (f 1)
  have h2 := sq_nn (f 2)
  have h3 := sq_nn (f 3)
  unfold nn; omega
theorem okQ_bd {f : Nat → Int} (h : okQ f = true) {i : Nat} (hi : i < 4) : -1099511627776 ≤ f i ∧ f i ≤ 1099511627776 := (vb_iff _).1 ((okQ_iff f).1 h i hi)
theorem nn_le {f : Nat → Int} (h : okQ f = true) : nn f ≤ 4835703278458516698824704 := by
  have q : ∀ i, i < 4 → f i * f i ≤ 1208925819614629174706176 := fun i hi => by
    have hh := okQ_bd h hi
    exact (bmul (P := 1099511627776) (R := 1099511627776) hh.1 hh.2 hh.1 hh.2).2
  have q0 := q 0 (by omega)
  have q1 := q 1 (by omega)
  have q2 := q 2 (by omega)
  have q3 := q 3 (by omega)
  unfold nn; omega
theorem nQ_val {f : Nat → Int} (h : okQ f = true) : fitE (nQ f) = 0 ∧ ∃ N : Nat, fitV (nQ f) = N ∧ (N : Int) * N ≤ nn f ∧ nn f < ((N : Int) + 1) * ((N : Int) + 1) := by
  obtain ⟨h1, h2⟩ := nQ_ok h
  have hS : sqs [f 0, f 1, f 2, f 3] < 4 ^ 200 := by
    have a := sqs4_i f
    have b := nn_le h
    exact Nat.lt_of_le_of_lt (show sqs [f 0, f 1, f 2, f 3] ≤ 4835703278458516698824704 by omega) (by decide)
  obtain ⟨i1, i2⟩ := isqrt_spec hS
  refine ⟨h1, isqrt (sqs [f 0, f 1, f 2, f 3]), h2, ?_, ?_⟩
  · rw [← sqs4_i]; exact_mod_cast i1
  · rw [← sqs4_i]; exact_mod_cast i2
theorem nQ_in {f : Nat → Int} (h : okQ f = true) {a b : Int} (ha : 0 ≤ a) (hb : 0 ≤ b) (h1 : a * a ≤ nn f) (h2 : nn f < (b + 1) * (b + 1)) : fitE (nQ f) = 0 ∧ a ≤ fitV (nQ f) ∧ fitV (nQ f) ≤ b := by
  obtain ⟨hE, N, hN, n1, n2⟩ := nQ_val h
  refine ⟨hE, ?_, ?_⟩
  · rw [hN]
    have := sq_lt_iff (a := a) (b := (N : Int) + 1) ha (by omega) (by omega)
    omega
  · rw [hN]
    have := sq_lt_iff (a := (N : Int)) (b := b + 1) (by omega) (by omega) (by omega)
    omega
theorem valid_of {f : Nat → Int} (h : okQ f = true) (h1 : 1073741820 * 1073741820 ≤ nn f) (h2 : nn f < 1073741829 * 1073741829) : validQ f = true := by
  obtain ⟨hE, l, u⟩ := nQ_in h (a := 1073741820) (b := 1073741828) (by decide) (by decide) h1 h2
  unfold validQ
  rw [hE, decide_eq_true l, decide_eq_true u]; rfl
theorem valid_nn {f : Nat → Int} (hI : ∀ i, i < 4 → I64 (f i)) (h : validQ f = true) : okQ f = true ∧ 1073741820 * 1073741820 ≤ nn f ∧ nn f < 1073741829 * 1073741829 := by
  have hk := validQ_ok hI h
  obtain ⟨hE, N, hN, n1, n2⟩ := nQ_val hk
  unfold validQ at h
  rw [hE, hN] at h
  simp only [Bool.and_eq_true, decide_eq_true_eq] at h
  refine ⟨hk, ?_, ?_⟩
  · have := sq_mono (a := 1073741820) (b := (N : Int)) (by decide) h.2.1
    omega
  · have := sq_mono (a := (N : Int) + 1) (b := 1073741829) (by omega) (by omega)
    omega
theorem near_bd4 {F N : Int} (hN : 0 < N) (h1 : -N - 1 ≤ F) (h2 : F ≤ N + 1) (hb : 4294967296 ≤ N) : -1073741825 ≤ nearest (F * 1073741824) N ∧ nearest (F * 1073741824) N ≤ 1073741825 := by
  obtain ⟨d, h, l, u⟩ := near_err (F * 1073741824) hN
  generalize nearest (F * 1073741824) N = x at *
  constructor
  · apply Classical.byContradiction; intro hc
    have : N * x ≤ N * (-1073741826) := Int.mul_le_mul_of_nonneg_left (by omega) (by omega)
    omega
  · apply Classical.byContradiction; intro hc
    have : N * 1073741826 ≤ N * x := Int.mul_le_mul_of_nonneg_left (by omega) (by omega)
    omega
theorem qun_core {f : Nat → Int} (hk : okQ f = true) (hz : zQ f = false) :
    qunE f = 0 ∧ okQ (qunF f) = true ∧ (∃ N P : Int, 35184372088832 ≤ N ∧ 0 < P ∧ N * N ≤ P * P * nn f ∧ P * P * nn f < (N + 1) * (N + 1) ∧ ∀ i, i < 4 → ∃ d, 2 * (N * qunF f i) = 2 * (1073741824 * (P * f i)) + d ∧ -N ≤ d ∧ d ≤ N) ∧
    1073741822 * 1073741822 ≤ nn (qunF f) ∧ nn (qunF f) < 1073741826 * 1073741826 := by
  have hu : qunF f = uX f := by unfold qunF; rw [hk, hz]; rfl
  have hE : qunE f = 0 := by unfold qunE; rw [hk, hz]; rfl
  rw [hu]
  have HL := zQ_no hz
  have HU := ok_upb hk
  have hF := shft_upb 45 f HU
  have hb := shft_done 45 4 f HL
  obtain ⟨P, hP0, hP⟩ : ∃ P : Int, 0 < P ∧ ∀ i, shft 4 45 f i = P * f i := by
    have : ∀ (k : Nat) (f : Nat → Int), ∃ P : Int, 0 < P ∧ ∀ i, shft 4 k f i = P * f i := by
      intro k
      induction k with
      | zero => exact fun f => ⟨1, by decide, fun i => (Int.one_mul _).symm⟩
      | succ k ih =>
        intro f
        unfold shft
        split
        · obtain ⟨P, h0, h⟩ := ih (dbl f)
          exact ⟨P * 2, by omega, fun i => by rw [h i, Int.mul_assoc]; rfl⟩
        · exact ⟨1, by decide, fun i => (Int.one_mul _).symm⟩
    exact this 45 f
  have hnn : nn (shft 4 45 f) = P * P * nn f := by
    unfold nn
    rw [hP 0, hP 1, hP 2, hP 3]; grind
  unfold uX uN
  clear hu HL HU hk hz
  generalize shft 4 45 f = F at *
  have hS := sqs4_i F
  have q : ∀ i, i < 4 → F i * F i ≤ 4951760157141521099596496896 := fun i hi => by
    have hh := hF i hi
    exact (bmul (P := 70368744177664) (R := 70368744177664) hh.1 hh.2 hh.1 hh.2).2
  have q0 := q 0 (by omega)
  have q1 := q 1 (by omega)
  have q2 := q 2 (by omega)
  have q3 := q 3 (by omega)
  have n0 := sq_nn (F 0)
  have n1 := sq_nn (F 1)
  have n2 := sq_nn (F 2)
  have n3 := sq_nn (F 3)
  obtain ⟨j, hj, hs⟩ : ∃ j, j < 4 ∧ sm (F j) = false := by
    apply Classical.byContradiction; intro hn
    have : sml 4 F = true := (sml_iff 4 F).2 fun i hi => by
      cases hx : sm (F i) with
      | true => rfl
      | false => exact absurd ⟨i, hi, hx⟩ hn
    rw [hb] at this; cases this
  have big : 1237940039285380274899124224 ≤ F j * F j := by
    have : ¬ (-35184372088832 < F j ∧ F j < 35184372088832) := fun hc => by rw [(sm_iff _).2 hc] at hs; cases hs
    by_cases h : 35184372088832 ≤ F j
    · exact Int.mul_le_mul h h (by omega) (by omega)
    · have h2 : 35184372088832 ≤ -F j := by omega
      have := Int.mul_le_mul h2 h2 (by omega) (by omega : (0 : Int) ≤ -F j)
      rw [Int.neg_mul_neg] at this
      exact this
  have hSl : 1237940039285380274899124224 ≤ nn F := by
    unfold nn
    have : j = 0 ∨ j = 1 ∨ j = 2 ∨ j = 3 := by omega
    rcases this with rfl | rfl | rfl | rfl <;> omega
  have hSu : nn F ≤ 19807040628566084398385987584 := by unfold nn; omega
  obtain ⟨S, hSS⟩ : ∃ S, sqs [F 0, F 1, F 2, F 3] = S := ⟨_, rfl⟩
  rw [hSS] at hS
  have h4 : S < 4 ^ 200 := Nat.lt_of_le_of_lt (show S ≤ 19807040628566084398385987584 by omega) (by decide)
  obtain ⟨N, hN⟩ : ∃ N, isqrt S = N := ⟨_, rfl⟩
  have hr : N < 140737488355329 := by rw [← hN]; exact (isqrt_lt h4).2 (by omega)
  have hl : 35184372088832 ≤ N := by rw [← hN]; exact (isqrt_ge h4).2 (by omega)
  have hu1 : S < (N + 1) * (N + 1) := (isqrt_lt h4).1 (by omega)
  have hu2 : N * N ≤ S := (isqrt_ge h4).1 (by omega)
  have hn3 : fitV (nQ F) = (N : Int) := by
    unfold nQ hypQ
    rw [hSS, hN]
    exact (fit_of (q := (N : Int)) (by omega) (by omega)).1
  rw [hn3]
  have hS1 : (N : Int) * N ≤ nn F := by rw [← hS]; exact_mod_cast hu2
  have hS2 : nn F < ((N : Int) + 1) * ((N : Int) + 1) := by rw [← hS]; exact_mod_cast hu1
  have hFN : ∀ i, i < 4 → -(N : Int) - 1 ≤ F i ∧ F i ≤ N + 1 := fun i hi => by
    have hle : F i * F i ≤ nn F := by
      unfold nn
      have : i = 0 ∨ i = 1 ∨ i = 2 ∨ i = 3 := by omega
      rcases this with rfl | rfl | rfl | rfl <;> omega
    have := sqv_lt (a := F i) (b := (N : Int) + 1) (by omega) (by omega)
    omega
  have hnb : ∀ i, i < 4 → -1073741825 ≤ nearest (F i * 1073741824) N ∧ nearest (F i * 1073741824) N ≤ 1073741825 := fun i hi => near_bd4 (by omega) (hFN i hi).1 (hFN i hi).2 (by omega)
  have hval : ∀ i, i < 4 → ratioV (F i) 1073741824 (N : Int) = nearest (F i * 1073741824) (N : Int) := fun i hi => by
    have := hnb i hi
    unfold ratioV ratioQ
    rw [if_neg (by omega), if_neg (by omega)]
    exact (fit_of (by omega) (by omega)).1
  have herr : ∀ i, i < 4 → ∃ d, 2 * ((N : Int) * ratioV (F i) 1073741824 (N : Int)) = 2 * (1073741824 * F i) + d ∧ -(N : Int) ≤ d ∧ d ≤ N := fun i hi => by
    rw [hval i hi]
    obtain ⟨d, h1, h2⟩ := near_err (F i * 1073741824) (b := (N : Int)) (by omega)
    exact ⟨d, by rw [h1, Int.mul_comm (F i)], h2⟩
  obtain ⟨d0, e0, b0⟩ := herr 0 (by omega)
  obtain ⟨d1, e1, b1⟩ := herr 1 (by omega)
  obtain ⟨d2, e2, b2⟩ := herr 2 (by omega)
  obtain ⟨d3, e3, b3⟩ := herr 3 (by omega)
  have hA := four_sum (a0 := (F 0).natAbs) (a1 := (F 1).natAbs) (a2 := (F 2).natAbs) (a3 := (F 3).natAbs) (N := (N : Int)) (by omega) (by omega) (by omega) (by omega) (by omega) (by rw [abs_sq, abs_sq, abs_sq, abs_sq]; exact hS2)
  have core := unit_core (a0 := (F 0).natAbs) (a1 := (F 1).natAbs) (a2 := (F 2).natAbs) (a3 := (F 3).natAbs) (c := 9) (N := (N : Int)) (by omega) hS1 hS2 e0 e1 e2 e3 b0 b1 b2 b3 (by omega) (by omega) (by omega) (by omega) hA
  refine ⟨hE, (okQ_iff _).2 fun i hi => (vb_iff _).2 ?_, ⟨N, P, by omega, hP0, by rw [← hnn]; exact hS1, by rw [← hnn]; exact hS2, fun i hi => by rw [← hP i]; exact herr i hi⟩, ?_, ?_⟩
  · have := hnb i hi
    rw [hval i hi]; omega
  · unfold nn
    generalize ratioV (F 0) 1073741824 (N : Int) * ratioV (F 0) 1073741824 (N : Int) = x0 at *
    generalize ratioV (F 1) 1073741824 (N : Int) * ratioV (F 1) 1073741824 (N : Int) = x1 at *
    generalize ratioV (F 2) 1073741824 (N : Int) * ratioV (F 2) 1073741824 (N : Int) = x2 at *
    generalize ratioV (F 3) 1073741824 (N : Int) * ratioV (F 3) 1073741824 (N : Int) = x3 at *
    have := core.1
    omega
  · unfold nn
    generalize ratioV (F 0) 1073741824 (N : Int) * ratioV (F 0) 1073741824 (N : Int) = x0 at *
    generalize ratioV (F 1) 1073741824 (N : Int) * ratioV (F 1) 1073741824 (N : Int) = x1 at *
    generalize ratioV (F 2) 1073741824 (N : Int) * ratioV (F 2) 1073741824 (N : Int) = x2 at *
    generalize ratioV (F 3) 1073741824 (N : Int) * ratioV (F 3) 1073741824 (N : Int) = x3 at *
    have := core.2
    omega
theorem qun_valid {f : Nat → Int} (hk : okQ f = true) (hz : zQ f = false) : validQ (qunF f) = true ∧ fitE (nQ (qunF f)) = 0 ∧ 1073741822 ≤ fitV (nQ (qunF f)) ∧ fitV (nQ (qunF f)) ≤ 1073741825 := by
  obtain ⟨_, h1, _, h2, h3⟩ := qun_core hk hz
  exact ⟨valid_of h1 (by omega) (by omega), nQ_in h1 (by decide) (by decide) h2 (by omega)⟩
theorem d4_eq (f g : Nat → Int) : d4 f g = f 0 * g 0 + f 1 * g 1 + f 2 * g 2 + f 3 * g 3 := by
  unfold d4; rw [dotS_cons, dotS_cons, dotS_cons, dotS_cons, dotS_nil]; omega
def pe (f g : Nat → Int) : Nat → Int
  | 0 => f 0 * g 0 - f 1 * g 1 - f 2 * g 2 - f 3 * g 3
  | 1 => f 0 * g 1 + f 1 * g 0 + f 2 * g 3 - f 3 * g 2
  | 2 => f 0 * g 2 - f 1 * g 3 + f 2 * g 0 + f 3 * g 1
  | _ => f 0 * g 3 + f 1 * g 2 - f 2 * g 1 + f 3 * g 0
theorem pr_pe (f g : Nat → Int) {i : Nat} (hi : i < 4) : d4 (prL f i) (prM g i) = pe f g i := by
  rw [d4_eq]
  have : i = 0 ∨ i = 1 ∨ i = 2 ∨ i = 3 := by omega
  rcases this with rfl | rfl | rfl | rfl
  · show f 0 * g 0 + -f 1 * g 1 + -f 2 * g 2 + -f 3 * g 3 = f 0 * g 0 - f 1 * g 1 - f 2 * g 2 - f 3 * g 3
    grind
  · show f 0 * g 1 + f 1 * g 0 + f 2 * g 3 + -f 3 * g 2 = f 0 * g 1 + f 1 * g 0 + f 2 * g 3 - f 3 * g 2
    grind
  · show f 0 * g 2 + -f 1 * g 3 + f 2 * g 0 + f 3 * g 1 = f 0 * g 2 - f 1 * g 3 + f 2 * g 0 + f 3 * g 1
    grind
  · show f 0 * g 3 + f 1 * g 2 + -f 2 * g 1 + f 3 * g 0 = f 0 * g 3 + f 1 * g 2 - f 2 * g 1 + f 3 * g 0
    grind
theorem pe_nn (f g : Nat → Int) : nn (pe f g) = nn f * nn g := by
  unfold nn pe
  grind
theorem prod_err {f g : Nat → Int} (hf : okQ f = true) (hg : okQ g = true) {i : Nat} (hi : i < 4) : ∃ e, 1073741824 * qprodF f g i = pe f g i + e ∧ -536870912 ≤ e ∧ e ≤ 536870912 := by
  unfold qprodF
  rw [hf, hg]
  show ∃ e, 1073741824 * rnd (d4 (prL f i) (prM g i)) = _ ∧ _
  rw [pr_pe f g hi]
  exact rnd_err _
theorem rq_nn (g : Nat → Int) : nn (rq g) = 1152921504606846976 + g 0 * g 0 + g 1 * g 1 + g 2 * g 2 := rfl
theorem rq_ok {g : Nat → Int} (h : smallB g 1073741824 = true) : okQ (rq g) = true ∧ 1152921504606846976 ≤ nn (rq g) ∧ nn (rq g) ≤ 4611686018427387904 := by
  have b : ∀ i, i < 3 → -1073741824 ≤ g i ∧ g i ≤ 1073741824 := fun i hi => (sb_iff _ _).1 ((smallB_iff g _).1 h i hi)
  have b0 := b 0 (by omega)
  have b1 := b 1 (by omega)
  have b2 := b 2 (by omega)
  have s : ∀ i, i < 3 → g i * g i ≤ 1152921504606846976 := fun i hi => (bmul (P := 1073741824) (R := 1073741824) (b i hi).1 (b i hi).2 (b i hi).1 (b i hi).2).2
  have s0 := s 0 (by omega)
  have s1 := s 1 (by omega)
  have s2 := s 2 (by omega)
  have n0 := sq_nn (g 0)
  have n1 := sq_nn (g 1)
  have n2 := sq_nn (g 2)
  rw [rq_nn]
  refine ⟨(okQ_iff _).2 fun i hi => (vb_iff _).2 ?_, by omega, by omega⟩
  have : i = 0 ∨ i = 1 ∨ i = 2 ∨ i = 3 := by omega
  rcases this with rfl | rfl | rfl | rfl
  · show -1099511627776 ≤ (1073741824 : Int) ∧ (1073741824 : Int) ≤ 1099511627776
    omega
  · show -1099511627776 ≤ g 0 ∧ g 0 ≤ 1099511627776
    omega
  · show -1099511627776 ≤ g 1 ∧ g 1 ≤ 1099511627776
    omega
  · show -1099511627776 ≤ g 2 ∧ g 2 ≤ 1099511627776
    omega
theorem turn_prod {f g : Nat → Int} (hf : okQ f = true) (h1 : 1073741820 * 1073741820 ≤ nn f) (h2 : nn f < 1073741829 * 1073741829) (hg : smallB g 1073741824 = true) :
    okQ (qprodF f (rq g)) = true ∧ zQ (qprodF f (rq g)) = false ∧ ∀ i, i < 4 → -2147483669 ≤ qprodF f (rq g) i ∧ qprodF f (rq g) i ≤ 2147483669 := by
  obtain ⟨hr, r1, r2⟩ := rq_ok hg
  have hE := pe_nn f (rq g)
  have up : nn f * nn (rq g) ≤ 1152921515344265241 * 4611686018427387904 := Int.mul_le_mul (show nn f ≤ 1152921515344265241 by omega) r2 (nn_nonneg _) (by decide)
  have lo : 1152921496016912400 * 1152921504606846976 ≤ nn f * nn (rq g) := Int.mul_le_mul (by omega) r1 (by decide) (nn_nonneg _)
  have s : ∀ i, i < 4 → pe f (rq g) i * pe f (rq g) i ≤ nn (pe f (rq g)) := fun i hi => by
    have n0 := sq_nn (pe f (rq g) 0)
    have n1 := sq_nn (pe f (rq g) 1)
    have n2 := sq_nn (pe f (rq g) 2)
    have n3 := sq_nn (pe f (rq g) 3)
    unfold nn
    have : i = 0 ∨ i = 1 ∨ i = 2 ∨ i = 3 := by omega
    rcases this with rfl | rfl | rfl | rfl <;> omega
  have bd : ∀ i, i < 4 → -2305843019951112192 ≤ pe f (rq g) i ∧ pe f (rq g) i ≤ 2305843019951112192 := fun i hi => by
    have := sqv_lt (a := pe f (rq g) i) (b := 2305843019951112192 + 1) (by decide) (by have := s i hi; omega)
    omega
  have bq : ∀ i, i < 4 → -2147483669 ≤ qprodF f (rq g) i ∧ qprodF f (rq g) i ≤ 2147483669 := fun i hi => by
    obtain ⟨e, h, l, u⟩ := prod_err hf hr hi
    have := bd i hi
    omega
  refine ⟨(okQ_iff _).2 fun i hi => (vb_iff _).2 (by have := bq i hi; omega), ?_, bq⟩
  cases hz : zQ (qprodF f (rq g)) with
  | false => rfl
  | true =>
    exfalso
    have z : ∀ i, i < 4 → qprodF f (rq g) i = 0 := fun i hi => by
      unfold zQ at hz
      rw [List.all_eq_true] at hz
      exact beq_iff_eq.1 (hz i (List.mem_range.2 hi))
    have sm : ∀ i, i < 4 → pe f (rq g) i * pe f (rq g) i ≤ 288230376151711744 := fun i hi => by
      obtain ⟨e, h, l, u⟩ := prod_err hf hr hi
      rw [z i hi] at h
      exact (bmul (P := 536870912) (R := 536870912) (a := pe f (rq g) i) (b := pe f (rq g) i) (by omega) (by omega) (by omega) (by omega)).2
    have s0 := sm 0 (by omega)
    have s1 := sm 1 (by omega)
    have s2 := sm 2 (by omega)
    have s3 := sm 3 (by omega)
    unfold nn at hE lo
    omega
theorem turn_core {f g : Nat → Int} (hI : ∀ i, i < 4 → I64 (f i)) (hf : validQ f = true) (hg : smallB g 1073741824 = true) :
    turnE f g = 0 ∧ turnF f g = qunF (qprodF f (rq g)) ∧ okQ (qprodF f (rq g)) = true ∧ zQ (qprodF f (rq g)) = false := by
  obtain ⟨hk, l, u⟩ := valid_nn hI hf
  obtain ⟨h1, h2, _⟩ := turn_prod hk l u hg
  unfold turnE turnF turnOk
  rw [hf, hg]
  exact ⟨(qun_core h1 h2).1, rfl, h1, h2⟩
end Go.Proofs.Ytkmelddejdikgaa
