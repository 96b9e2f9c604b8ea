/-
  Norms of unit vectors: arithmetic. No program in sight.
-/
import Derived.Test.YtkmelddejdikgaaVUnit
set_option linter.unusedSimpArgs false
set_option linter.unusedVariables false
namespace Go.Proofs.Ytkmelddejdikgaa
open Go.RowKit PM Dt
theorem sq_nn (x : Int) : 0 ≤ x * x := by
  by_cases h : 0 ≤ x
  · exact Int.mul_nonneg h h
  · exact Int.mul_nonneg_of_nonpos_of_nonpos (by omega) (by omega)
theorem sq_mono {a b : Int} (h0 : 0 ≤ a) (h : a ≤ b) : a * a ≤ b * b := Int.mul_le_mul h h h0 (by omega)
theorem sq_lt_iff {a b : Int} (ha : 0 ≤ a) (hb : 0 ≤ b) (h : a * a < b * b) : a < b := by
  apply Classical.byContradiction; intro hc
  have := sq_mono hb (show b ≤ a by omega)
  omega
theorem four_sq (a b c d : Int) : (a + b + c + d) * (a + b + c + d) ≤ 4 * (a * a + b * b + c * c + d * d) := by
  have h1 := sq_nn (a - b)
  have h2 := sq_nn (b - c)
  have h3 := sq_nn (a - c)
  have h4 := sq_nn (a - d)
  have h5 := sq_nn (b - d)
  have h6 := sq_nn (c - d)
  have e : 4 * (a * a + b * b + c * c + d * d) = (a + b + c + d) * (a + b + c + d) + ((a - b) * (a - b) + (b - c) * (b - c) + (a - c) * (a - c) + (a - d) * (a - d) + (b - d) * (b - d) + (c - d) * (c - d)) := by grind
  omega
theorem abs_sq (a : Int) : (a.natAbs : Int) * (a.natAbs : Int) = a * a := Int.natAbs_mul_self' a
theorem near_err (a : Int) {b : Int} (hb : 0 < b) : ∃ d, 2 * (b * nearest a b) = 2 * a + d ∧ -b ≤ d ∧ d ≤ b := by
  refine ⟨2 * (b * nearest a b) - 2 * a, by omega, ?_, ?_⟩
  all_goals
    have h1 := Int.mul_ediv_self_le (x := 2 * a + b) (k := 2 * b) (by omega)
    have h2 := Int.lt_mul_ediv_self_add (x := 2 * a + b) (k := 2 * b) (by omega)
    have e : 2 * b * ((2 * a + b) / (2 * b)) = 2 * (b * nearest a b) := by unfold nearest; rw [Int.mul_assoc]
    rw [e] at h1 h2
    omega
theorem comp_id {O N F u d : Int} (h : 2 * (N * u) = 2 * (O * F) + d) : 4 * ((N * N) * (u * u)) = 4 * ((O * O) * (F * F)) + 4 * (O * (F * d)) + d * d := by
  have e : 4 * ((N * N) * (u * u)) = (2 * (N * u)) * (2 * (N * u)) := by grind
  rw [e, h]
  grind
theorem core_sum {m0 m1 m2 m3 s0 s1 s2 s3 t0 t1 t2 t3 g0 g1 g2 g3 : Int} (i0 : 4 * m0 = 4 * (1073741824 * 1073741824 * s0) + 4 * (1073741824 * t0) + g0) (i1 : 4 * m1 = 4 * (1073741824 * 1073741824 * s1) + 4 * (1073741824 * t1) + g1)
    (i2 : 4 * m2 = 4 * (1073741824 * 1073741824 * s2) + 4 * (1073741824 * t2) + g2) (i3 : 4 * m3 = 4 * (1073741824 * 1073741824 * s3) + 4 * (1073741824 * t3) + g3) :
    4 * m0 + 4 * m1 + 4 * m2 + 4 * m3 = 4611686018427387904 * (s0 + s1 + s2 + s3) + 4294967296 * (t0 + t1 + t2 + t3) + (g0 + g1 + g2 + g3) := by omega
theorem core_Y {r0 r1 r2 r3 t0 t1 t2 t3 : Int} (p0 : -r0 ≤ t0 ∧ t0 ≤ r0) (p1 : -r1 ≤ t1 ∧ t1 ≤ r1) (p2 : -r2 ≤ t2 ∧ t2 ≤ r2) (p3 : -r3 ≤ t3 ∧ t3 ≤ r3) : -(r0 + r1 + r2 + r3) ≤ t0 + t1 + t2 + t3 ∧ t0 + t1 + t2 + t3 ≤ r0 + r1 + r2 + r3 := by omega
theorem core_Z {M g0 g1 g2 g3 : Int} (p0 : -M ≤ g0 ∧ g0 ≤ M) (p1 : -M ≤ g1 ∧ g1 ≤ M) (p2 : -M ≤ g2 ∧ g2 ≤ M) (p3 : -M ≤ g3 ∧ g3 ≤ M) (n0 : 0 ≤ g0) (n1 : 0 ≤ g1) (n2 : 0 ≤ g2) (n3 : 0 ≤ g3) : 0 ≤ g0 + g1 + g2 + g3 ∧ g0 + g1 + g2 + g3 ≤ 4 * M := by omega
theorem core_lo {M X Y Z R C : Int} (hY : -R ≤ Y ∧ Y ≤ R) (hS : M ≤ X) (hAN : 4 * R ≤ C) (hZ : 0 ≤ Z ∧ Z ≤ 4 * M) : 4611686018427387904 * M - 1073741824 * C ≤ 4611686018427387904 * X + 4294967296 * Y + Z := by omega
theorem core_hi {M X Y Z R C N : Int} (hY : -R ≤ Y ∧ Y ≤ R) (hS : X < M + 2 * N + 1) (hAN : 4 * R ≤ C) (hZ : 0 ≤ Z ∧ Z ≤ 4 * M) (hN : 35184372088832 * N ≤ M) : 4611686018427387904 * X + 4294967296 * Y + Z ≤ 4611686018427387904 * M + 1073741824 * C + 262148 * M := by omega
theorem unit_core {F0 F1 F2 F3 u0 u1 u2 u3 d0 d1 d2 d3 a0 a1 a2 a3 N c : Int} (hN : 35184372088832 ≤ N)
    (hS1 : N * N ≤ F0 * F0 + F1 * F1 + F2 * F2 + F3 * F3) (hS2 : F0 * F0 + F1 * F1 + F2 * F2 + F3 * F3 < (N + 1) * (N + 1))
    (h0 : 2 * (N * u0) = 2 * (1073741824 * F0) + d0) (h1 : 2 * (N * u1) = 2 * (1073741824 * F1) + d1) (h2 : 2 * (N * u2) = 2 * (1073741824 * F2) + d2) (h3 : 2 * (N * u3) = 2 * (1073741824 * F3) + d3)
    (b0 : -N ≤ d0 ∧ d0 ≤ N) (b1 : -N ≤ d1 ∧ d1 ≤ N) (b2 : -N ≤ d2 ∧ d2 ≤ N) (b3 : -N ≤ d3 ∧ d3 ≤ N)
    (e0 : -a0 ≤ F0 ∧ F0 ≤ a0) (e1 : -a1 ≤ F1 ∧ F1 ≤ a1) (e2 : -a2 ≤ F2 ∧ F2 ≤ a2) (e3 : -a3 ≤ F3 ∧ F3 ≤ a3) (hA : 4 * (a0 + a1 + a2 + a3) ≤ c * N) :
    4611686018427387904 - 1073741824 * c ≤ 4 * (u0 * u0 + u1 * u1 + u2 * u2 + u3 * u3) ∧ 4 * (u0 * u0 + u1 * u1 + u2 * u2 + u3 * u3) ≤ 4611686018427387904 + 1073741824 * c + 262148 := by
  have i0 := comp_id h0
  have i1 := comp_id h1
  have i2 := comp_id h2
  have i3 := comp_id h3
  have p0 := bmul e0.1 e0.2 b0.1 b0.2
  have p1 := bmul e1.1 e1.2 b1.1 b1.2
  have p2 := bmul e2.1 e2.2 b2.1 b2.2
  have p3 := bmul e3.1 e3.2 b3.1 b3.2
  have q0 := bmul b0.1 b0.2 b0.1 b0.2
  have q1 := bmul b1.1 b1.2 b1.1 b1.2
  have q2 := bmul b2.1 b2.2 b2.1 b2.2
  have q3 := bmul b3.1 b3.2 b3.1 b3.2
  have n0 := sq_nn d0
  have n1 := sq_nn d1
  have n2 := sq_nn d2
  have n3 := sq_nn d3
  clear h0 h1 h2 h3 b0 b1 b2 b3 e0 e1 e2 e3
  have hAN : 4 * (a0 * N + a1 * N + a2 * N + a3 * N) ≤ c * (N * N) := by
    have := Int.mul_le_mul_of_nonneg_right hA (show 0 ≤ N by omega)
    have e : 4 * (a0 + a1 + a2 + a3) * N = 4 * (a0 * N + a1 * N + a2 * N + a3 * N) := by grind
    have e2 : c * N * N = c * (N * N) := Int.mul_assoc _ _ _
    omega
  have hNN : 35184372088832 * N ≤ N * N := Int.mul_le_mul_of_nonneg_right hN (by omega)
  have hSS : (N + 1) * (N + 1) = N * N + 2 * N + 1 := by grind
  have hPos : 0 < N * N := Int.mul_pos (by omega) (by omega)
  have hu : (N * N) * (4 * (u0 * u0 + u1 * u1 + u2 * u2 + u3 * u3)) = 4 * ((N * N) * (u0 * u0)) + 4 * ((N * N) * (u1 * u1)) + 4 * ((N * N) * (u2 * u2)) + 4 * ((N * N) * (u3 * u3)) := by grind
  have hsum := hu.trans (core_sum i0 i1 i2 i3)
  have hY := core_Y p0 p1 p2 p3
  have hZ := core_Z q0 q1 q2 q3 n0 n1 n2 n3
  have hS2' : F0 * F0 + F1 * F1 + F2 * F2 + F3 * F3 < N * N + 2 * N + 1 := by rw [← hSS]; exact hS2
  have e1 : N * N * (4611686018427387904 - 1073741824 * c) = 4611686018427387904 * (N * N) - 1073741824 * (c * (N * N)) := by
    generalize N * N = M
    rw [Int.mul_sub, Int.mul_comm M, Int.mul_left_comm, Int.mul_comm M]
  have e2 : N * N * (4611686018427387904 + 1073741824 * c + 262148) = 4611686018427387904 * (N * N) + 1073741824 * (c * (N * N)) + 262148 * (N * N) := by
    generalize N * N = M
    rw [Int.mul_add, Int.mul_add, Int.mul_comm M, Int.mul_left_comm, Int.mul_comm M, Int.mul_comm M]
  have lo : N * N * (4611686018427387904 - 1073741824 * c) ≤ N * N * (4 * (u0 * u0 + u1 * u1 + u2 * u2 + u3 * u3)) := by
    rw [e1, hsum]
    exact core_lo hY hS1 hAN hZ
  have hi : N * N * (4 * (u0 * u0 + u1 * u1 + u2 * u2 + u3 * u3)) ≤ N * N * (4611686018427387904 + 1073741824 * c + 262148) := by
    rw [e2, hsum]
    exact core_hi hY hS2' hAN hZ hNN
  exact ⟨Int.le_of_mul_le_mul_left lo hPos, Int.le_of_mul_le_mul_left hi hPos⟩
theorem four_sum {a0 a1 a2 a3 N : Int} (hN : 35184372088832 ≤ N) (n0 : 0 ≤ a0) (n1 : 0 ≤ a1) (n2 : 0 ≤ a2) (n3 : 0 ≤ a3) (hS2 : a0 * a0 + a1 * a1 + a2 * a2 + a3 * a3 < (N + 1) * (N + 1)) : 4 * (a0 + a1 + a2 + a3) ≤ 9 * N := by
  have h := four_sq a0 a1 a2 a3
  apply Classical.byContradiction; intro hc
  have h2 : (9 * N + 1) * (9 * N + 1) ≤ (4 * (a0 + a1 + a2 + a3)) * (4 * (a0 + a1 + a2 + a3)) := sq_mono (by omega) (by omega)
  have e1 : (4 * (a0 + a1 + a2 + a3)) * (4 * (a0 + a1 + a2 + a3)) = 16 * ((a0 + a1 + a2 + a3) * (a0 + a1 + a2 + a3)) := by grind
  have e2 : (9 * N + 1) * (9 * N + 1) = 81 * (N * N) + 18 * N + 1 := by grind
  have e3 : (N + 1) * (N + 1) = N * N + 2 * N + 1 := by grind
  have hNN : 35184372088832 * N ≤ N * N := Int.mul_le_mul_of_nonneg_right hN (by omega)
  omega
end Go.Proofs.Ytkmelddejdikgaa
