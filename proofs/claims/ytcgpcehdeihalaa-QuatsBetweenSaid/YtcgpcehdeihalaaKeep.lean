/-
  Rotations keep norms, and Back undoes Rotate: arithmetic. No program in sight.
-/
import Derived.Test.YtcgpcehdeihalaaLenQ
import Derived.Test.YtcgpcehdeihalaaLawQ
set_option linter.unusedSimpArgs false
set_option linter.unusedVariables false
namespace Go.Proofs.Ytcgpcehdeihalaa
open Go.RowKit PM Dt
/-- The triangle, for three components. -/
theorem abs_le_of_sq {x p : Int} (hp : 0 ≤ p) (h : x * x ≤ p * p) : -p ≤ x ∧ x ≤ p := by
  have := sqv_lt (a := x) (b := p + 1) (by omega) (by
    have e : (p + 1) * (p + 1) = p * p + 2 * p + 1 := by grind
    omega)
  omega
theorem cauchy3 (x0 x1 x2 y0 y1 y2 : Int) : (x0 * y0 + x1 * y1 + x2 * y2) * (x0 * y0 + x1 * y1 + x2 * y2) ≤ (x0 * x0 + x1 * x1 + x2 * x2) * (y0 * y0 + y1 * y1 + y2 * y2) := by
  have h1 := sq_nn (x0 * y1 - x1 * y0)
  have h2 := sq_nn (x0 * y2 - x2 * y0)
  have h3 := sq_nn (x1 * y2 - x2 * y1)
  have e : (x0 * x0 + x1 * x1 + x2 * x2) * (y0 * y0 + y1 * y1 + y2 * y2) = (x0 * y0 + x1 * y1 + x2 * y2) * (x0 * y0 + x1 * y1 + x2 * y2) + ((x0 * y1 - x1 * y0) * (x0 * y1 - x1 * y0) + (x0 * y2 - x2 * y0) * (x0 * y2 - x2 * y0) + (x1 * y2 - x2 * y1) * (x1 * y2 - x2 * y1)) := by grind
  omega
theorem tri3 {x0 x1 x2 y0 y1 y2 X Y : Int} (hX : 0 ≤ X) (hY : 0 ≤ Y) (hx : x0 * x0 + x1 * x1 + x2 * x2 ≤ X * X) (hy : y0 * y0 + y1 * y1 + y2 * y2 ≤ Y * Y) :
    (x0 + y0) * (x0 + y0) + (x1 + y1) * (x1 + y1) + (x2 + y2) * (x2 + y2) ≤ (X + Y) * (X + Y) := by
  have hc := cauchy3 x0 x1 x2 y0 y1 y2
  have n0 := sq_nn x0
  have n1 := sq_nn x1
  have n2 := sq_nn x2
  have m0 := sq_nn y0
  have m1 := sq_nn y1
  have m2 := sq_nn y2
  have hp : (x0 * x0 + x1 * x1 + x2 * x2) * (y0 * y0 + y1 * y1 + y2 * y2) ≤ (X * X) * (Y * Y) := Int.mul_le_mul hx hy (by omega) (sq_nn X)
  have e : (X * X) * (Y * Y) = (X * Y) * (X * Y) := by grind
  have hd := (abs_le_of_sq (x := x0 * y0 + x1 * y1 + x2 * y2) (p := X * Y) (Int.mul_nonneg hX hY) (by omega)).2
  have e1 : (x0 + y0) * (x0 + y0) + (x1 + y1) * (x1 + y1) + (x2 + y2) * (x2 + y2) = (x0 * x0 + x1 * x1 + x2 * x2) + (y0 * y0 + y1 * y1 + y2 * y2) + 2 * (x0 * y0 + x1 * y1 + x2 * y2) := by grind
  have e2 : (X + Y) * (X + Y) = X * X + Y * Y + 2 * (X * Y) := by grind
  omega
/-- The square of a vector's norm. -/
def vv (f : Nat → Int) : Int := f 0 * f 0 + f 1 * f 1 + f 2 * f 2
/-- The exact product of a matrix and a vector. -/
def ap (E : Nat → Int) (v : Nat → Int) (i : Nat) : Int := E (3 * i) * v 0 + E (3 * i + 1) * v 1 + E (3 * i + 2) * v 2
def tr (E : Nat → Int) : Nat → Int := fun j => E (3 * (j % 3) + j / 3)
theorem qent_orth (f v : Nat → Int) : vv (ap (qent f) v) = nn f * nn f * vv v := by
  unfold vv ap nn qent
  grind
theorem qent_orth' (f v : Nat → Int) : vv (ap (tr (qent f)) v) = nn f * nn f * vv v := by
  unfold vv ap nn tr
  show (qent f 0 * v 0 + qent f 3 * v 1 + qent f 6 * v 2) * (qent f 0 * v 0 + qent f 3 * v 1 + qent f 6 * v 2) + (qent f 1 * v 0 + qent f 4 * v 1 + qent f 7 * v 2) * (qent f 1 * v 0 + qent f 4 * v 1 + qent f 7 * v 2) + (qent f 2 * v 0 + qent f 5 * v 1 + qent f 8 * v 2) * (qent f 2 * v 0 + qent f 5 * v 1 + qent f 8 * v 2) = _
  unfold qent
  grind
theorem qent_back (f v : Nat → Int) (i : Nat) (hi : i < 3) : ap (tr (qent f)) (ap (qent f) v) i = nn f * nn f * v i := by
  have : i = 0 ∨ i = 1 ∨ i = 2 := by omega
  rcases this with rfl | rfl | rfl
  · show qent f 0 * (qent f 0 * v 0 + qent f 1 * v 1 + qent f 2 * v 2) + qent f 3 * (qent f 3 * v 0 + qent f 4 * v 1 + qent f 5 * v 2) + qent f 6 * (qent f 6 * v 0 + qent f 7 * v 1 + qent f 8 * v 2) = _
    unfold qent nn; grind
  · show qent f 1 * (qent f 0 * v 0 + qent f 1 * v 1 + qent f 2 * v 2) + qent f 4 * (qent f 3 * v 0 + qent f 4 * v 1 + qent f 5 * v 2) + qent f 7 * (qent f 6 * v 0 + qent f 7 * v 1 + qent f 8 * v 2) = _
    unfold qent nn; grind
  · show qent f 2 * (qent f 0 * v 0 + qent f 1 * v 1 + qent f 2 * v 2) + qent f 5 * (qent f 3 * v 0 + qent f 4 * v 1 + qent f 5 * v 2) + qent f 8 * (qent f 6 * v 0 + qent f 7 * v 1 + qent f 8 * v 2) = _
    unfold qent nn; grind
/-- The sum of the absolute values, by the norm's floor. -/
theorem abs_sum3 {a0 a1 a2 n : Int} (hn : 0 ≤ n) (n0 : 0 ≤ a0) (n1 : 0 ≤ a1) (n2 : 0 ≤ a2) (h : a0 * a0 + a1 * a1 + a2 * a2 < (n + 1) * (n + 1)) : 4 * (a0 + a1 + a2) ≤ 7 * (n + 1) := by
  have h3 := three_sq a0 a1 a2
  apply Classical.byContradiction; intro hc
  have h2 : (7 * (n + 1)) * (7 * (n + 1)) ≤ (4 * (a0 + a1 + a2)) * (4 * (a0 + a1 + a2)) := sq_mono (by omega) (by omega)
  have e1 : (4 * (a0 + a1 + a2)) * (4 * (a0 + a1 + a2)) = 16 * ((a0 + a1 + a2) * (a0 + a1 + a2)) := by grind
  have e2 : (7 * (n + 1)) * (7 * (n + 1)) = 49 * ((n + 1) * (n + 1)) := by grind
  have hP : 0 ≤ (n + 1) * (n + 1) := sq_nn _
  have : (n + 1) * (n + 1) = n * n + 2 * n + 1 := by grind
  have : 0 ≤ n * n := sq_nn n
  omega
/-- The error of a rounded matrix at a vector. -/
theorem row_err {E M : Nat → Int} {v : Nat → Int} {n x : Int} (hM : ∀ j, j < 9 → ∃ d, 1073741824 * M j = E j + d ∧ -536870912 ≤ d ∧ d ≤ 536870912) {i : Nat} (hi : i < 3)
    (hx : ∃ e, 1073741824 * x = ap M v i + e ∧ -536870912 ≤ e ∧ e ≤ 536870912) (hn : 0 ≤ n) (hv : vv v < (n + 1) * (n + 1)) :
    ∃ D, 1152921504606846976 * x = ap E v i + D ∧ -(939524096 * (n + 1) + 576460752303423488) ≤ D ∧ D ≤ 939524096 * (n + 1) + 576460752303423488 := by
  obtain ⟨d0, h0, l0, u0⟩ := hM (3 * i) (by omega)
  obtain ⟨d1, h1, l1, u1⟩ := hM (3 * i + 1) (by omega)
  obtain ⟨d2, h2, l2, u2⟩ := hM (3 * i + 2) (by omega)
  obtain ⟨e, he, le, ue⟩ := hx
  have hs := abs_sum3 (a0 := (v 0).natAbs) (a1 := (v 1).natAbs) (a2 := (v 2).natAbs) hn (by omega) (by omega) (by omega) (by rw [abs_sq, abs_sq, abs_sq]; exact hv)
  have b0 := bmul (P := 536870912) (R := (v 0).natAbs) l0 u0 (b := v 0) (by omega) (by omega)
  have b1 := bmul (P := 536870912) (R := (v 1).natAbs) l1 u1 (b := v 1) (by omega) (by omega)
  have b2 := bmul (P := 536870912) (R := (v 2).natAbs) l2 u2 (b := v 2) (by omega) (by omega)
  refine ⟨d0 * v 0 + d1 * v 1 + d2 * v 2 + 1073741824 * e, ?_, by omega, by omega⟩
  have k : 1152921504606846976 * x = 1073741824 * (1073741824 * x) := by omega
  rw [k, he]
  unfold ap
  have k0 : 1073741824 * (M (3 * i) * v 0) = E (3 * i) * v 0 + d0 * v 0 := by rw [← Int.mul_assoc, h0, Int.add_mul]
  have k1 : 1073741824 * (M (3 * i + 1) * v 1) = E (3 * i + 1) * v 1 + d1 * v 1 := by rw [← Int.mul_assoc, h1, Int.add_mul]
  have k2 : 1073741824 * (M (3 * i + 2) * v 2) = E (3 * i + 2) * v 2 + d2 * v 2 := by rw [← Int.mul_assoc, h2, Int.add_mul]
  omega
theorem sq3_bd {d0 d1 d2 B : Int} (h0 : -B ≤ d0 ∧ d0 ≤ B) (h1 : -B ≤ d1 ∧ d1 ≤ B) (h2 : -B ≤ d2 ∧ d2 ≤ B) : d0 * d0 + d1 * d1 + d2 * d2 ≤ 3 * (B * B) := by
  have b0 := (bmul h0.1 h0.2 h0.1 h0.2).2
  have b1 := (bmul h1.1 h1.2 h1.1 h1.2).2
  have b2 := (bmul h2.1 h2.2 h2.1 h2.2).2
  omega
/-- The bound of a whole error. -/
def Dm (n : Int) : Int := 1644167168 * (n + 1) + 1008806316530991104
theorem dm_sq {d0 d1 d2 n : Int} (hn : 0 ≤ n) (h0 : -(939524096 * (n + 1) + 576460752303423488) ≤ d0 ∧ d0 ≤ 939524096 * (n + 1) + 576460752303423488) (h1 : -(939524096 * (n + 1) + 576460752303423488) ≤ d1 ∧ d1 ≤ 939524096 * (n + 1) + 576460752303423488)
    (h2 : -(939524096 * (n + 1) + 576460752303423488) ≤ d2 ∧ d2 ≤ 939524096 * (n + 1) + 576460752303423488) : d0 * d0 + d1 * d1 + d2 * d2 ≤ Dm n * Dm n := by
  have h := sq3_bd h0 h1 h2
  have hD : 4 * Dm n = 7 * (939524096 * (n + 1) + 576460752303423488) := by unfold Dm; omega
  generalize hB : 939524096 * (n + 1) + 576460752303423488 = B at *
  have e : 16 * (Dm n * Dm n) = 49 * (B * B) := by
    have : 16 * (Dm n * Dm n) = (4 * Dm n) * (4 * Dm n) := by grind
    rw [this, hD]; grind
  have := sq_nn B
  omega
/-- Norms under a rounded rotation. -/
theorem keep_norm {F v x D : Nat → Int} {Q n m : Int} (hn : 0 ≤ n) (hm : 0 ≤ m) (hv1 : n * n ≤ vv v) (hv2 : vv v < (n + 1) * (n + 1)) (hx1 : m * m ≤ vv x) (hx2 : vv x < (m + 1) * (m + 1))
    (hQ1 : 1073741822 * 1073741822 ≤ Q) (hQ2 : Q < 1073741826 * 1073741826) (hF : vv F = Q * Q * vv v)
    (hx : ∀ i, i < 3 → 1152921504606846976 * x i = F i + D i ∧ -(939524096 * (n + 1) + 576460752303423488) ≤ D i ∧ D i ≤ 939524096 * (n + 1) + 576460752303423488) :
    1152921504606846976 * m ≤ Q * (n + 1) + Dm n ∧ Q * n ≤ 1152921504606846976 * (m + 1) + Dm n := by
  obtain ⟨x0, l0, u0⟩ := hx 0 (by omega)
  obtain ⟨x1, l1, u1⟩ := hx 1 (by omega)
  obtain ⟨x2, l2, u2⟩ := hx 2 (by omega)
  have hD := dm_sq hn ⟨l0, u0⟩ ⟨l1, u1⟩ ⟨l2, u2⟩
  have hDn : 0 ≤ Dm n := by unfold Dm; omega
  have hQ0 : 0 ≤ Q := by omega
  have sx : (1152921504606846976 * x 0) * (1152921504606846976 * x 0) + (1152921504606846976 * x 1) * (1152921504606846976 * x 1) + (1152921504606846976 * x 2) * (1152921504606846976 * x 2) = 1152921504606846976 * 1152921504606846976 * vv x := by unfold vv; grind
  have sF : F 0 * F 0 + F 1 * F 1 + F 2 * F 2 = Q * Q * vv v := hF
  constructor
  · have t := tri3 (X := Q * (n + 1)) (Y := Dm n) (x0 := F 0) (x1 := F 1) (x2 := F 2) (y0 := D 0) (y1 := D 1) (y2 := D 2) (Int.mul_nonneg hQ0 (by omega)) hDn (by
      rw [sF]
      have := Int.mul_le_mul_of_nonneg_left (show vv v ≤ (n + 1) * (n + 1) by omega) (sq_nn Q)
      have e : Q * (n + 1) * (Q * (n + 1)) = Q * Q * ((n + 1) * (n + 1)) := by grind
      omega) hD
    rw [← x0, ← x1, ← x2, sx] at t
    have h2 : (1152921504606846976 * m) * (1152921504606846976 * m) ≤ (Q * (n + 1) + Dm n) * (Q * (n + 1) + Dm n) := by
      have e : (1152921504606846976 * m) * (1152921504606846976 * m) = 1152921504606846976 * 1152921504606846976 * (m * m) := by grind
      omega
    exact (abs_le_of_sq (Int.add_nonneg (Int.mul_nonneg hQ0 (by omega)) hDn) h2).2
  · have t := tri3 (X := 1152921504606846976 * (m + 1)) (Y := Dm n) (x0 := 1152921504606846976 * x 0) (x1 := 1152921504606846976 * x 1) (x2 := 1152921504606846976 * x 2) (y0 := -D 0) (y1 := -D 1) (y2 := -D 2) (by omega) hDn (by
      rw [sx]
      have e : 1152921504606846976 * (m + 1) * (1152921504606846976 * (m + 1)) = 1152921504606846976 * 1152921504606846976 * ((m + 1) * (m + 1)) := by grind
      omega) (by
      have e : -D 0 * -D 0 + -D 1 * -D 1 + -D 2 * -D 2 = D 0 * D 0 + D 1 * D 1 + D 2 * D 2 := by grind
      omega)
    have f0 : 1152921504606846976 * x 0 + -D 0 = F 0 := by omega
    have f1 : 1152921504606846976 * x 1 + -D 1 = F 1 := by omega
    have f2 : 1152921504606846976 * x 2 + -D 2 = F 2 := by omega
    rw [f0, f1, f2, sF] at t
    have h2 : (Q * n) * (Q * n) ≤ (1152921504606846976 * (m + 1) + Dm n) * (1152921504606846976 * (m + 1) + Dm n) := by
      have := Int.mul_le_mul_of_nonneg_left hv1 (sq_nn Q)
      have e : (Q * n) * (Q * n) = Q * Q * (n * n) := by grind
      omega
    exact (abs_le_of_sq (Int.add_nonneg (by omega) hDn) h2).2
/-- Within the bound of the document. -/
theorem keep_fin {Q n m : Int} (hn : 0 ≤ n) (hm : 0 ≤ m) (hQ1 : 1073741822 * 1073741822 ≤ Q) (hQ2 : Q < 1073741826 * 1073741826)
    (h1 : 1152921504606846976 * m ≤ Q * (n + 1) + Dm n) (h2 : Q * n ≤ 1152921504606846976 * (m + 1) + Dm n) : m ≤ n + (n / 67108864 + 2) ∧ n ≤ m + (n / 67108864 + 2) := by
  have k1 : Q * (n + 1) ≤ 1152921508901814275 * (n + 1) := Int.mul_le_mul_of_nonneg_right (by omega) (by omega)
  have k2 : 1152921500311879684 * n ≤ Q * n := Int.mul_le_mul_of_nonneg_right (by omega) hn
  unfold Dm at h1 h2
  generalize Q * (n + 1) = A at *
  generalize Q * n = B at *
  omega
end Go.Proofs.Ytcgpcehdeihalaa
