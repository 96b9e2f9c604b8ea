/-
  Vector products of small vectors: orthogonal to their factors within the bound, and of the other sign in the other order. No program in sight.
-/
import Derived.Test.YtnkjbdfhdenbcaaVecG
import Derived.Test.YtnkjbdfhdenbcaaLawVec
set_option linter.unusedSimpArgs false
set_option linter.unusedVariables false
namespace Go.Proofs.Ytnkjbdfhdenbcaa
open Go.RowKit PM Dt
theorem two_eq (a b c d : Int) : twoV a b c d = rnd (a * b - c * d) := by
  unfold twoV; rw [dotS_cons, dotS_cons, dotS_nil, Int.neg_mul]; congr 1; omega
theorem rnd_err (n : Int) : ∃ e, 1073741824 * rnd n = n + e ∧ -536870912 ≤ e ∧ e ≤ 536870912 := ⟨1073741824 * rnd n - n, by omega, by unfold rnd; omega, by unfold rnd; omega⟩
/-- The errors alone are left. -/
theorem ortho {f0 f1 f2 g0 g1 g2 c0 c1 c2 e0 e1 e2 : Int} (h0 : 1073741824 * c0 = (f1 * g2 - f2 * g1) + e0) (h1 : 1073741824 * c1 = (f2 * g0 - f0 * g2) + e1) (h2 : 1073741824 * c2 = (f0 * g1 - f1 * g0) + e2) :
    1073741824 * (c0 * f0 + (c1 * f1 + (c2 * f2 + 0))) = e0 * f0 + (e1 * f1 + e2 * f2) ∧ 1073741824 * (c0 * g0 + (c1 * g1 + (c2 * g2 + 0))) = e0 * g0 + (e1 * g1 + e2 * g2) := by
  have r : ∀ x0 x1 x2 : Int, 1073741824 * (c0 * x0 + (c1 * x1 + (c2 * x2 + 0))) = (1073741824 * c0) * x0 + ((1073741824 * c1) * x1 + (1073741824 * c2) * x2) := by
    intro x0 x1 x2
    rw [Int.mul_add, Int.mul_add, Int.mul_add, Int.mul_assoc, Int.mul_assoc, Int.mul_assoc, Int.mul_zero, Int.add_zero]
  rw [r, r, h0, h1, h2]
  clear h0 h1 h2 r
  constructor <;> grind
theorem err_bd {e f : Int} (h1 : -536870912 ≤ e) (h2 : e ≤ 536870912) (h3 : -2147483648 ≤ f) (h4 : f ≤ 2147483648) : -1152921504606846976 ≤ e * f ∧ e * f ≤ 1152921504606846976 :=
  bmul (P := 536870912) (R := 2147483648) h1 h2 h3 h4
theorem prod31 {a b : Int} (h1 : -2147483648 ≤ a) (h2 : a ≤ 2147483648) (h3 : -2147483648 ≤ b) (h4 : b ≤ 2147483648) : -4611686018427387904 ≤ a * b ∧ a * b ≤ 4611686018427387904 :=
  bmul (P := 2147483648) (R := 2147483648) h1 h2 h3 h4
/-- All that is asked of two small vectors. -/
theorem crossed (f g : Nat → Int) (hf : smallB f 2147483648 = true) (hg : smallB g 2147483648 = true) :
    okV f = true ∧ okV g = true ∧ okV (crossX f g) = true ∧ okV (crossX g f) = true ∧ smallB (of3 (rnd (d3 (crossX f g) f)) (rnd (d3 (crossX f g) g)) 0) 4 = true ∧ okV (addF (crossX f g) (crossX g f)) = true ∧ smallB (addF (crossX f g) (crossX g f)) 1 = true := by
  have bf : ∀ i, i < 3 → -2147483648 ≤ f i ∧ f i ≤ 2147483648 := fun i hi => (sb_iff _ _).1 ((smallB_iff f _).1 hf i hi)
  have bg : ∀ i, i < 3 → -2147483648 ≤ g i ∧ g i ≤ 2147483648 := fun i hi => (sb_iff _ _).1 ((smallB_iff g _).1 hg i hi)
  have vf : okV f = true := (okV_iff f).2 fun i hi => (vb_iff _).2 (by have := bf i hi; omega)
  have vg : okV g = true := (okV_iff g).2 fun i hi => (vb_iff _).2 (by have := bg i hi; omega)
  have f0 := bf 0 (by omega)
  have f1 := bf 1 (by omega)
  have f2 := bf 2 (by omega)
  have g0 := bg 0 (by omega)
  have g1 := bg 1 (by omega)
  have g2 := bg 2 (by omega)
  have x0 : crossX f g 0 = rnd (f 1 * g 2 - f 2 * g 1) := two_eq _ _ _ _
  have x1 : crossX f g 1 = rnd (f 2 * g 0 - f 0 * g 2) := two_eq _ _ _ _
  have x2 : crossX f g 2 = rnd (f 0 * g 1 - f 1 * g 0) := two_eq _ _ _ _
  have y0 : crossX g f 0 = rnd (g 1 * f 2 - g 2 * f 1) := two_eq _ _ _ _
  have y1 : crossX g f 1 = rnd (g 2 * f 0 - g 0 * f 2) := two_eq _ _ _ _
  have y2 : crossX g f 2 = rnd (g 0 * f 1 - g 1 * f 0) := two_eq _ _ _ _
  rw [Int.mul_comm (g 1) (f 2), Int.mul_comm (g 2) (f 1)] at y0
  rw [Int.mul_comm (g 2) (f 0), Int.mul_comm (g 0) (f 2)] at y1
  rw [Int.mul_comm (g 0) (f 1), Int.mul_comm (g 1) (f 0)] at y2
  have p12 := prod31 f1.1 f1.2 g2.1 g2.2
  have p21 := prod31 f2.1 f2.2 g1.1 g1.2
  have p20 := prod31 f2.1 f2.2 g0.1 g0.2
  have p02 := prod31 f0.1 f0.2 g2.1 g2.2
  have p01 := prod31 f0.1 f0.2 g1.1 g1.2
  have p10 := prod31 f1.1 f1.2 g0.1 g0.2
  obtain ⟨e0, h0, l0, u0⟩ := rnd_err (f 1 * g 2 - f 2 * g 1)
  obtain ⟨e1, h1, l1, u1⟩ := rnd_err (f 2 * g 0 - f 0 * g 2)
  obtain ⟨e2, h2, l2, u2⟩ := rnd_err (f 0 * g 1 - f 1 * g 0)
  rw [← x0] at h0
  rw [← x1] at h1
  rw [← x2] at h2
  obtain ⟨o1, o2⟩ := ortho h0 h1 h2
  have q1 := err_bd l0 u0 f0.1 f0.2
  have q2 := err_bd l1 u1 f1.1 f1.2
  have q3 := err_bd l2 u2 f2.1 f2.2
  have q4 := err_bd l0 u0 g0.1 g0.2
  have q5 := err_bd l1 u1 g1.1 g1.2
  have q6 := err_bd l2 u2 g2.1 g2.2
  have D1 : d3 (crossX f g) f = crossX f g 0 * f 0 + (crossX f g 1 * f 1 + (crossX f g 2 * f 2 + 0)) := by unfold d3; rw [dotS_cons, dotS_cons, dotS_cons, dotS_nil]
  have D2 : d3 (crossX f g) g = crossX f g 0 * g 0 + (crossX f g 1 * g 1 + (crossX f g 2 * g 2 + 0)) := by unfold d3; rw [dotS_cons, dotS_cons, dotS_cons, dotS_nil]
  rw [← D1] at o1
  rw [← D2] at o2
  clear D1 D2 h0 h1 h2
  have k1 : -4 ≤ rnd (d3 (crossX f g) f) ∧ rnd (d3 (crossX f g) f) ≤ 4 := by
    generalize d3 (crossX f g) f = Z at *
    generalize e0 * f 0 = z0 at *
    generalize e1 * f 1 = z1 at *
    generalize e2 * f 2 = z2 at *
    clear o2 q4 q5 q6 p12 p21 p20 p02 p01 p10 x0 x1 x2 y0 y1 y2
    unfold rnd; omega
  have k2 : -4 ≤ rnd (d3 (crossX f g) g) ∧ rnd (d3 (crossX f g) g) ≤ 4 := by
    generalize d3 (crossX f g) g = Z at *
    generalize e0 * g 0 = z0 at *
    generalize e1 * g 1 = z1 at *
    generalize e2 * g 2 = z2 at *
    clear o1 q1 q2 q3 k1 p12 p21 p20 p02 p01 p10 x0 x1 x2 y0 y1 y2
    unfold rnd; omega
  clear o1 o2 q1 q2 q3 q4 q5 q6
  have c0 : vb (crossX f g 0) = true ∧ vb (crossX g f 0) = true ∧ -1 ≤ crossX f g 0 + crossX g f 0 ∧ crossX f g 0 + crossX g f 0 ≤ 1 := by
    rw [x0, y0]
    generalize f 1 * g 2 = z0 at *
    generalize f 2 * g 1 = z1 at *
    clear x0 x1 x2 y0 y1 y2 k1 k2 p20 p02 p01 p10
    refine ⟨(vb_iff _).2 (by unfold rnd; omega), (vb_iff _).2 (by unfold rnd; omega), by unfold rnd; omega, by unfold rnd; omega⟩
  have c1 : vb (crossX f g 1) = true ∧ vb (crossX g f 1) = true ∧ -1 ≤ crossX f g 1 + crossX g f 1 ∧ crossX f g 1 + crossX g f 1 ≤ 1 := by
    rw [x1, y1]
    generalize f 2 * g 0 = z0 at *
    generalize f 0 * g 2 = z1 at *
    clear x0 x1 x2 y0 y1 y2 k1 k2 p12 p21 p01 p10 c0
    refine ⟨(vb_iff _).2 (by unfold rnd; omega), (vb_iff _).2 (by unfold rnd; omega), by unfold rnd; omega, by unfold rnd; omega⟩
  have c2 : vb (crossX f g 2) = true ∧ vb (crossX g f 2) = true ∧ -1 ≤ crossX f g 2 + crossX g f 2 ∧ crossX f g 2 + crossX g f 2 ≤ 1 := by
    rw [x2, y2]
    generalize f 0 * g 1 = z0 at *
    generalize f 1 * g 0 = z1 at *
    clear x0 x1 x2 y0 y1 y2 k1 k2 p12 p21 p20 p02 c0 c1
    refine ⟨(vb_iff _).2 (by unfold rnd; omega), (vb_iff _).2 (by unfold rnd; omega), by unfold rnd; omega, by unfold rnd; omega⟩
  clear x0 x1 x2 y0 y1 y2 p12 p21 p20 p02 p01 p10
  have all : ∀ i, i < 3 → vb (crossX f g i) = true ∧ vb (crossX g f i) = true ∧ -1 ≤ crossX f g i + crossX g f i ∧ crossX f g i + crossX g f i ≤ 1 := by
    intro i hi
    have : i = 0 ∨ i = 1 ∨ i = 2 := by omega
    rcases this with rfl | rfl | rfl
    · exact c0
    · exact c1
    · exact c2
  refine ⟨vf, vg, (okV_iff _).2 fun i hi => (all i hi).1, (okV_iff _).2 fun i hi => (all i hi).2.1, (smallB_iff _ _).2 fun i hi => ?_, (okV_iff _).2 fun i hi => (vb_iff _).2 ?_, (smallB_iff _ _).2 fun i hi => (sb_iff _ _).2 (all i hi).2.2⟩
  · have : i = 0 ∨ i = 1 ∨ i = 2 := by omega
    rcases this with rfl | rfl | rfl
    · exact (sb_iff _ _).2 k1
    · exact (sb_iff _ _).2 k2
    · exact (sb_iff _ _).2 (show -(4 : Int) ≤ 0 ∧ (0 : Int) ≤ 4 by omega)
  · have := (all i hi).2.2
    show -1099511627776 ≤ crossX f g i + crossX g f i ∧ crossX f g i + crossX g f i ≤ 1099511627776
    omega
end Go.Proofs.Ytnkjbdfhdenbcaa
