/-
  The rotation from an attitude to the one that was turned is the turn, within a bound: arithmetic. No program in sight.
-/
import Derived.Test.YtkmelddejdikgaaBet
import Derived.Test.YtkmelddejdikgaaKeep
set_option linter.unusedSimpArgs false
set_option linter.unusedVariables false
namespace Go.Proofs.Ytkmelddejdikgaa
open Go.RowKit PM Dt
theorem cauchy4 (x0 x1 x2 x3 y0 y1 y2 y3 : Int) : (x0 * y0 + x1 * y1 + x2 * y2 + x3 * y3) * (x0 * y0 + x1 * y1 + x2 * y2 + x3 * y3) ≤ (x0 * x0 + x1 * x1 + x2 * x2 + x3 * x3) * (y0 * y0 + y1 * y1 + y2 * y2 + y3 * y3) := by
  have h1 := sq_nn (x0 * y1 - x1 * y0)
  have h2 := sq_nn (x0 * y2 - x2 * y0)
  have h3 := sq_nn (x1 * y2 - x2 * y1)
  have h4 := sq_nn (x0 * y3 - x3 * y0)
  have h5 := sq_nn (x1 * y3 - x3 * y1)
  have h6 := sq_nn (x2 * y3 - x3 * y2)
  have e : (x0 * x0 + x1 * x1 + x2 * x2 + x3 * x3) * (y0 * y0 + y1 * y1 + y2 * y2 + y3 * y3) = (x0 * y0 + x1 * y1 + x2 * y2 + x3 * y3) * (x0 * y0 + x1 * y1 + x2 * y2 + x3 * y3) + ((x0 * y1 - x1 * y0) * (x0 * y1 - x1 * y0) + (x0 * y2 - x2 * y0) * (x0 * y2 - x2 * y0) + (x1 * y2 - x2 * y1) * (x1 * y2 - x2 * y1) + (x0 * y3 - x3 * y0) * (x0 * y3 - x3 * y0) + (x1 * y3 - x3 * y1) * (x1 * y3 - x3 * y1) + (x2 * y3 - x3 * y2) * (x2 * y3 - x3 * y2)) := by grind
  omega
theorem tri4 {x y z : Nat → Int} {X Y : Int} (hX : 0 ≤ X) (hY : 0 ≤ Y) (hx : nn x ≤ X * X) (hy : nn y ≤ Y * Y) (hz : ∀ i, i < 4 → z i = x i + y i) : nn z ≤ (X + Y) * (X + Y) := by
  have hc := cauchy4 (x 0) (x 1) (x 2) (x 3) (y 0) (y 1) (y 2) (y 3)
  have hp : nn x * nn y ≤ (X * X) * (Y * Y) := Int.mul_le_mul hx hy (nn_nonneg y) (sq_nn X)
  have e : (X * X) * (Y * Y) = (X * Y) * (X * Y) := by grind
  have hd := (abs_le_of_sq (x := x 0 * y 0 + x 1 * y 1 + x 2 * y 2 + x 3 * y 3) (p := X * Y) (Int.mul_nonneg hX hY) (by
    rw [← e]; exact Int.le_trans hc hp)).2
  have e1 : nn z = nn x + nn y + 2 * (x 0 * y 0 + x 1 * y 1 + x 2 * y 2 + x 3 * y 3) := by
    unfold nn
    rw [hz 0 (by omega), hz 1 (by omega), hz 2 (by omega), hz 3 (by omega)]; grind
  have e2 : (X + Y) * (X + Y) = X * X + Y * Y + 2 * (X * Y) := by grind
  omega
def sc (c : Int) (x : Nat → Int) : Nat → Int := fun i => c * x i
theorem nn_sc (c : Int) (x : Nat → Int) : nn (sc c x) = c * c * nn x := by unfold nn sc; grind
theorem nn_comp {x : Nat → Int} {X : Int} (hX : 0 ≤ X) (h : nn x ≤ X * X) {i : Nat} (hi : i < 4) : -X ≤ x i ∧ x i ≤ X := by
  have n0 := sq_nn (x 0)
  have n1 := sq_nn (x 1)
  have n2 := sq_nn (x 2)
  have n3 := sq_nn (x 3)
  refine abs_le_of_sq hX ?_
  unfold nn at h
  have : i = 0 ∨ i = 1 ∨ i = 2 ∨ i = 3 := by omega
  rcases this with rfl | rfl | rfl | rfl <;> omega
theorem nn_bd {x : Nat → Int} {B : Int} (h : ∀ i, i < 4 → -B ≤ x i ∧ x i ≤ B) : nn x ≤ (2 * B) * (2 * B) := by
  have b := fun i hi => (bmul (h i hi).1 (h i hi).2 (h i hi).1 (h i hi).2).2
  have b0 := b 0 (by omega)
  have b1 := b 1 (by omega)
  have b2 := b 2 (by omega)
  have b3 := b 3 (by omega)
  have e : (2 * B) * (2 * B) = 4 * (B * B) := by grind
  unfold nn
  omega
def cj (f : Nat → Int) : Nat → Int
  | 0 => f 0
  | 1 => -f 1
  | 2 => -f 2
  | _ => -f 3
theorem nn_cj (f : Nat → Int) : nn (cj f) = nn f := by unfold nn cj; grind
theorem pe_cj (f g : Nat → Int) (i : Nat) (hi : i < 4) : pe (cj f) (pe f g) i = nn f * g i := by
  have : i = 0 ∨ i = 1 ∨ i = 2 ∨ i = 3 := by omega
  unfold nn
  rcases this with rfl | rfl | rfl | rfl
  · show f 0 * pe f g 0 - -f 1 * pe f g 1 - -f 2 * pe f g 2 - -f 3 * pe f g 3 = _
    unfold pe; grind
  · show f 0 * pe f g 1 + -f 1 * pe f g 0 + -f 2 * pe f g 3 - -f 3 * pe f g 2 = _
    unfold pe; grind
  · show f 0 * pe f g 2 - -f 1 * pe f g 3 + -f 2 * pe f g 0 + -f 3 * pe f g 1 = _
    unfold pe; grind
  · show f 0 * pe f g 3 + -f 1 * pe f g 2 - -f 2 * pe f g 1 + -f 3 * pe f g 0 = _
    unfold pe; grind
theorem pe_lin (f x y : Nat → Int) (a b : Int) (i : Nat) (hi : i < 4) : pe f (fun j => a * x j + b * y j) i = a * pe f x i + b * pe f y i := by
  have : i = 0 ∨ i = 1 ∨ i = 2 ∨ i = 3 := by omega
  rcases this with rfl | rfl | rfl | rfl <;> simp only [pe] <;> grind
theorem pe_congr {f x y : Nat → Int} (h : ∀ j, j < 4 → x j = y j) (i : Nat) (hi : i < 4) : pe f x i = pe f y i := by
  have h0 := h 0 (by omega)
  have h1 := h 1 (by omega)
  have h2 := h 2 (by omega)
  have h3 := h 3 (by omega)
  have : i = 0 ∨ i = 1 ∨ i = 2 ∨ i = 3 := by omega
  rcases this with rfl | rfl | rfl | rfl <;> simp only [pe] <;> rw [h0, h1, h2, h3]
end Go.Proofs.Ytkmelddejdikgaa
