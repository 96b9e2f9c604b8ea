/-
  Matrices of nine numbers: rows, and what it is that one is valid. The product of a matrix and a vector: Apply, in the package and in its specification. Columns of matrices, the transposed matrix, and its product with a vector: Back. The matrix of a quaternion, in the package. Rotations keep norms, and Back undoes Rotate: arithmetic. No program in sight. The rotation from an attitude to the one that was turned is the turn, within a bound: arithmetic. No program in sight. A turn of an attitude, seen from another one: what the error's components become. No program in sight. A turn of an attitude, seen from another one: bounds. No program in sight. A turn of an attitude, seen from another one: the law. No program in sight. A filter of a body that stands still settles: the plain law. A filter of a body that stands still settles: all ticks; GyrosSettles returns true.
-/
import Derived.Test.YtkmelddejdikgaaVecF
import Derived.Deep.MidRow
import Derived.Test.YtkmelddejdikgaaBase
import Derived.Test.YtkmelddejdikgaaQuatD
import Derived.Test.YtkmelddejdikgaaQEq
import Derived.Test.YtkmelddejdikgaaLenQ
import Derived.Test.YtkmelddejdikgaaLawVec
import Derived.Test.YtkmelddejdikgaaFrameV
import Derived.Laws.IdiomArrays
import Derived.WalkKit
import Derived.ProofKit
import Derived.OpenShut
import Derived.ShutString
import Derived.ChangeOld
import Derived.Below
import Derived.Test.YtkmelddejdikgaaBet
import Derived.Test.YtkmelddejdikgaaFilP
import Derived.Test.YtkmelddejdikgaaLawGS
import Derived.Test.YtkmelddejdikgaaLenN
set_option linter.unusedSimpArgs false
set_option linter.unusedVariables false
namespace Go.Proofs.Ytkmelddejdikgaa
open Go.RowKit PM Dt
/-- Nine numbers, as cells. -/
def mfn (g : Nat → Int) : Array Value := ((List.range 9).map fun i => Value.int .i64 (g i)).toArray
attribute [irreducible] mfn
end Go.Proofs.Ytkmelddejdikgaa
namespace Go.Proofs.Ytkmelddejdikgaa
open Go.RowKit PM Dt
end Go.Proofs.Ytkmelddejdikgaa
namespace Go.Proofs.Ytkmelddejdikgaa
open Go.RowKit PM Dt
end Go.Proofs.Ytkmelddejdikgaa
namespace Go.Proofs.Ytkmelddejdikgaa
open Go.RowKit PM Dt
/-- Is a number at most 2^41 in absolute value? -/
abbrev Wd (a : Int) : Prop := -2199023255552 ≤ a ∧ a ≤ 2199023255552
theorem Wd.I {a : Int} (h : Wd a) : I64 a := ⟨by have := h.1; omega, by have := h.2; omega⟩
end Go.Proofs.Ytkmelddejdikgaa
namespace Go.Proofs.Ytkmelddejdikgaa
open Go.RowKit PM Dt
/-- The triangle, for three components. -/
theorem abs_le_of_sq {x p : Int} (hp : 0 ≤ p) (h : x * x ≤ p * p) : -p ≤ x ∧ x ≤ p := by
  have := sqv_lt (a := x) (b := p + 1) (by omega) (by
    have e : (p + 1) * (p + 1) = p * p + 2 * p + 1 := by grind
    omega)
  omega
end Go.Proofs.Ytkmelddejdikgaa
namespace Go.Proofs.Ytkmelddejdikgaa
open Go.RowKit PM Dt
theorem cauchy4 (x0 x1 x2 x3 y0 y1 y2 y3 : Int) : (x0 * y0 + x1 * y1 + x2 * y2 + x3 * y3) * (x0 * y0 + x1 * y1 + x2 * y2 + x3 * y3) ≤ (x0 * x0 + x1 * x1 + x2 * x2 + x3 * x3) * (y0 * y0 + y1 * y1 + y2 * y2 + y3 * y3) := by
  have h1 := sq_nn (x0 * y1 - x1 * y0)
  have h2 := sq_nn (x0 * y2 - x2 * y0)
  have h3 := sq_nn (x1 * y2 - x2 * y1)
  have h4 := sq_nn (x0 * y3 - x3 * y0)
  have h5 := sq_nn (x1 * y3 - x3 * y1)
  have h6 := sq_nn (x2 * y3 - x3 * y2)
  have e : (x0 * x0 + x1 * x1 + x2 * x2 + x3 * x3) * (y0 * y0 + y1 * y1 + y2 * y2 + y3 * y3) = (x0 * y0 + x1 * y1 + x2 * y2 + x3 * y3) * (x0 * y0 + x1 * y1 + x2 * y2 + x3 * y3) + ((x0 * y1 - x1 * y0) * (x0 * y1 - x1 * y0) + (x0 * y2 - x2 * y0) * (x0 * y2 - x2 * y0) + (x1 * y2 - x2 * y1) * (x1 * y2 - x2 * y1) + (x0 * y3 - x3 * y0) * (x0 * y3 - x3 * y0) + (x1 * y3 - x3 * y1) * (x1 * y3 - x3 * y1) + (x2 * y3 - x3 * y2) * (x2 * y3 - x3 * y2)) := by grind
  omega
theorem tri4 {x y z : Nat → Int} {X Y : Int} (hX : 0 ≤ X) (hY : 0 ≤ Y) (hx : nn x ≤ X * X) (hy : nn y ≤ Y * Y) (hz : ∀ i, i < 4 → z i = x i + y i) : nn z ≤ (X + Y) * (X + Y) := by
  have hc := cauchy4 (x 0) (x 1) (x 2) (x 3) (y 0) (y 1) (y 2) (y 3)
  have hp : nn x * nn y ≤ (X * X) * (Y * Y) := Int.mul_le_mul hx hy (nn_nonneg y) (sq_nn X)
  have e : (X * X) * (Y * Y) = (X * Y) * (X * Y) := by grind
  have hd := (abs_le_of_sq (x := x 0 * y 0 + x 1 * y 1 + x 2 * y 2 + x 3 * y 3) (p := X * Y) (Int.mul_nonneg hX hY) (by
    rw [← e]; exact Int.le_trans hc hp)).2
  have e1 : nn z = nn x + nn y + 2 * (x 0 * y 0 + x 1 * y 1 + x 2 * y 2 + x 3 * y 3) := by
    unfold nn
    rw [hz 0 (by omega), hz 1 (by omega), hz 2 (by omega), hz 3 (by omega)]; grind
  have e2 : (X + Y) * (X + Y) = X * X + Y * Y + 2 * (X * Y) := by grind
  omega
def sc (c : Int) (x : Nat → Int) : Nat → Int := fun i => c * x i
theorem nn_sc (c : Int) (x : Nat → Int) : nn (sc c x) = c * c * nn x := by unfold nn sc; grind
theorem nn_comp {x : Nat → Int} {X : Int} (hX : 0 ≤ X) (h : nn x ≤ X * X) {i : Nat} (hi : i < 4) : -X ≤ x i ∧ x i ≤ X := by
  have n0 := sq_nn (x 0)
  have n1 := sq_nn (x 1)
  have n2 := sq_nn (x 2)
  have n3 := sq_nn (x 3)
  refine abs_le_of_sq hX ?_
  unfold nn at h
  have : i = 0 ∨ i = 1 ∨ i = 2 ∨ i = 3 := by omega
  rcases this with rfl | rfl | rfl | rfl <;> omega
theorem nn_bd {x : Nat → Int} {B : Int} (h : ∀ i, i < 4 → -B ≤ x i ∧ x i ≤ B) : nn x ≤ (2 * B) * (2 * B) := by
  have b := fun i hi => (bmul (h i hi).1 (h i hi).2 (h i hi).1 (h i hi).2).2
  have b0 := b 0 (by omega)
  have b1 := b 1 (by omega)
  have b2 := b 2 (by omega)
  have b3 := b 3 (by omega)
  have e : (2 * B) * (2 * B) = 4 * (B * B) := by grind
  unfold nn
  omega
/-- The conjugate, plainly. -/
def cj (f : Nat → Int) : Nat → Int
  | 0 => f 0
  | 1 => -f 1
  | 2 => -f 2
  | _ => -f 3
theorem nn_cj (f : Nat → Int) : nn (cj f) = nn f := by unfold nn cj; grind
end Go.Proofs.Ytkmelddejdikgaa
namespace Go.Proofs.Ytkmelddejdikgaa
open Go.RowKit PM Dt
/-- The conjugate of a product, before another factor. -/
theorem pe_cj_pe (Q R q : Nat → Int) (i : Nat) (hi : i < 4) : pe (cj (pe Q R)) q i = pe (cj R) (pe (cj Q) q) i := by
  have : i = 0 ∨ i = 1 ∨ i = 2 ∨ i = 3 := by omega
  rcases this with rfl | rfl | rfl | rfl <;> simp only [pe, cj] <;> grind
/-- The product is linear in its first factor's conjugate. -/
theorem pe_lin1 (x y q : Nat → Int) (a b : Int) (i : Nat) (hi : i < 4) : pe (cj fun j => a * x j + b * y j) q i = a * pe (cj x) q i + b * pe (cj y) q i := by
  have : i = 0 ∨ i = 1 ∨ i = 2 ∨ i = 3 := by omega
  rcases this with rfl | rfl | rfl | rfl <;> simp only [pe, cj] <;> grind
theorem pe_congr1 {x y q : Nat → Int} (h : ∀ j, j < 4 → x j = y j) (i : Nat) (hi : i < 4) : pe (cj x) q i = pe (cj y) q i := by
  have h0 := h 0 (by omega)
  have h1 := h 1 (by omega)
  have h2 := h 2 (by omega)
  have h3 := h 3 (by omega)
  have : i = 0 ∨ i = 1 ∨ i = 2 ∨ i = 3 := by omega
  rcases this with rfl | rfl | rfl | rfl <;> simp only [pe, cj] <;> rw [h0, h1, h2, h3]
/-- The error of an attitude. -/
def eD (Q q : Nat → Int) : Nat → Int := pe (cj Q) q
theorem eD_nn (Q q : Nat → Int) : nn (eD Q q) = nn Q * nn q := by unfold eD; rw [pe_nn, nn_cj]
/-- What a turn does: exactly. -/
theorem turn_eq {Q q h : Nat → Int} (hI : ∀ i, i < 4 → I64 (Q i)) (hQ : validQ Q = true) (hs : smallB h 1073741824 = true) :
    ∃ N P : Int, ∃ eta p : Nat → Int, 35184372088832 ≤ N ∧ 0 < P ∧ N * N ≤ P * P * nn p ∧ P * P * nn p < (N + 1) * (N + 1) ∧ (∀ j, j < 4 → ∃ e, 1073741824 * p j = pe Q (rq h) j + e ∧ -536870912 ≤ e ∧ e ≤ 536870912) ∧
      (∀ j, j < 4 → -(1152921504606846976 * P + 1073741824 * N) ≤ eta j ∧ eta j ≤ 1152921504606846976 * P + 1073741824 * N) ∧
      ∀ i, i < 4 → 2147483648 * N * eD (turnF Q h) q i = 2147483648 * P * pe (cj (rq h)) (eD Q q) i + pe (cj eta) q i := by
  obtain ⟨_, hT, hk, hz⟩ := turn_core hI hQ hs
  obtain ⟨kQ, _, _⟩ := valid_nn hI hQ
  obtain ⟨kR, _, _⟩ := rq_ok hs
  obtain ⟨_, _, ⟨N, P, hN, hP, h1, h2, hu⟩, _⟩ := qun_core hk hz
  have hpr : ∀ j, ∃ e, j < 4 → 1073741824 * qprodF Q (rq h) j = pe Q (rq h) j + e ∧ -536870912 ≤ e ∧ e ≤ 536870912 := fun j => by
    by_cases hj : j < 4
    · obtain ⟨e, he⟩ := prod_err kQ kR hj; exact ⟨e, fun _ => he⟩
    · exact ⟨0, fun h => absurd h hj⟩
  obtain ⟨e, he⟩ := Classical.skolem.1 hpr
  have hdd : ∀ j, ∃ d, j < 4 → 2 * (N * qunF (qprodF Q (rq h)) j) = 2 * (1073741824 * (P * qprodF Q (rq h) j)) + d ∧ -N ≤ d ∧ d ≤ N := fun j => by
    by_cases hj : j < 4
    · obtain ⟨d, hd⟩ := hu j hj; exact ⟨d, fun _ => hd⟩
    · exact ⟨0, fun h => absurd h hj⟩
  obtain ⟨d, hd⟩ := Classical.skolem.1 hdd
  refine ⟨N, P, fun j => 2147483648 * P * e j + 1073741824 * d j, qprodF Q (rq h), hN, hP, h1, h2, fun j hj => ⟨e j, he j hj⟩, fun j hj => ?_, fun i hi => ?_⟩
  · obtain ⟨_, e1, e2⟩ := he j hj
    obtain ⟨_, d1, d2⟩ := hd j hj
    have b1 : P * e j ≤ P * 536870912 := Int.mul_le_mul_of_nonneg_left e2 (by omega)
    have b2 : P * -536870912 ≤ P * e j := Int.mul_le_mul_of_nonneg_left e1 (by omega)
    have e3 : 2147483648 * P * e j = 2147483648 * (P * e j) := by rw [Int.mul_assoc]
    show _ ≤ 2147483648 * P * e j + 1073741824 * d j ∧ 2147483648 * P * e j + 1073741824 * d j ≤ _
    rw [e3]
    omega
  · have key : ∀ j, j < 4 → 2147483648 * N * turnF Q h j = 2147483648 * P * pe Q (rq h) j + 1 * (2147483648 * P * e j + 1073741824 * d j) := fun j hj => by
      rw [hT]
      obtain ⟨e0, _⟩ := he j hj
      obtain ⟨d0, _⟩ := hd j hj
      generalize qunF (qprodF Q (rq h)) j = t at *
      generalize qprodF Q (rq h) j = p at *
      have x1 : 2147483648 * N * t = 1073741824 * (2 * (N * t)) := by grind
      have x2 : 2147483648 * P * pe Q (rq h) j + 2147483648 * P * e j = 2147483648 * P * (1073741824 * p) := by rw [e0]; grind
      have x3 : 1073741824 * (2 * (1073741824 * (P * p))) = 2147483648 * P * (1073741824 * p) := by grind
      rw [x1, d0]
      omega
    have l1 := pe_lin1 (turnF Q h) (fun _ => 0) q (2147483648 * N) 0 i hi
    have l2 := pe_lin1 (pe Q (rq h)) (fun j => 2147483648 * P * e j + 1073741824 * d j) q (2147483648 * P) 1 i hi
    have l3 := pe_congr1 (q := q) (x := fun j => 2147483648 * N * turnF Q h j + 0 * (fun _ => (0 : Int)) j) (y := fun j => 2147483648 * P * pe Q (rq h) j + 1 * (2147483648 * P * e j + 1073741824 * d j)) (fun j hj => by
      have := key j hj
      show 2147483648 * N * turnF Q h j + 0 * 0 = _
      rw [this]; omega) i hi
    rw [l1, l2, pe_cj_pe Q (rq h) q i hi] at l3
    unfold eD
    have x1 : 0 * pe (cj fun _ => 0) q i = 0 := Int.zero_mul _
    omega
end Go.Proofs.Ytkmelddejdikgaa
namespace Go.Proofs.Ytkmelddejdikgaa
open Go.RowKit PM Dt
theorem can_div {N P W Z : Int} (hP : 0 < P) (hN : P * 1073741818 ≤ N) (h1 : -(P * Z) ≤ N * W) (h2 : N * W ≤ P * Z) : -Z ≤ 1073741818 * W ∧ 1073741818 * W ≤ Z := by
  have key : ∀ V : Int, 0 ≤ V → N * V ≤ P * Z → 1073741818 * V ≤ Z := fun V hV h => by
    have a := Int.mul_le_mul_of_nonneg_right hN hV
    have e : P * 1073741818 * V = P * (1073741818 * V) := by grind
    exact Int.le_of_mul_le_mul_left (a := P) (by omega) hP
  rcases Int.le_total 0 W with h | h
  · have hz := key W h h2
    omega
  · have e : N * -W = -(N * W) := by grind
    have hz := key (-W) (by omega) (by omega)
    omega
/-- The scalar part of the error. -/
theorem eD_zero {Q q : Nat → Int} {M : Int} (hI : ∀ i, i < 4 → I64 (Q i)) (hQ : validQ Q = true) (hJ : ∀ i, i < 4 → I64 (q i)) (hq : validQ q = true) (hM0 : 0 ≤ M) (hM : M ≤ 2251799813685248) (hD : ∀ i, i < 3 → -M ≤ eD Q q (i + 1) ∧ eD Q q (i + 1) ≤ M) (h0 : 0 < eD Q q 0) :
    1152921504606846976 - (11811160064 + M) ≤ eD Q q 0 ∧ eD Q q 0 ≤ 1152921504606846976 + 11811160064 := by
  obtain ⟨_, l1, u1⟩ := valid_nn hI hQ
  obtain ⟨_, l2, u2⟩ := valid_nn hJ hq
  have hn := eD_nn Q q
  have lo : 1073741820 * 1073741820 * (1073741820 * 1073741820) ≤ nn Q * nn q := Int.mul_le_mul l1 l2 (by decide) (by omega)
  have up : nn Q * nn q ≤ 1073741829 * 1073741829 * (1073741829 * 1073741829) := Int.mul_le_mul (by omega) (by omega) (nn_nonneg q) (by decide)
  rw [← hn] at lo up
  have b := fun i hi => (bmul (hD i hi).1 (hD i hi).2 (hD i hi).1 (hD i hi).2).2
  have b0 : eD Q q 1 * eD Q q 1 ≤ M * M := b 0 (by omega)
  have b1 : eD Q q 2 * eD Q q 2 ≤ M * M := b 1 (by omega)
  have b2 : eD Q q 3 * eD Q q 3 ≤ M * M := b 2 (by omega)
  have n1 := sq_nn (eD Q q 1)
  have n2 := sq_nn (eD Q q 2)
  have n3 := sq_nn (eD Q q 3)
  have en : nn (eD Q q) = eD Q q 0 * eD Q q 0 + eD Q q 1 * eD Q q 1 + eD Q q 2 * eD Q q 2 + eD Q q 3 * eD Q q 3 := rfl
  rw [en] at lo up
  have hMM : M * M ≤ 2251799813685248 * M := Int.mul_le_mul_of_nonneg_right hM hM0
  generalize eD Q q 0 = d at *
  constructor
  · apply Classical.byContradiction; intro hn'
    have hlt : d < 1152921504606846976 - (11811160064 + M) := by omega
    have hpos : 0 ≤ 1152921504606846976 - (11811160064 + M) := by omega
    have hsq : d * d ≤ (1152921504606846976 - (11811160064 + M)) * (1152921504606846976 - (11811160064 + M)) := Int.mul_le_mul (by omega) (by omega) (by omega) hpos
    have e : (1152921504606846976 - (11811160064 + M)) * (1152921504606846976 - (11811160064 + M)) = 1152921492795686912 * 1152921492795686912 - 2 * 1152921492795686912 * M + M * M := by grind
    rw [e] at hsq
    omega
  · apply Classical.byContradiction; intro hn'
    have hsq : (1152921504606846976 + 11811160064) * (1152921504606846976 + 11811160064) ≤ d * d := Int.mul_le_mul (by omega) (by omega) (by decide) (by omega)
    omega
/-- The quotient of the two scales. -/
theorem turn_scale {N P : Int} {Q h p : Nat → Int} (hQl : 1073741820 * 1073741820 ≤ nn Q) (hQu : nn Q < 1073741829 * 1073741829) (hh : ∀ i, i < 3 → -524288 ≤ h i ∧ h i ≤ 524288) (hN : 35184372088832 ≤ N) (hP : 0 < P) (h1 : N * N ≤ P * P * nn p) (h2 : P * P * nn p < (N + 1) * (N + 1))
    (hp : ∀ j, j < 4 → ∃ e, 1073741824 * p j = pe Q (rq h) j + e ∧ -536870912 ≤ e ∧ e ≤ 536870912) : P * 1073741818 ≤ N ∧ N ≤ P * 1073742217 := by
  have hex : ∀ j, ∃ e, j < 4 → 1073741824 * p j = pe Q (rq h) j + e ∧ -536870912 ≤ e ∧ e ≤ 536870912 := fun j => by
    by_cases hj : j < 4
    · obtain ⟨e, he⟩ := hp j hj; exact ⟨e, fun _ => he⟩
    · exact ⟨0, fun h => absurd h hj⟩
  obtain ⟨e, he⟩ := Classical.skolem.1 hex
  have hne : nn e ≤ 1073741824 * 1073741824 := nn_bd (B := 536870912) fun i hi => (he i hi).2
  have hR := rq_nn h
  have b := fun i hi => (bmul (hh i hi).1 (hh i hi).2 (hh i hi).1 (hh i hi).2).2
  have b0 := b 0 (by omega)
  have b1 := b 1 (by omega)
  have b2 := b 2 (by omega)
  have n0 := sq_nn (h 0)
  have n1 := sq_nn (h 1)
  have n2 := sq_nn (h 2)
  have Rl : 1073741824 * 1073741824 ≤ nn (rq h) := by omega
  have Ru : nn (rq h) ≤ 1073742209 * 1073742209 := by omega
  have eE : nn (pe Q (rq h)) = nn Q * nn (rq h) := pe_nn _ _
  have XU : nn Q * nn (rq h) ≤ 1073741829 * 1073741829 * (1073742209 * 1073742209) := Int.mul_le_mul (by omega) Ru (nn_nonneg _) (by decide)
  have XL : 1073741820 * 1073741820 * (1073741824 * 1073741824) ≤ nn Q * nn (rq h) := Int.mul_le_mul hQl Rl (by decide) (nn_nonneg _)
  have hPP : 0 ≤ P * P := Int.mul_nonneg (by omega) (by omega)
  constructor
  · -- from below
    have t := tri4 (x := sc (1073741824 * P) p) (y := sc (-P) e) (z := sc P (pe Q (rq h))) (X := 1073741824 * (N + 1)) (Y := 1073741824 * P) (by omega) (by omega) (by
      rw [nn_sc]
      have e1 : 1073741824 * P * (1073741824 * P) * nn p = 1073741824 * 1073741824 * (P * P * nn p) := by grind
      have e2 : 1073741824 * (N + 1) * (1073741824 * (N + 1)) = 1073741824 * 1073741824 * ((N + 1) * (N + 1)) := by grind
      rw [e1, e2]; omega) (by
      rw [nn_sc]
      have e1 : -P * -P * nn e = P * P * nn e := by grind
      have e2 : 1073741824 * P * (1073741824 * P) = P * P * (1073741824 * 1073741824) := by grind
      rw [e1, e2]
      exact Int.mul_le_mul_of_nonneg_left hne hPP) (fun i hi => by
      obtain ⟨e0, _⟩ := he i hi
      show P * pe Q (rq h) i = 1073741824 * P * p i + -P * e i
      have : pe Q (rq h) i = 1073741824 * p i - e i := by omega
      rw [this]; grind)
    rw [nn_sc, eE] at t
    have lo := Int.mul_le_mul_of_nonneg_left XL hPP
    have e3 : P * P * (1073741820 * 1073741820 * (1073741824 * 1073741824)) = (P * 1152921500311879680) * (P * 1152921500311879680) := by grind
    have := (abs_le_of_sq (x := P * 1152921500311879680) (p := 1073741824 * (N + 1) + 1073741824 * P) (by omega) (by rw [← e3]; exact Int.le_trans lo t)).2
    omega
  · have t := tri4 (x := sc P (pe Q (rq h))) (y := sc P e) (z := sc (1073741824 * P) p) (X := P * 1152921923366160261 + P * 0) (Y := 1073741824 * P) (by omega) (by omega) (by
      rw [nn_sc, eE]
      have := Int.mul_le_mul_of_nonneg_left XU hPP
      have e1 : (P * 1152921923366160261 + P * 0) * (P * 1152921923366160261 + P * 0) = P * P * (1152921923366160261 * 1152921923366160261) := by grind
      rw [e1]
      refine Int.le_trans this (Int.mul_le_mul_of_nonneg_left (by decide) hPP)) (by
      rw [nn_sc]
      have e2 : 1073741824 * P * (1073741824 * P) = P * P * (1073741824 * 1073741824) := by grind
      rw [e2]
      exact Int.mul_le_mul_of_nonneg_left hne hPP) (fun i hi => by
      obtain ⟨e0, _⟩ := he i hi
      show 1073741824 * P * p i = P * pe Q (rq h) i + P * e i
      have : pe Q (rq h) i = 1073741824 * p i - e i := by omega
      rw [this]; grind)
    rw [nn_sc] at t
    have lo := Int.mul_le_mul_of_nonneg_left h1 (show (0 : Int) ≤ 1073741824 * 1073741824 by decide)
    have e3 : 1073741824 * P * (1073741824 * P) * nn p = 1073741824 * 1073741824 * (P * P * nn p) := by grind
    have e4 : 1073741824 * 1073741824 * (N * N) = (1073741824 * N) * (1073741824 * N) := by grind
    have := (abs_le_of_sq (x := 1073741824 * N) (p := P * 1152921923366160261 + P * 0 + 1073741824 * P) (by omega) (by rw [← e4]; rw [e3] at t; exact Int.le_trans lo t)).2
    omega
end Go.Proofs.Ytkmelddejdikgaa
namespace Go.Proofs.Ytkmelddejdikgaa
open Go.RowKit PM Dt
/-- A component, bounded (plain). -/
theorem tn_comp {N P D D0 Dn h X ep M : Int} (hP : 0 < P) (hN1 : P * 1073741818 ≤ N) (hN2 : N ≤ P * 1073742217) (hM0 : 0 ≤ M) (hD : -M ≤ D ∧ D ≤ M) (h0 : 1152921504606846976 - (11811160064 + M) ≤ D0 ∧ D0 ≤ 1152921504606846976 + 11811160064) (hh : -524288 ≤ h ∧ h ≤ 524288) (hX : -(1048576 * M) ≤ X ∧ X ≤ 1048576 * M)
    (he : -(P * 4951761086398439463600193536) ≤ ep ∧ ep ≤ P * 4951761086398439463600193536) (E : 2147483648 * N * Dn = 2147483648 * P * (1073741824 * D - h * D0 + X) + ep) :
    -(2199023255552 + M) ≤ 512 * (Dn - (D - 1073741824 * h)) ∧ 512 * (Dn - (D - 1073741824 * h)) ≤ 2199023255552 + M := by
  have e1 : 2147483648 * (N * (Dn - (D - 1073741824 * h))) = 2147483648 * (D * (1073741824 * P - N) + h * (1073741824 * N - P * D0) + P * X) + ep := by grind
  have q1 : -(393 * P) ≤ 1073741824 * P - N ∧ 1073741824 * P - N ≤ 393 * P := by omega
  have q2 : -(P * (433791696896 + M)) ≤ 1073741824 * N - P * D0 ∧ 1073741824 * N - P * D0 ≤ P * (433791696896 + M) := by
    have a1 : P * (1152921504606846976 - (11811160064 + M)) ≤ P * D0 := Int.mul_le_mul_of_nonneg_left h0.1 (by omega)
    have a2 : P * D0 ≤ P * (1152921504606846976 + 11811160064) := Int.mul_le_mul_of_nonneg_left h0.2 (by omega)
    have a3 : P * (1152921504606846976 - (11811160064 + M)) = P * 1152921492795686912 - P * M := by grind
    have a4 : P * (433791696896 + M) = P * 433791696896 + P * M := by grind
    have a5 : 0 ≤ P * M := Int.mul_nonneg (by omega) hM0
    omega
  have t1 := bmul hD.1 hD.2 q1.1 q1.2
  have t2 := bmul hh.1 hh.2 q2.1 q2.2
  have t3 := bmul (show -P ≤ P by omega) (Int.le_refl P) hX.1 hX.2
  have f1 : M * (393 * P) = 393 * (P * M) := by grind
  have f2 : 524288 * (P * (433791696896 + M)) = P * 227431781182210048 + 524288 * (P * M) := by grind
  have f3 : P * (1048576 * M) = 1048576 * (P * M) := by grind
  rw [f1] at t1
  rw [f2] at t2
  rw [f3] at t3
  have f4 : P * (1573257 * M + 2533275300000000000) = 1573257 * (P * M) + P * 2533275300000000000 := by grind
  have := can_div (N := N) (P := P) (W := Dn - (D - 1073741824 * h)) (Z := 1573257 * M + 2533275300000000000) hP hN1 (by rw [f4]; omega) (by rw [f4]; omega)
  omega
/-- The error of the rounding, seen through the other attitude. -/
theorem eta_bd {eta q : Nat → Int} {N P : Int} (hP : 0 < P) (hN0 : 0 ≤ N) (hN2 : N ≤ P * 1073742217) (hq : nn q < 1073741829 * 1073741829) (he : ∀ j, j < 4 → -(1152921504606846976 * P + 1073741824 * N) ≤ eta j ∧ eta j ≤ 1152921504606846976 * P + 1073741824 * N) {i : Nat} (hi : i < 4) :
    -(P * 4951761086398439463600193536) ≤ pe (cj eta) q i ∧ pe (cj eta) q i ≤ P * 4951761086398439463600193536 := by
  have h1 := nn_bd he
  have hF : 1152921504606846976 * P + 1073741824 * N ≤ P * 2305843431195246592 := by omega
  have hF0 : 0 ≤ 1152921504606846976 * P + 1073741824 * N := by omega
  have h2 : nn (pe (cj eta) q) = nn eta * nn q := by rw [pe_nn, nn_cj]
  have h3 : nn eta ≤ (P * 4611686862390493184) * (P * 4611686862390493184) := Int.le_trans h1 (Int.mul_le_mul (by omega) (by omega) (by omega) (by omega))
  have h4 : nn eta * nn q ≤ (P * 4611686862390493184) * (P * 4611686862390493184) * (1073741829 * 1073741829) := Int.mul_le_mul h3 (by omega) (nn_nonneg q) (Int.mul_nonneg (by omega) (by omega))
  have h5 : (P * 4611686862390493184) * (P * 4611686862390493184) * (1073741829 * 1073741829) = (P * 4951761086398439463600193536) * (P * 4951761086398439463600193536) := by grind
  have := nn_comp (x := pe (cj eta) q) (X := P * 4951761086398439463600193536) (by omega) (by rw [h2, ← h5]; exact h4) hi
  omega
/-- THE LAW of a turn. -/
theorem turn_D {Q q h : Nat → Int} {M : Int} (hI : ∀ i, i < 4 → I64 (Q i)) (hQ : validQ Q = true) (hJ : ∀ i, i < 4 → I64 (q i)) (hq : validQ q = true) (hM0 : 0 ≤ M) (hM : M ≤ 2251799813685248) (hD : ∀ i, i < 3 → -M ≤ eD Q q (i + 1) ∧ eD Q q (i + 1) ≤ M) (h0 : 0 < eD Q q 0)
    (hh : ∀ i, i < 3 → -524288 ≤ h i ∧ h i ≤ 524288) :
    (∀ i, i < 3 → -(2199023255552 + M) ≤ 512 * (eD (turnF Q h) q (i + 1) - (eD Q q (i + 1) - 1073741824 * h i)) ∧ 512 * (eD (turnF Q h) q (i + 1) - (eD Q q (i + 1) - 1073741824 * h i)) ≤ 2199023255552 + M) ∧ 0 < eD (turnF Q h) q 0 := by
  have hs : smallB h 1073741824 = true := small_of fun i hi => by have := hh i hi; omega
  obtain ⟨_, l1, u1⟩ := valid_nn hI hQ
  obtain ⟨_, l2, u2⟩ := valid_nn hJ hq
  obtain ⟨N, P, eta, p, hN, hP, s1, s2, hp, het, hE⟩ := turn_eq (q := q) hI hQ hs
  obtain ⟨n1, n2⟩ := turn_scale l1 u1 hh hN hP s1 s2 hp
  have hz := eD_zero hI hQ hJ hq hM0 hM hD h0
  have hb := fun i (hi : i < 4) => eta_bd hP (show 0 ≤ N by omega) n2 u2 het hi
  have b := fun i j (hi : i < 3) (hj : j < 3) => bmul (hh i hi).1 (hh i hi).2 (hD j hj).1 (hD j hj).2
  have E0 := hE 0 (by omega)
  have E1 := hE 1 (by omega)
  have E2 := hE 2 (by omega)
  have E3 := hE 3 (by omega)
  generalize hD' : eD (turnF Q h) q = D' at *
  generalize hDD : eD Q q = D at *
  have r0 : pe (cj (rq h)) D 0 = 1073741824 * D 0 + (h 0 * D 1 + h 1 * D 2 + h 2 * D 3) := by
    show 1073741824 * D 0 - -h 0 * D 1 - -h 1 * D 2 - -h 2 * D 3 = _; grind
  have r1 : pe (cj (rq h)) D 1 = 1073741824 * D 1 - h 0 * D 0 + (h 2 * D 2 - h 1 * D 3) := by
    show 1073741824 * D 1 + -h 0 * D 0 + -h 1 * D 3 - -h 2 * D 2 = _; grind
  have r2 : pe (cj (rq h)) D 2 = 1073741824 * D 2 - h 1 * D 0 + (h 0 * D 3 - h 2 * D 1) := by
    show 1073741824 * D 2 - -h 0 * D 3 + -h 1 * D 0 + -h 2 * D 1 = _; grind
  have r3 : pe (cj (rq h)) D 3 = 1073741824 * D 3 - h 2 * D 0 + (h 1 * D 1 - h 0 * D 2) := by
    show 1073741824 * D 3 + -h 0 * D 2 - -h 1 * D 1 + -h 2 * D 0 = _; grind
  rw [r0] at E0
  rw [r1] at E1
  rw [r2] at E2
  rw [r3] at E3
  have x01 : -(524288 * M) ≤ h 0 * D 2 ∧ h 0 * D 2 ≤ 524288 * M := b 0 1 (by omega) (by omega)
  have x02 : -(524288 * M) ≤ h 0 * D 3 ∧ h 0 * D 3 ≤ 524288 * M := b 0 2 (by omega) (by omega)
  have x10 : -(524288 * M) ≤ h 1 * D 1 ∧ h 1 * D 1 ≤ 524288 * M := b 1 0 (by omega) (by omega)
  have x12 : -(524288 * M) ≤ h 1 * D 3 ∧ h 1 * D 3 ≤ 524288 * M := b 1 2 (by omega) (by omega)
  have x20 : -(524288 * M) ≤ h 2 * D 1 ∧ h 2 * D 1 ≤ 524288 * M := b 2 0 (by omega) (by omega)
  have x21 : -(524288 * M) ≤ h 2 * D 2 ∧ h 2 * D 2 ≤ 524288 * M := b 2 1 (by omega) (by omega)
  have x00 : -(524288 * M) ≤ h 0 * D 1 ∧ h 0 * D 1 ≤ 524288 * M := b 0 0 (by omega) (by omega)
  have x11 : -(524288 * M) ≤ h 1 * D 2 ∧ h 1 * D 2 ≤ 524288 * M := b 1 1 (by omega) (by omega)
  have x22 : -(524288 * M) ≤ h 2 * D 3 ∧ h 2 * D 3 ≤ 524288 * M := b 2 2 (by omega) (by omega)
  have c1 := tn_comp hP n1 n2 hM0 (hD 0 (by omega)) hz (hh 0 (by omega)) (X := h 2 * D 2 - h 1 * D 3) (by omega) (hb 1 (by omega)) E1
  have c2 := tn_comp hP n1 n2 hM0 (hD 1 (by omega)) hz (hh 1 (by omega)) (X := h 0 * D 3 - h 2 * D 1) (by omega) (hb 2 (by omega)) E2
  have c3 := tn_comp hP n1 n2 hM0 (hD 2 (by omega)) hz (hh 2 (by omega)) (X := h 1 * D 1 - h 0 * D 2) (by omega) (hb 3 (by omega)) E3
  refine ⟨fun i hi => ?_, ?_⟩
  · rcases (show i = 0 ∨ i = 1 ∨ i = 2 by omega) with rfl | rfl | rfl
    · exact c1
    · exact c2
    · exact c3
  · apply Classical.byContradiction; intro hn
    have hb0 := hb 0 (by omega)
    have hS : -3541774862152233910272 ≤ h 0 * D 1 + h 1 * D 2 + h 2 * D 3 := by omega
    generalize h 0 * D 1 + h 1 * D 2 + h 2 * D 3 = S at *
    have k1 : P * 1000000000000000000000000000 ≤ P * (1073741824 * D 0 + S) := Int.mul_le_mul_of_nonneg_left (by omega) (by omega)
    have k2 : 2147483648 * P * (1073741824 * D 0 + S) = 2147483648 * (P * (1073741824 * D 0 + S)) := by grind
    have k3 : N * D' 0 ≤ 0 := Int.mul_nonpos_of_nonneg_of_nonpos (by omega) (by omega)
    have k4 : 2147483648 * N * D' 0 = 2147483648 * (N * D' 0) := by grind
    omega
end Go.Proofs.Ytkmelddejdikgaa
namespace Go.Proofs.Ytkmelddejdikgaa
open Go.RowKit PM Dt
/-- The law of a turn, of the filter's own: no turn at all where the half is zero. -/
theorem ft_D {Q q h : Nat → Int} {M : Int} (hI : ∀ i, i < 4 → I64 (Q i)) (hQ : validQ Q = true) (hJ : ∀ i, i < 4 → I64 (q i)) (hq : validQ q = true) (hM0 : 0 ≤ M) (hM : M ≤ 2251799813685248) (hD : ∀ i, i < 3 → -M ≤ eD Q q (i + 1) ∧ eD Q q (i + 1) ≤ M) (h0 : 0 < eD Q q 0)
    (hh : ∀ i, i < 3 → -524288 ≤ h i ∧ h i ≤ 524288) :
    (∀ i, i < 3 → -(2199023255552 + M) ≤ 512 * (eD (ftF Q h) q (i + 1) - (eD Q q (i + 1) - 1073741824 * h i)) ∧ 512 * (eD (ftF Q h) q (i + 1) - (eD Q q (i + 1) - 1073741824 * h i)) ≤ 2199023255552 + M) ∧ 0 < eD (ftF Q h) q 0 := by
  unfold ftF
  cases hz : zV h with
  | false => exact turn_D hI hQ hJ hq hM0 hM hD h0 hh
  | true =>
    rw [if_pos rfl]
    refine ⟨fun i hi => ?_, h0⟩
    have : h i = 0 := by
      unfold zV at hz
      exact beq_iff_eq.1 (List.all_eq_true.1 hz i (List.mem_range.2 hi))
    rw [this]; omega
/-- What the measurement gives. -/
theorem cj_eq {Q : Nat → Int} (k1 : okQ Q = true) : ∀ j, j < 4 → conjF Q j = cj Q j := fun j hj => by
  have w : ∀ j, j < 4 → wrap64 (-Q j) = -Q j := fun j hj => by have := okQ_bd k1 hj; unfold wrap64; omega
  rcases (show j = 0 ∨ j = 1 ∨ j = 2 ∨ j = 3 by omega) with rfl | rfl | rfl | rfl
  · have e : conjF Q 0 = Q 0 := rfl
    have e2 : cj Q 0 = Q 0 := rfl
    rw [e, e2]
  · have e : conjF Q 1 = -Q 1 := w 1 (by omega)
    have e2 : cj Q 1 = -Q 1 := rfl
    rw [e, e2]
  · have e : conjF Q 2 = -Q 2 := w 2 (by omega)
    have e2 : cj Q 2 = -Q 2 := rfl
    rw [e, e2]
  · have e : conjF Q 3 = -Q 3 := w 3 (by omega)
    have e2 : cj Q 3 = -Q 3 := rfl
    rw [e, e2]
theorem cj_ok {Q : Nat → Int} (k1 : okQ Q = true) : okQ (conjF Q) = true := (okQ_iff _).2 fun j hj => by
  have b := okQ_bd k1 hj
  refine (vb_iff _).2 ?_
  rw [cj_eq k1 j hj]
  rcases (show j = 0 ∨ j = 1 ∨ j = 2 ∨ j = 3 by omega) with rfl | rfl | rfl | rfl
  · exact b
  · rw [show cj Q 1 = -Q 1 from rfl]; omega
  · rw [show cj Q 2 = -Q 2 from rfl]; omega
  · rw [show cj Q 3 = -Q 3 from rfl]; omega
theorem pe_conj {Q q : Nat → Int} (k1 : okQ Q = true) (j : Nat) (hj : j < 4) : pe (conjF Q) q j = eD Q q j := by
  unfold eD
  generalize hc : conjF Q = c
  have h : ∀ j, j < 4 → c j = cj Q j := by rw [← hc]; exact cj_eq k1
  have a0 := h 0 (by omega)
  have a1 := h 1 (by omega)
  have a2 := h 2 (by omega)
  have a3 := h 3 (by omega)
  generalize cj Q = c' at *
  clear hc h
  rcases (show j = 0 ∨ j = 1 ∨ j = 2 ∨ j = 3 by omega) with rfl | rfl | rfl | rfl <;> simp only [pe] <;> rw [a0, a1, a2, a3]
theorem off_one {x y e : Int} (h : 1073741824 * x = y + e) (l : -536870912 ≤ e) (u : e ≤ 536870912) : -536870912 ≤ 1073741824 * x - y ∧ 1073741824 * x - y ≤ 536870912 := by omega
theorem off_pos {x y e : Int} (h : 1073741824 * x = y + e) (l : -536870912 ≤ e) (hy : 0 < y) : ¬ x < 0 := by omega
theorem off_D {Q q : Nat → Int} (hI : ∀ i, i < 4 → I64 (Q i)) (hQ : validQ Q = true) (hJ : ∀ i, i < 4 → I64 (q i)) (hq : validQ q = true) (h0 : 0 < eD Q q 0) : ∀ i, i < 3 → -536870912 ≤ 1073741824 * offF (betF Q q) i - eD Q q (i + 1) ∧ 1073741824 * offF (betF Q q) i - eD Q q (i + 1) ≤ 536870912 := by
  obtain ⟨k1, _, _⟩ := valid_nn hI hQ
  obtain ⟨k2, _, _⟩ := valid_nn hJ hq
  have hp : ∀ j, j < 4 → ∃ e, 1073741824 * qprodF (conjF Q) q j = eD Q q j + e ∧ -536870912 ≤ e ∧ e ≤ 536870912 := fun j hj => by
    obtain ⟨e, he, l, u⟩ := prod_err (cj_ok k1) k2 hj
    rw [pe_conj k1 j hj] at he
    exact ⟨e, he, l, u⟩
  have hb : betF Q q = qprodF (conjF Q) q := by
    unfold betF
    rw [hQ, hq, Bool.and_self, if_pos rfl]
    unfold betX
    obtain ⟨e, he, l, u⟩ := hp 0 (by omega)
    exact if_neg (off_pos he l h0)
  intro i hi
  obtain ⟨e, he, l, u⟩ := hp (i + 1) (by omega)
  rw [hb, show offF (qprodF (conjF Q) q) i = qprodF (conjF Q) q (i + 1) from rfl]
  exact off_one he l u
/-- How far the filter is off, at most. -/
def aS : Nat → Int
  | 0 => 262144
  | k + 1 => 93 * aS k / 100 + 4
theorem aS_400 : aS 400 ≤ 60 := by decide +kernel
/-- A component of a tick, plainly. -/
structure CInv (A D e : Int) : Prop where
  t : -633318697598976 ≤ D ∧ D ≤ 633318697598976
  p : -4503599627370496 ≤ 17179869184 * e - 3 * D ∧ 17179869184 * e - 3 * D ≤ 4503599627370496
  ta : -(4294967296 * A) ≤ D ∧ D ≤ 4294967296 * A
  pa : -(17179869184 * A) ≤ 17179869184 * e - 3 * D ∧ 17179869184 * e - 3 * D ≤ 17179869184 * A
theorem CInv.step {A D e h D1 off g w D2 M M1 : Int} (c : CInv A D e) (hA0 : 0 ≤ A) (hM : M = 633318697598976 ∨ M = 4294967296 * A) (hMt : M ≤ 633318697598976) (hMa : M ≤ 4294967296 * A) (hh : -1 ≤ 2 * h + e ∧ 2 * h + e ≤ 1) (h1 : -(2199023255552 + M) ≤ 512 * (D1 - (D - 1073741824 * h)) ∧ 512 * (D1 - (D - 1073741824 * h)) ≤ 2199023255552 + M)
    (ho : -536870912 ≤ 1073741824 * off - D1 ∧ 1073741824 * off - D1 ≤ 536870912) (hg : -2 ≤ 4 * g - off ∧ 4 * g - off ≤ 2) (hw : -16 ≤ 32 * w - off ∧ 32 * w - off ≤ 16)
    (hM1 : M1 ≤ 2 * M + 281474976710656 + 10737418240) (hM1a : M1 ≤ 2 * M + 1073741824 * A + 10737418240) (h2 : -(2199023255552 + M1) ≤ 512 * (D2 - (D1 - 1073741824 * g)) ∧ 512 * (D2 - (D1 - 1073741824 * g)) ≤ 2199023255552 + M1) : CInv (93 * A / 100 + 4) D2 (e - w) := by
  obtain ⟨⟨c1, c2⟩, ⟨c3, c4⟩, ⟨c5, c6⟩, c7, c8⟩ := c
  refine ⟨?_, ?_, ?_, ?_⟩ <;> omega
end Go.Proofs.Ytkmelddejdikgaa
namespace Go.Proofs.Ytkmelddejdikgaa
open Go.RowKit PM Dt
/-- What stays. -/
structure GS (q b Q B : Nat → Int) (A : Int) : Prop where
  z : 0 < eD Q q 0
  c : ∀ i, i < 3 → CInv A (eD Q q (i + 1)) (B i - b i)
theorem CInv.e {A D e : Int} (c : CInv A D e) : -372736 ≤ e ∧ e ≤ 372736 := by
  obtain ⟨⟨c1, c2⟩, ⟨c3, c4⟩, _, _⟩ := c
  omega
theorem CInv.d1 {A D e h D1 M S : Int} (c : CInv A D e) (hA0 : 0 ≤ A) (hS : S = 262144 ∨ S = A) (hM : M = 633318697598976 ∨ M = 4294967296 * A) (hMt : M ≤ 633318697598976) (hMa : M ≤ 4294967296 * A) (hh : -1 ≤ 2 * h + e ∧ 2 * h + e ≤ 1)
    (h1 : -(2199023255552 + M) ≤ 512 * (D1 - (D - 1073741824 * h)) ∧ 512 * (D1 - (D - 1073741824 * h)) ≤ 2199023255552 + M) :
    (-837518622720000 ≤ D1 ∧ D1 ≤ 837518622720000) ∧ -(2 * M + 1073741824 * S + 10737418240) ≤ D1 ∧ D1 ≤ 2 * M + 1073741824 * S + 10737418240 := by
  obtain ⟨⟨c1, c2⟩, ⟨c3, c4⟩, ⟨c5, c6⟩, c7, c8⟩ := c
  refine ⟨by omega, ?_⟩
  rcases hS with rfl | rfl <;> rcases hM with rfl | rfl <;> omega
theorem GS.base {q b : Nat → Int} (hq : ∀ i, i < 4 → I64 (q i)) (hv : validQ q = true) (hb : ∀ i, i < 3 → -262144 ≤ b i ∧ b i ≤ 262144) : GS q b q (fun _ => 0) 262144 := by
  obtain ⟨_, l, _⟩ := valid_nn hq hv
  have z : ∀ i, i < 3 → eD q q (i + 1) = 0 := fun i hi => by
    unfold eD
    rcases (show i = 0 ∨ i = 1 ∨ i = 2 by omega) with rfl | rfl | rfl <;> simp only [pe, cj] <;> grind
  have z0 : eD q q 0 = nn q := by
    unfold eD nn
    simp only [pe, cj]; grind
  refine ⟨by rw [z0]; omega, fun i hi => ?_⟩
  rw [z i hi]
  have := hb i hi
  show CInv 262144 0 (0 - b i)
  refine ⟨?_, ?_, ?_, ?_⟩ <;> omega
theorem part_near {a d : Int} (hd : 0 < d) (hd2 : d ≤ 1099511627776) (ha : I64 a) : -d ≤ 2 * (d * ratioV a 1 d - a) ∧ 2 * (d * ratioV a 1 d - a) ≤ d := by
  rw [ratio1 hd hd2 ha]
  have h1 := Int.emod_add_mul_ediv (2 * a + d) (2 * d)
  have h2 := Int.emod_nonneg (2 * a + d) (show 2 * d ≠ 0 by omega)
  have h3 := Int.emod_lt_of_pos (2 * a + d) (show 0 < 2 * d by omega)
  generalize (2 * a + d) / (2 * d) = y at *
  generalize (2 * a + d) % (2 * d) = m at *
  have e : 2 * d * y = 2 * (d * y) := by grind
  omega
/-- A tick. -/
theorem GS.step {q b Q B : Nat → Int} {A : Int} (g : GS q b Q B A) (F : FI Q B) (hq : ∀ i, i < 4 → I64 (q i)) (hv : validQ q = true) (hb : ∀ i, i < 3 → -262144 ≤ b i ∧ b i ≤ 262144) (hA0 : 0 ≤ A) :
    GS q b (corQ (predQ Q B (rdS b)) q) (corB (predQ Q B (rdS b)) B q) (93 * A / 100 + 4) := by
  have hr : ∀ i, i < 3 → rdS b i = b i := rd_eq hb
  have hrs : smallB (rdS b) 268435456 = true := small_of fun i hi => by have := hb i hi; rw [hr i hi]; omega
  have hP : predQ Q B (rdS b) = ftF Q (partF (vsubF (rdS b) B) 2) := by unfold predQ; rw [if_pos hrs]
  have FP := F.pred (rdS b)
  rw [hP] at FP ⊢
  generalize hh : partF (vsubF (rdS b) B) 2 = h at *
  have hh2 : ∀ i, i < 3 → -1 ≤ 2 * h i + (B i - b i) ∧ 2 * h i + (B i - b i) ≤ 1 := fun i hi => by
    have e : h i = ratioV (b i - B i) 1 2 := by rw [← hh]; unfold partF; rw [vsub_small hrs F.b i hi, hr i hi]
    have b1 := hb i hi
    have b2 := F.b i hi
    have := part_near (a := b i - B i) (d := 2) (by decide) (by decide) ⟨by omega, by omega⟩
    rw [e]; omega
  have hhb : ∀ i, i < 3 → -524288 ≤ h i ∧ h i ≤ 524288 := fun i hi => by
    have := (g.c i hi).e
    have := hh2 i hi
    omega
  obtain ⟨M, hM, hMt, hMa⟩ : ∃ M : Int, (M = 633318697598976 ∨ M = 4294967296 * A) ∧ M ≤ 633318697598976 ∧ M ≤ 4294967296 * A := by
    by_cases h : 4294967296 * A ≤ 633318697598976
    · exact ⟨_, .inr rfl, h, Int.le_refl _⟩
    · exact ⟨_, .inl rfl, Int.le_refl _, by omega⟩
  obtain ⟨S, hS, hSt, hSa⟩ : ∃ S : Int, (S = 262144 ∨ S = A) ∧ S ≤ 262144 ∧ S ≤ A := by
    by_cases h : A ≤ 262144
    · exact ⟨_, .inr rfl, h, Int.le_refl _⟩
    · exact ⟨_, .inl rfl, Int.le_refl _, by omega⟩
  have hM0 : 0 ≤ M := by rcases hM with h | h <;> omega
  have hDM : ∀ i, i < 3 → -M ≤ eD Q q (i + 1) ∧ eD Q q (i + 1) ≤ M := fun i hi => by
    have c := g.c i hi
    have := c.t
    have := c.ta
    rcases hM with h | h <;> omega
  obtain ⟨T1, z1⟩ := ft_D F.i F.v hq hv hM0 (by omega) hDM g.z hhb
  generalize ftF Q h = Q1 at *
  have O := off_D FP.i FP.v hq hv z1
  have hd1 := fun i (hi : i < 3) => (g.c i hi).d1 hA0 hS hM hMt hMa (hh2 i hi) (T1 i hi)
  have hbe := bet_valid FP.v hv
  generalize hoff : offF (betF Q1 q) = off at *
  have hob : ∀ i, i < 3 → -1048576 ≤ off i ∧ off i ≤ 1048576 := fun i hi => by
    have := O i hi
    have := (hd1 i hi).1
    omega
  have hos := small_of hob
  have hcQ : corQ Q1 q = ftF Q1 (partF off 4) := by unfold corQ; rw [if_pos hbe, hoff]
  have hw0 : ∀ i, i < 3 → -16 ≤ 32 * partF off 32 i - off i ∧ 32 * partF off 32 i - off i ≤ 16 := fun i hi => by
    have b1 := hob i hi
    have := part_near (a := off i) (d := 32) (by decide) (by decide) ⟨by omega, by omega⟩
    show -16 ≤ 32 * ratioV (off i) 1 32 - off i ∧ 32 * ratioV (off i) 1 32 - off i ≤ 16
    omega
  have hg0 : ∀ i, i < 3 → -2 ≤ 4 * partF off 4 i - off i ∧ 4 * partF off 4 i - off i ≤ 2 := fun i hi => by
    have b1 := hob i hi
    have := part_near (a := off i) (d := 4) (by decide) (by decide) ⟨by omega, by omega⟩
    show -2 ≤ 4 * ratioV (off i) 1 4 - off i ∧ 4 * ratioV (off i) 1 4 - off i ≤ 2
    omega
  have hcB : ∀ i, i < 3 → corB Q1 B q i = B i - partF off 32 i := fun i hi => by
    have e1 : corB Q1 B q = corF B off := by unfold corB; rw [hoff, if_pos ⟨hbe, hos⟩]
    have hBs : smallB B 268435456 = true := small_of fun j hj => by have := F.b j hj; omega
    have e2 := vsub_small hBs (B := partF off 32) (fun j hj => by have := hw0 j hj; have := hob j hj; omega) i hi
    have e3 : sumF (pick3 (vsubF B (partF off 32)) (vsubF B (partF off 32)) (vsubF B (partF off 32))) 1 i = vsubF B (partF off 32) i := by simp [sumF, pick3]
    rw [e1]
    unfold corF
    rw [e3, e2]
    have b1 := (g.c i hi).e
    have b2 := hb i hi
    have b3 := hw0 i hi
    have b4 := hob i hi
    generalize partF off 32 i = w at *
    unfold clampV
    split <;> (try split) <;> omega
  generalize partF off 4 = g4 at *
  generalize partF off 32 = w at *
  have hg4 : ∀ i, i < 3 → -524288 ≤ g4 i ∧ g4 i ≤ 524288 := fun i hi => by
    have := hg0 i hi
    have := hob i hi
    omega
  obtain ⟨T2, z2⟩ := ft_D FP.i FP.v hq hv (M := 2 * M + 1073741824 * S + 10737418240) (by rcases hS with h | h <;> omega) (by omega) (fun i hi => (hd1 i hi).2) z1 hg4
  rw [hcQ]
  refine ⟨z2, fun i hi => ?_⟩
  have hs := (g.c i hi).step hA0 hM hMt hMa (hh2 i hi) (T1 i hi) (O i hi) (hg0 i hi) (hw0 i hi) (by omega) (by omega) (T2 i hi)
  have e : corB Q1 B q i - b i = B i - b i - w i := by rw [hcB i hi]; omega
  rw [e]; exact hs
theorem aS_nn : ∀ k, 0 ≤ aS k
  | 0 => by decide
  | k + 1 => by have := aS_nn k; unfold aS; omega
theorem GS.all {q b : Nat → Int} (hq : ∀ i, i < 4 → I64 (q i)) (hv : validQ q = true) (hb : ∀ i, i < 3 → -262144 ≤ b i ∧ b i ≤ 262144) : ∀ k, GS q b (stS q b k).1 (stS q b k).2 (aS k)
  | 0 => GS.base hq hv hb
  | k + 1 => (GS.all hq hv hb k).step (stS_FI hq hv k) hq hv hb (aS_nn k)
/-- THE LAW. -/
theorem settled {q b : Nat → Int} (hq : ∀ i, i < 4 → I64 (q i)) (hv : validQ q = true) (hb : ∀ i, i < 3 → -262144 ≤ b i ∧ b i ≤ 262144) : Settled q b (stS q b 400).1 (stS q b 400).2 := by
  have g := GS.all hq hv hb 400
  have F := stS_FI (b := b) hq hv 400
  have hA := aS_400
  generalize (stS q b 400).1 = Q at *
  generalize (stS q b 400).2 = B at *
  generalize aS 400 = A at *
  have O := off_D F.i F.v hq hv g.z
  generalize hof : offF (betF Q q) = off at *
  have hob : ∀ i, i < 3 → -241 ≤ off i ∧ off i ≤ 241 := fun i hi => by
    have := O i hi
    have := (g.c i hi).ta
    omega
  have hok : okV off = true := okV_of fun i hi => by have := hob i hi; omega
  obtain ⟨n1, N, n2, n3, _⟩ := norm_val hok
  have sq : ∀ i, i < 3 → off i * off i ≤ 241 * 241 := fun i hi => (bmul (hob i hi).1 (hob i hi).2 (hob i hi).1 (hob i hi).2).2
  have s0 := sq 0 (by omega)
  have s1 := sq 1 (by omega)
  have s2 := sq 2 (by omega)
  refine ⟨by rw [hof]; exact n1, ?_, fun i hi => ?_⟩
  · rw [hof, n2]
    have := (abs_le_of_sq (x := (N : Int)) (p := 512) (by decide) (by omega)).2
    exact this
  · have c := g.c i hi
    obtain ⟨_, _, ⟨c5, c6⟩, c7, c8⟩ := c
    omega
theorem gsettles_any (q b : Nat → Int) (w : World) (hq : ∀ i, i < 4 → I64 (q i)) : Calls Try.prog 10 #[.agg (qfn q), .agg (vfn b)] w fun e w' => e = .returned (.bool true) ∧ Below w.heap.size w w' := by
  cases hv : validQ q with
  | false => exact gsettles_no q b w hq hv
  | true => exact gsettles_ok q b w hq hv (settled hq hv)
end Go.Proofs.Ytkmelddejdikgaa
