/-
  A turn of an attitude, seen from another one: what the error's components become. No program in sight. A turn of an attitude, and the rotation that is left to another one: the law, near and far. No program in sight. A turn of an attitude, and a direction that is seen from it: the law. No program in sight. A turn of an attitude, and a direction that is seen from it: bounds. No program in sight. What is seen behind a turn: bounds of a tick. No program in sight. A slew to the sun, plainly: the steps at full command. No program in sight. The axis of a slew to the sun, plainly. No program in sight. A slew to the sun, plainly: all its phases. No program in sight. A slew to the sun, plainly: a tick of any phase. No program in sight. Ticks of any act behind rest, plainly: the body has the momentum that is commanded. No program in sight. The loop from its beginning: acts that do nothing until the wheels are where they shall be, plainly; and a tick. Sun: a tick of the loop, from its beginning. The loop: made. The statement on the sun.
-/
import Derived.Test.YtkmelddejdikgaaBetM
import Derived.Test.YtkmelddejdikgaaBetV
import Derived.Test.YtkmelddejdikgaaBdP
import Derived.Test.YtkmelddejdikgaaRstF
import Derived.Test.YtkmelddejdikgaaStL
import Derived.Test.YtkmelddejdikgaaLpB
import Derived.Test.YtkmelddejdikgaaStF
import Derived.Test.YtkmelddejdikgaaStM
import Derived.Test.YtkmelddejdikgaaArg
import Derived.Test.YtkmelddejdikgaaLpA
set_option linter.unusedSimpArgs false
set_option linter.unusedVariables false
namespace Go.Proofs.Ytkmelddejdikgaa
open Go.RowKit PM Dt
theorem pe_cj_pe (Q R q : Nat → Int) (i : Nat) (hi : i < 4) : pe (cj (pe Q R)) q i = pe (cj R) (pe (cj Q) q) i := by
  have : i = 0 ∨ i = 1 ∨ i = 2 ∨ i = 3 := by omega
  rcases this with rfl | rfl | rfl | rfl <;> simp only [pe, cj] <;> grind
theorem pe_lin1 (x y q : Nat → Int) (a b : Int) (i : Nat) (hi : i < 4) : pe (cj fun j => a * x j + b * y j) q i = a * pe (cj x) q i + b * pe (cj y) q i := by
  have : i = 0 ∨ i = 1 ∨ i = 2 ∨ i = 3 := by omega
  rcases this with rfl | rfl | rfl | rfl <;> simp only [pe, cj] <;> grind
theorem pe_congr1 {x y q : Nat → Int} (h : ∀ j, j < 4 → x j = y j) (i : Nat) (hi : i < 4) : pe (cj x) q i = pe (cj y) q i := by
  have h0 := h 0 (by omega)
  have h1 := h 1 (by omega)
  have h2 := h 2 (by omega)
  have h3 := h 3 (by omega)
  have : i = 0 ∨ i = 1 ∨ i = 2 ∨ i = 3 := by omega
  rcases this with rfl | rfl | rfl | rfl <;> simp only [pe, cj] <;> rw [h0, h1, h2, h3]
def eD (Q q : Nat → Int) : Nat → Int := pe (cj Q) q
theorem turn_eq {Q q h : Nat → Int} (hI : ∀ i, i < 4 → I64 (Q i)) (hQ : validQ Q = true) (hs : smallB h 1073741824 = true) :
    ∃ N P : Int, ∃ eta p : Nat → Int, 35184372088832 ≤ N ∧ 0 < P ∧ N * N ≤ P * P * nn p ∧ P * P * nn p < (N + 1) * (N + 1) ∧ (∀ j, j < 4 → ∃ e, 1073741824 * p j = pe Q (rq h) j + e ∧ -536870912 ≤ e ∧ e ≤ 536870912) ∧
      (∀ j, j < 4 → -(1152921504606846976 * P + 1073741824 * N) ≤ eta j ∧ eta j ≤ 1152921504606846976 * P + 1073741824 * N) ∧
      ∀ i, i < 4 → 2147483648 * N * eD (turnF Q h) q i = 2147483648 * P * pe (cj (rq h)) (eD Q q) i + pe (cj eta) q i := by
  obtain ⟨_, hT, hk, hz⟩ := turn_core hI hQ hs
  obtain ⟨kQ, _, _⟩ := valid_nn hI hQ
  obtain ⟨kR, _, _⟩ := rq_ok hs
  obtain ⟨_, _, ⟨N, P, hN, hP, h1, h2, hu⟩, _⟩ := qun_core hk hz
  have hpr : ∀ j, ∃ e, j < 4 → 1073741824 * qprodF Q (rq h) j = pe Q (rq h) j + e ∧ -536870912 ≤ e ∧ e ≤ 536870912 := fun j => by
    by_cases hj : j < 4
    · obtain ⟨e, he⟩ := prod_err kQ kR hj; exact ⟨e, fun _ => he⟩
    · exact ⟨0, fun h => absurd h hj⟩
  obtain ⟨e, he⟩ := Classical.skolem.1 hpr
  have hdd : ∀ j, ∃ d, j < 4 → 2 * (N * qunF (qprodF Q (rq h)) j) = 2 * (1073741824 * (P * qprodF Q (rq h) j)) + d ∧ -N ≤ d ∧ d ≤ N := fun j => by
    by_cases hj : j < 4
    · obtain ⟨d, hd⟩ := hu j hj; exact ⟨d, fun _ => hd⟩
    · exact ⟨0, fun h => absurd h hj⟩
  obtain ⟨d, hd⟩ := Classical.skolem.1 hdd
  refine ⟨N, P, fun j => 2147483648 * P * e j + 1073741824 * d j, qprodF Q (rq h), hN, hP, h1, h2, fun j hj => ⟨e j, he j hj⟩, fun j hj => ?_, fun i hi => ?_⟩
  · obtain ⟨_, e1, e2⟩ := he j hj
    obtain ⟨_, d1, d2⟩ := hd j hj
    have b1 : P * e j ≤ P * 536870912 := Int.mul_le_mul_of_nonneg_left e2 (by omega)
    have b2 : P * -536870912 ≤ P * e j := Int.mul_le_mul_of_nonneg_left e1 (by omega)
    have e3 : 2147483648 * P * e j = 2147483648 * (P * e j) := by rw [Int.mul_assoc]
    show _ ≤ 2147483648 * P * e j + 1073741824 * d j ∧ 2147483648 * P * e j + 1073741824 * d j ≤ _
    rw [e3]
    omega
  · have key : ∀ j, j < 4 → 2147483648 * N * turnF Q h j = 2147483648 * P * pe Q (rq h) j + 1 * (2147483648 * P * e j + 1073741824 * d j) := fun j hj => by
      rw [hT]
      obtain ⟨e0, _⟩ := he j hj
      obtain ⟨d0, _⟩ := hd j hj
      generalize qunF (qprodF Q (rq h)) j = t at *
      generalize qprodF Q (rq h) j = p at *
      have x1 : 2147483648 * N * t = 1073741824 * (2 * (N * t)) := by grind
      have x2 : 2147483648 * P * pe Q (rq h) j + 2147483648 * P * e j = 2147483648 * P * (1073741824 * p) := by rw [e0]; grind
      have x3 : 1073741824 * (2 * (1073741824 * (P * p))) = 2147483648 * P * (1073741824 * p) := by grind
      rw [x1, d0]
      omega
    have l1 := pe_lin1 (turnF Q h) (fun _ => 0) q (2147483648 * N) 0 i hi
    have l2 := pe_lin1 (pe Q (rq h)) (fun j => 2147483648 * P * e j + 1073741824 * d j) q (2147483648 * P) 1 i hi
    have l3 := pe_congr1 (q := q) (x := fun j => 2147483648 * N * turnF Q h j + 0 * (fun _ => (0 : Int)) j) (y := fun j => 2147483648 * P * pe Q (rq h) j + 1 * (2147483648 * P * e j + 1073741824 * d j)) (fun j hj => by
      have := key j hj
      show 2147483648 * N * turnF Q h j + 0 * 0 = _
      rw [this]; omega) i hi
    rw [l1, l2, pe_cj_pe Q (rq h) q i hi] at l3
    unfold eD
    have x1 : 0 * pe (cj fun _ => 0) q i = 0 := Int.zero_mul _
    omega
end Go.Proofs.Ytkmelddejdikgaa
namespace Go.Proofs.Ytkmelddejdikgaa
open Go.RowKit PM Dt
theorem turn_scaleB {N P : Int} {Q h p : Nat → Int} (hQl : 1073741820 * 1073741820 ≤ nn Q) (hQu : nn Q < 1073741829 * 1073741829) (hh : h 0 * h 0 + h 1 * h 1 + h 2 * h 2 ≤ 70369817919488) (hN : 35184372088832 ≤ N) (hP : 0 < P) (h1 : N * N ≤ P * P * nn p) (h2 : P * P * nn p < (N + 1) * (N + 1))
    (hp : ∀ j, j < 4 → ∃ e, 1073741824 * p j = pe Q (rq h) j + e ∧ -536870912 ≤ e ∧ e ≤ 536870912) : P * 1073741818 ≤ N ∧ N ≤ P * 1073774599 := by
  have hex : ∀ j, ∃ e, j < 4 → 1073741824 * p j = pe Q (rq h) j + e ∧ -536870912 ≤ e ∧ e ≤ 536870912 := fun j => by
    by_cases hj : j < 4
    · obtain ⟨e, he⟩ := hp j hj; exact ⟨e, fun _ => he⟩
    · exact ⟨0, fun h => absurd h hj⟩
  obtain ⟨e, he⟩ := Classical.skolem.1 hex
  have hne : nn e ≤ 1073741824 * 1073741824 := nn_bd (B := 536870912) fun i hi => (he i hi).2
  have hR := rq_nn h
  have n0 := sq_nn (h 0)
  have n1 := sq_nn (h 1)
  have n2 := sq_nn (h 2)
  have Rl : 1073741824 * 1073741824 ≤ nn (rq h) := by omega
  have Ru : nn (rq h) ≤ 1073774592 * 1073774592 := by omega
  have eE : nn (pe Q (rq h)) = nn Q * nn (rq h) := pe_nn _ _
  have XU : nn Q * nn (rq h) ≤ 1073741829 * 1073741829 * (1073774592 * 1073774592) := Int.mul_le_mul (by omega) Ru (nn_nonneg _) (by decide)
  have XL : 1073741820 * 1073741820 * (1073741824 * 1073741824) ≤ nn Q * nn (rq h) := Int.mul_le_mul hQl Rl (by decide) (nn_nonneg _)
  have hPP : 0 ≤ P * P := Int.mul_nonneg (by omega) (by omega)
  constructor
  · have t := tri4 (x := sc (1073741824 * P) p) (y := sc (-P) e) (z := sc P (pe Q (rq h))) (X := 1073741824 * (N + 1)) (Y := 1073741824 * P) (by omega) (by omega) (by
      rw [nn_sc]
      have e1 : 1073741824 * P * (1073741824 * P) * nn p = 1073741824 * 1073741824 * (P * P * nn p) := by grind
      have e2 : 1073741824 * (N + 1) * (1073741824 * (N + 1)) = 1073741824 * 1073741824 * ((N + 1) * (N + 1)) := by grind
      rw [e1, e2]; omega) (by
      rw [nn_sc]
      have e1 : -P * -P * nn e = P * P * nn e := by grind
      have e2 : 1073741824 * P * (1073741824 * P) = P * P * (1073741824 * 1073741824) := by grind
      rw [e1, e2]
      exact Int.mul_le_mul_of_nonneg_left hne hPP) (fun i hi => by
      obtain ⟨e0, _⟩ := he i hi
      show P * pe Q (rq h) i = 1073741824 * P * p i + -P * e i
      have : pe Q (rq h) i = 1073741824 * p i - e i := by omega
      rw [this]; grind)
    rw [nn_sc, eE] at t
    have lo := Int.mul_le_mul_of_nonneg_left XL hPP
    have e3 : P * P * (1073741820 * 1073741820 * (1073741824 * 1073741824)) = (P * 1152921500311879680) * (P * 1152921500311879680) := by grind
    have := (abs_le_of_sq (x := P * 1152921500311879680) (p := 1073741824 * (N + 1) + 1073741824 * P) (by omega) (by rw [← e3]; exact Int.le_trans lo t)).2
    omega
  · have t := tri4 (x := sc P (pe Q (rq h))) (y := sc P e) (z := sc (1073741824 * P) p) (X := P * 1152956694347808768) (Y := 1073741824 * P) (by omega) (by omega) (by
      rw [nn_sc, eE]
      have := Int.mul_le_mul_of_nonneg_left XU hPP
      have e1 : (P * 1152956694347808768) * (P * 1152956694347808768) = P * P * (1152956694347808768 * 1152956694347808768) := by grind
      rw [e1]
      exact this) (by
      rw [nn_sc]
      have e2 : 1073741824 * P * (1073741824 * P) = P * P * (1073741824 * 1073741824) := by grind
      rw [e2]
      exact Int.mul_le_mul_of_nonneg_left hne hPP) (fun i hi => by
      obtain ⟨e0, _⟩ := he i hi
      show 1073741824 * P * p i = P * pe Q (rq h) i + P * e i
      have : pe Q (rq h) i = 1073741824 * p i - e i := by omega
      rw [this]; grind)
    rw [nn_sc] at t
    have lo := Int.mul_le_mul_of_nonneg_left h1 (show (0 : Int) ≤ 1073741824 * 1073741824 by decide)
    have e3 : 1073741824 * P * (1073741824 * P) * nn p = 1073741824 * 1073741824 * (P * P * nn p) := by grind
    have e4 : 1073741824 * 1073741824 * (N * N) = (1073741824 * N) * (1073741824 * N) := by grind
    have := (abs_le_of_sq (x := 1073741824 * N) (p := P * 1152956694347808768 + 1073741824 * P) (by omega) (by rw [← e4]; rw [e3] at t; exact Int.le_trans lo t)).2
    omega
theorem turn_valid {Q h : Nat → Int} (hI : ∀ i, i < 4 → I64 (Q i)) (hQ : validQ Q = true) (hs : smallB h 1073741824 = true) : validQ (turnF Q h) = true ∧ ∀ i, i < 4 → I64 (turnF Q h i) := by
  obtain ⟨_, h1, h2, h3⟩ := turn_core hI hQ hs
  rw [h1]
  obtain ⟨_, h4, _⟩ := qun_core h2 h3
  exact ⟨(qun_valid h2 h3).1, fun i hi => by have := okQ_bd h4 hi; exact ⟨by omega, by omega⟩⟩
end Go.Proofs.Ytkmelddejdikgaa
namespace Go.Proofs.Ytkmelddejdikgaa
open Go.RowKit PM Dt
def es (Q v : Nat → Int) : Nat → Int := ap (tr (qent Q)) v
def qv (v : Nat → Int) : Nat → Int
  | 0 => 0
  | i + 1 => v i
theorem es_0 (Q v : Nat → Int) : es Q v 0 = (Q 0 * Q 0 + Q 1 * Q 1 - Q 2 * Q 2 - Q 3 * Q 3) * v 0 + (2 * (Q 1 * Q 2) + 2 * (Q 0 * Q 3)) * v 1 + (2 * (Q 1 * Q 3) - 2 * (Q 0 * Q 2)) * v 2 := rfl
theorem es_1 (Q v : Nat → Int) : es Q v 1 = (2 * (Q 1 * Q 2) - 2 * (Q 0 * Q 3)) * v 0 + (Q 0 * Q 0 - Q 1 * Q 1 + Q 2 * Q 2 - Q 3 * Q 3) * v 1 + (2 * (Q 2 * Q 3) + 2 * (Q 0 * Q 1)) * v 2 := rfl
theorem es_2 (Q v : Nat → Int) : es Q v 2 = (2 * (Q 1 * Q 3) + 2 * (Q 0 * Q 2)) * v 0 + (2 * (Q 2 * Q 3) - 2 * (Q 0 * Q 1)) * v 1 + (Q 0 * Q 0 - Q 1 * Q 1 - Q 2 * Q 2 + Q 3 * Q 3) * v 2 := rfl
theorem es_vv (Q v : Nat → Int) : vv (es Q v) = nn Q * nn Q * vv v := qent_orth' Q v
theorem es_sc (c : Int) (Q v : Nat → Int) {i : Nat} (hi : i < 3) : es (sc c Q) v i = c * c * es Q v i := by
  have : i = 0 ∨ i = 1 ∨ i = 2 := by omega
  rcases this with rfl | rfl | rfl <;> simp only [es_0, es_1, es_2, sc] <;> grind
theorem es_lin (Q x y : Nat → Int) (a b : Int) {i : Nat} (hi : i < 3) : es Q (fun j => a * x j + b * y j) i = a * es Q x i + b * es Q y i := by
  have : i = 0 ∨ i = 1 ∨ i = 2 := by omega
  rcases this with rfl | rfl | rfl <;> simp only [es_0, es_1, es_2] <;> grind
theorem es_diff {A B n : Nat → Int} (h : ∀ j, j < 4 → A j = B j + n j) (v : Nat → Int) {i : Nat} (hi : i < 3) : es A v i = es B v i + pe (pe (cj A) (qv v)) n (i + 1) + pe (pe (cj n) (qv v)) B (i + 1) := by
  have h0 := h 0 (by omega)
  have h1 := h 1 (by omega)
  have h2 := h 2 (by omega)
  have h3 := h 3 (by omega)
  have : i = 0 ∨ i = 1 ∨ i = 2 := by omega
  rcases this with rfl | rfl | rfl <;> simp only [es_0, es_1, es_2, pe, cj, qv] <;> rw [h0, h1, h2, h3] <;> grind
theorem qv_nn (v : Nat → Int) : nn (qv v) = vv v := by
  show 0 * 0 + v 0 * v 0 + v 1 * v 1 + v 2 * v 2 = v 0 * v 0 + v 1 * v 1 + v 2 * v 2
  omega
theorem es_pe (Q r v : Nat → Int) {i : Nat} (hi : i < 3) : es (pe Q r) v i = es r (es Q v) i := by
  have : i = 0 ∨ i = 1 ∨ i = 2 := by omega
  rcases this with rfl | rfl | rfl
  · rw [es_0 (pe Q r), es_0 r, es_0 Q, es_1 Q, es_2 Q]; simp only [pe]; grind
  · rw [es_1 (pe Q r), es_1 r, es_0 Q, es_1 Q, es_2 Q]; simp only [pe]; grind
  · rw [es_2 (pe Q r), es_2 r, es_0 Q, es_1 Q, es_2 Q]; simp only [pe]; grind
theorem turn_dir {Q h : Nat → Int} (hI : ∀ i, i < 4 → I64 (Q i)) (hQ : validQ Q = true) (hs : smallB h 1073741824 = true) :
    ∃ N P : Int, ∃ eta p : Nat → Int, 35184372088832 ≤ N ∧ 0 < P ∧ N * N ≤ P * P * nn p ∧ P * P * nn p < (N + 1) * (N + 1) ∧ (∀ j, j < 4 → ∃ e, 1073741824 * p j = pe Q (rq h) j + e ∧ -536870912 ≤ e ∧ e ≤ 536870912) ∧
      (∀ j, j < 4 → -(1152921504606846976 * P + 1073741824 * N) ≤ eta j ∧ eta j ≤ 1152921504606846976 * P + 1073741824 * N) ∧
      ∀ i, i < 4 → 2147483648 * N * turnF Q h i = 2147483648 * P * pe Q (rq h) i + eta i := by
  obtain ⟨N, P, eta, p, hN, hP, h1, h2, hp, he, hE⟩ := turn_eq (q := fun i => if i = 0 then 1 else 0) hI hQ hs
  refine ⟨N, P, eta, p, hN, hP, h1, h2, hp, he, fun i hi => ?_⟩
  have k := hE i hi
  generalize turnF Q h = T at *
  generalize rq h = r at *
  have : i = 0 ∨ i = 1 ∨ i = 2 ∨ i = 3 := by omega
  unfold eD at k
  rcases this with rfl | rfl | rfl | rfl <;> simp [pe, cj] at k ⊢ <;> grind
end Go.Proofs.Ytkmelddejdikgaa
namespace Go.Proofs.Ytkmelddejdikgaa
open Go.RowKit PM Dt
theorem see_core {Q T r eta v : Nat → Int} {N P : Int} (hN : 35184372088832 ≤ N) (hP : 0 < P) (hNP : P * 1073741818 ≤ N)
    (l1 : 1073741820 * 1073741820 ≤ nn Q) (u1 : nn Q < 1073741829 * 1073741829) (l2 : 1073741820 * 1073741820 ≤ nn T) (u2 : nn T < 1073741829 * 1073741829) (hv : vv v ≤ 1073741828 * 1073741828)
    (he : ∀ j, j < 4 → -(1152921504606846976 * P + 1073741824 * N) ≤ eta j ∧ eta j ≤ 1152921504606846976 * P + 1073741824 * N)
    (hE : ∀ i, i < 4 → 2147483648 * N * T i = 2147483648 * P * pe Q r i + eta i) :
    N * N * (1073741816 * 1073741816) ≤ P * P * nn r * (1073741829 * 1073741829) ∧ P * P * nn r * (1073741820 * 1073741820) ≤ N * N * (1073741832 * 1073741832) ∧
      ∀ i, i < 3 → -(N * N * 4611686076409446651) ≤ N * N * es T v i - P * P * es r (es Q v) i ∧ N * N * es T v i - P * P * es r (es Q v) i ≤ N * N * 4611686076409446651 := by
  have hF : 1152921504606846976 * P + 1073741824 * N ≤ N * 2147483655 := by omega
  have hF0 : 0 ≤ 1152921504606846976 * P + 1073741824 * N := by omega
  have hn : nn eta ≤ (N * 4294967310) * (N * 4294967310) := Int.le_trans (nn_bd he) (Int.mul_le_mul (by omega) (by omega) (by omega) (by omega))
  have nr := nn_nonneg r
  have nQ := nn_nonneg Q
  have nT := nn_nonneg T
  have hNN : 0 ≤ N * N := sq_nn N
  have hPP : 0 ≤ P * P := sq_nn P
  have hPR : 0 ≤ P * P * nn r := Int.mul_nonneg hPP nr
  have eA : nn (sc (2147483648 * N) T) = 4611686018427387904 * (N * N) * nn T := by rw [nn_sc]; grind
  have eB : nn (sc (2147483648 * P) (pe Q r)) = 4611686018427387904 * (P * P * nn r * nn Q) := by rw [nn_sc, pe_nn]; grind
  have hA : nn (sc (2147483648 * N) T) ≤ (N * 2305843019951112192) * (N * 2305843019951112192) := by
    rw [eA]
    have a := Int.mul_le_mul_of_nonneg_left (show nn T ≤ 1073741829 * 1073741829 by omega) (show 0 ≤ 4611686018427387904 * (N * N) by omega)
    have e : (N * 2305843019951112192) * (N * 2305843019951112192) = 4611686018427387904 * (N * N) * (1073741829 * 1073741829) := by grind
    omega
  have hn1 : nn (sc (-1) eta) ≤ (N * 4294967310) * (N * 4294967310) := by rw [nn_sc]; omega
  have hB : nn (sc (2147483648 * P) (pe Q r)) ≤ (N * 2305843024246079502) * (N * 2305843024246079502) := by
    have t := tri4 (x := sc (2147483648 * N) T) (y := sc (-1) eta) (z := sc (2147483648 * P) (pe Q r)) (by omega) (by omega) hA hn1 (fun i hi => by
      have := hE i hi
      show 2147483648 * P * pe Q r i = 2147483648 * N * T i + -1 * eta i
      omega)
    have e : N * 2305843019951112192 + N * 4294967310 = N * 2305843024246079502 := by omega
    rw [e] at t
    exact t
  have up : P * P * nn r * (1073741820 * 1073741820) ≤ N * N * (1073741832 * 1073741832) := by
    rw [eB] at hB
    have a := Int.mul_le_mul_of_nonneg_left l1 hPR
    have b : (N * 2305843024246079502) * (N * 2305843024246079502) ≤ 4611686018427387904 * (N * N * (1073741832 * 1073741832)) := by
      have e : (N * 2305843024246079502) * (N * 2305843024246079502) = N * N * (2305843024246079502 * 2305843024246079502) := by grind
      rw [e]; omega
    omega
  refine ⟨?_, up, fun i hi => ?_⟩
  · apply Classical.byContradiction; intro hc
    have h1 : P * P * nn r * nn Q ≤ N * N * (1073741816 * 1073741816) := by
      have := Int.mul_le_mul_of_nonneg_left (show nn Q ≤ 1073741829 * 1073741829 by omega) hPR
      omega
    have t := tri4 (x := sc (2147483648 * P) (pe Q r)) (y := eta) (z := sc (2147483648 * N) T) (X := N * 2305842992033824768) (Y := N * 4294967310) (by omega) (by omega) (by
      rw [eB]
      have e : (N * 2305842992033824768) * (N * 2305842992033824768) = 4611686018427387904 * (N * N * (1073741816 * 1073741816)) := by grind
      omega) hn (fun i hi => hE i hi)
    have e : N * 2305842992033824768 + N * 4294967310 = N * 2305842996328792078 := by omega
    rw [e, eA] at t
    have a := Int.mul_le_mul_of_nonneg_left l2 (show 0 ≤ 4611686018427387904 * (N * N) by omega)
    have e2 : (N * 2305842996328792078) * (N * 2305842996328792078) = N * N * (2305842996328792078 * 2305842996328792078) := by grind
    rw [e2] at t
    have : 0 < N * N := Int.mul_pos (by omega) (by omega)
    omega
  · have d := es_diff (A := sc (2147483648 * N) T) (B := sc (2147483648 * P) (pe Q r)) (n := eta) (fun j hj => hE j hj) v hi
    rw [es_sc _ T v hi, es_sc _ (pe Q r) v hi, es_pe Q r v hi] at d
    have hvn := nn_nonneg (qv v)
    rw [qv_nn] at hvn
    have b1 := nn_comp (x := pe (pe (cj (sc (2147483648 * N) T)) (qv v)) eta) (X := N * 2305843019951112192 * 1073741828 * (N * 4294967310)) (Int.mul_nonneg (by omega) (by omega)) (by
      rw [pe_nn, pe_nn, nn_cj, qv_nn]
      have x := Int.mul_le_mul (Int.mul_le_mul hA hv hvn (sq_nn _)) hn (nn_nonneg eta) (Int.mul_nonneg (sq_nn _) (by decide))
      have e : (N * 2305843019951112192) * (N * 2305843019951112192) * (1073741828 * 1073741828) * ((N * 4294967310) * (N * 4294967310)) = (N * 2305843019951112192 * 1073741828 * (N * 4294967310)) * (N * 2305843019951112192 * 1073741828 * (N * 4294967310)) := by grind
      rw [← e]; exact x) (i := i + 1) (by omega)
    have b2 := nn_comp (x := pe (pe (cj eta) (qv v)) (sc (2147483648 * P) (pe Q r))) (X := N * 2305843024246079502 * 1073741828 * (N * 4294967310)) (Int.mul_nonneg (by omega) (by omega)) (by
      rw [pe_nn, pe_nn, nn_cj, qv_nn]
      have x := Int.mul_le_mul (Int.mul_le_mul hn hv hvn (sq_nn _)) hB (nn_nonneg _) (Int.mul_nonneg (sq_nn _) (by decide))
      have e : (N * 4294967310) * (N * 4294967310) * (1073741828 * 1073741828) * ((N * 2305843024246079502) * (N * 2305843024246079502)) = (N * 2305843024246079502 * 1073741828 * (N * 4294967310)) * (N * 2305843024246079502 * 1073741828 * (N * 4294967310)) := by grind
      rw [← e]; exact x) (i := i + 1) (by omega)
    have e1 : N * 2305843019951112192 * 1073741828 * (N * 4294967310) = N * N * (2305843019951112192 * 1073741828 * 4294967310) := by grind
    have e2 : N * 2305843024246079502 * 1073741828 * (N * 4294967310) = N * N * (2305843024246079502 * 1073741828 * 4294967310) := by grind
    rw [e1] at b1
    rw [e2] at b2
    have e3 : 2147483648 * N * (2147483648 * N) * es T v i = 4611686018427387904 * (N * N * es T v i) := by grind
    have e4 : 2147483648 * P * (2147483648 * P) * es r (es Q v) i = 4611686018427387904 * (P * P * es r (es Q v) i) := by grind
    rw [e3, e4] at d
    omega
theorem see_vv {Q v s : Nat → Int} (l1 : 1073741820 * 1073741820 ≤ nn Q) (u1 : nn Q < 1073741829 * 1073741829) (v1 : 1073741823 * 1073741823 ≤ vv v) (v2 : vv v ≤ 1073741828 * 1073741828)
    (hs : ∀ i, i < 3 → -3458764513820540928 ≤ 1152921504606846976 * s i - es Q v i ∧ 1152921504606846976 * s i - es Q v i ≤ 3458764513820540928) :
    1073741800 * 1073741800 ≤ vv s ∧ vv s ≤ 1073741848 * 1073741848 := by
  have he := es_vv Q v
  have nQ := nn_nonneg Q
  have q1 : 1073741820 * 1073741820 * (1073741820 * 1073741820) ≤ nn Q * nn Q := Int.mul_le_mul l1 l1 (by decide) nQ
  have q2 : nn Q * nn Q ≤ 1073741829 * 1073741829 * (1073741829 * 1073741829) := Int.mul_le_mul (by omega) (by omega) nQ (by decide)
  have w1 := Int.mul_le_mul q1 v1 (by decide) (Int.mul_nonneg nQ nQ)
  have w2 := Int.mul_le_mul q2 v2 (by omega) (by decide)
  rw [← he] at w1 w2
  have db := fun i hi => (bmul (P := 3458764513820540928) (R := 3458764513820540928) (hs i hi).1 (hs i hi).2 (hs i hi).1 (hs i hi).2).2
  have d0 := db 0 (by omega)
  have d1 := db 1 (by omega)
  have d2 := db 2 (by omega)
  have e0 : (1152921504606846976 * s 0) * (1152921504606846976 * s 0) + (1152921504606846976 * s 1) * (1152921504606846976 * s 1) + (1152921504606846976 * s 2) * (1152921504606846976 * s 2) = 1152921504606846976 * 1152921504606846976 * vv s := by unfold vv; grind
  generalize es Q v = E at *
  have ev : vv E = E 0 * E 0 + E 1 * E 1 + E 2 * E 2 := rfl
  constructor
  · apply Classical.byContradiction; intro hc
    have t := tri3 (x0 := 1152921504606846976 * s 0) (x1 := 1152921504606846976 * s 1) (x2 := 1152921504606846976 * s 2) (y0 := -(1152921504606846976 * s 0 - E 0)) (y1 := -(1152921504606846976 * s 1 - E 1)) (y2 := -(1152921504606846976 * s 2 - E 2)) (X := 1152921504606846976 * 1073741800) (Y := 6917529027641081856) (by decide) (by decide) (by rw [e0]; omega) (by
      have n : ∀ a : Int, -a * -a = a * a := fun a => by grind
      rw [n, n, n]; omega)
    have y : ∀ a b : Int, a + -(a - b) = b := fun a b => by omega
    rw [y, y, y] at t
    omega
  · have t := tri3 (x0 := E 0) (x1 := E 1) (x2 := E 2) (y0 := 1152921504606846976 * s 0 - E 0) (y1 := 1152921504606846976 * s 1 - E 1) (y2 := 1152921504606846976 * s 2 - E 2) (X := 1152921504606846976 * 1073741840) (Y := 6917529027641081856) (by decide) (by decide) (by omega) (by omega)
    have y : ∀ a b : Int, a + (b - a) = b := fun a b => by omega
    rw [y, y, y, e0] at t
    omega
theorem see_law {Q T r v s t : Nat → Int} {N P : Int} (hN : 35184372088832 ≤ N) (hr : 0 < nn r)
    (c1 : N * N * (1073741816 * 1073741816) ≤ P * P * nn r * (1073741829 * 1073741829)) (c2 : P * P * nn r * (1073741820 * 1073741820) ≤ N * N * (1073741832 * 1073741832))
    (c3 : ∀ i, i < 3 → -(N * N * 4611686076409446651) ≤ N * N * es T v i - P * P * es r (es Q v) i ∧ N * N * es T v i - P * P * es r (es Q v) i ≤ N * N * 4611686076409446651)
    (hs : ∀ i, i < 3 → -3458764513820540928 ≤ 1152921504606846976 * s i - es Q v i ∧ 1152921504606846976 * s i - es Q v i ≤ 3458764513820540928)
    (ht : ∀ i, i < 3 → -3458764513820540928 ≤ 1152921504606846976 * t i - es T v i ∧ 1152921504606846976 * t i - es T v i ≤ 3458764513820540928)
    (hsv : vv s ≤ 1073741848 * 1073741848) {i : Nat} (hi : i < 3) : -(43 * nn r) ≤ nn r * t i - es r s i ∧ nn r * t i - es r s i ≤ 43 * nn r := by
  have hNN : 0 < N * N := Int.mul_pos (by omega) (by omega)
  have hPP : 0 ≤ P * P := sq_nn P
  have b1 := vv_comp (v := es r (fun j => 1152921504606846976 * s j + -1 * es Q v j)) (V := nn r * 6917529027641081856) (by omega) (by
    rw [es_vv]
    have db := fun i hi => (bmul (P := 3458764513820540928) (R := 3458764513820540928) (hs i hi).1 (hs i hi).2 (hs i hi).1 (hs i hi).2).2
    have d0 := db 0 (by omega)
    have d1 := db 1 (by omega)
    have d2 := db 2 (by omega)
    have n : ∀ a b : Int, a + -1 * b = a - b := fun a b => by omega
    have x : vv (fun j => 1152921504606846976 * s j + -1 * es Q v j) ≤ 6917529027641081856 * 6917529027641081856 := by
      unfold vv; simp only [n]; omega
    have := Int.mul_le_mul_of_nonneg_left x (Int.mul_nonneg (show 0 ≤ nn r by omega) (show 0 ≤ nn r by omega))
    have e : nn r * 6917529027641081856 * (nn r * 6917529027641081856) = nn r * nn r * (6917529027641081856 * 6917529027641081856) := by grind
    rw [e]; exact this) hi
  rw [es_lin r s (es Q v) _ _ hi] at b1
  have b2 := vv_comp (v := es r s) (V := nn r * 1073741848) (by omega) (by
    rw [es_vv]
    have := Int.mul_le_mul_of_nonneg_left hsv (Int.mul_nonneg (show 0 ≤ nn r by omega) (show 0 ≤ nn r by omega))
    have e : nn r * 1073741848 * (nn r * 1073741848) = nn r * nn r * (1073741848 * 1073741848) := by grind
    rw [e]; exact this) hi
  have c3 := c3 i hi
  have ht := ht i hi
  generalize es r s i = X at *
  generalize es r (es Q v) i = Y at *
  generalize es T v i = Z at *
  generalize t i = x at *
  generalize nn r = R at *
  have k1 : -(N * N * 25) ≤ 1073741824 * (P * P * R - N * N) + 2 * (N * N) ∧ 1073741824 * (P * P * R - N * N) ≤ 25 * (N * N) := by omega
  -- (1) N² O² x = P² Y ± ..
  have a1 := Int.mul_le_mul_of_nonneg_left ht.1 (show 0 ≤ N * N by omega)
  have a2 := Int.mul_le_mul_of_nonneg_left ht.2 (show 0 ≤ N * N by omega)
  have a3 := Int.mul_le_mul_of_nonneg_left b1.1 hPP
  have a4 := Int.mul_le_mul_of_nonneg_left b1.2 hPP
  have e1 : N * N * (1152921504606846976 * x - Z) = 1152921504606846976 * (N * N * x) - N * N * Z := by grind
  have e2 : P * P * (1152921504606846976 * X + -1 * Y) = 1152921504606846976 * (P * P * X) - P * P * Y := by grind
  have e3 : P * P * (R * 6917529027641081856) = P * P * R * 6917529027641081856 := by grind
  have e4 : P * P * -(R * 6917529027641081856) = -(P * P * R * 6917529027641081856) := by grind
  rw [e1] at a1 a2
  rw [e2] at a3 a4
  rw [e4] at a3
  rw [e3] at a4
  have m1 : -(8 * (N * N) + 6 * (P * P * R)) ≤ N * N * x - P * P * X ∧ N * N * x - P * P * X ≤ 8 * (N * N) + 6 * (P * P * R) := by omega
  have m2 : -(15 * (N * N)) ≤ N * N * x - P * P * X ∧ N * N * x - P * P * X ≤ 15 * (N * N) := by omega
  -- (2) times R
  have a5 := Int.mul_le_mul_of_nonneg_left m2.1 (show 0 ≤ R by omega)
  have a6 := Int.mul_le_mul_of_nonneg_left m2.2 (show 0 ≤ R by omega)
  have e5 : R * (N * N * x - P * P * X) = N * N * (R * x - X) - (P * P * R - N * N) * X := by grind
  have e6 : R * (15 * (N * N)) = N * N * R * 15 := by grind
  have e7 : R * -(15 * (N * N)) = -(N * N * R * 15) := by grind
  rw [e5] at a5 a6
  rw [e7] at a5
  rw [e6] at a6
  have p := bmul (P := 27 * (N * N)) (R := R * 1073741848) (a := 1073741824 * (P * P * R - N * N)) (b := X) (by omega) (by omega) b2.1 b2.2
  have e8 : 27 * (N * N) * (R * 1073741848) = N * N * R * 28991029896 := by grind
  have e9 : 1073741824 * (P * P * R - N * N) * X = 1073741824 * ((P * P * R - N * N) * X) := by grind
  rw [e8, e9] at p
  have hNR : 0 < N * N * R := Int.mul_pos hNN hr
  have e10 : N * N * (43 * R) = N * N * R * 43 + 0 := by grind
  constructor
  · apply Classical.byContradiction; intro hc
    have := Int.mul_le_mul_of_nonneg_left (show R * x - X ≤ -(43 * R) - 1 by omega) (show 0 ≤ N * N by omega)
    have e : N * N * (-(43 * R) - 1) = -(N * N * R * 43) - N * N := by grind
    omega
  · apply Classical.byContradiction; intro hc
    have := Int.mul_le_mul_of_nonneg_left (show 43 * R + 1 ≤ R * x - X by omega) (show 0 ≤ N * N by omega)
    have e : N * N * (43 * R + 1) = N * N * R * 43 + N * N := by grind
    omega
end Go.Proofs.Ytkmelddejdikgaa
namespace Go.Proofs.Ytkmelddejdikgaa
open Go.RowKit PM Dt
theorem see_err {Q v : Nat → Int} (hI : ∀ i, i < 4 → I64 (Q i)) (hq : validQ Q = true) (hv : ∀ i, i < 3 → -1073741824 ≤ v i ∧ v i ≤ 1073741824) (hvv : vv v ≤ 1073741828 * 1073741828) {i : Nat} (hi : i < 3) :
    -3458764513820540928 ≤ 1152921504606846976 * qbackF Q v i - es Q v i ∧ 1152921504606846976 * qbackF Q v i - es Q v i ≤ 3458764513820540928 := by
  obtain ⟨ku, lo, hu⟩ := valid_nn hI hq
  have hM := vmat_ok hu
  have kv : okV v = true := (okV_iff v).2 fun i hi => (vb_iff _).2 (by have := hv i hi; omega)
  have B := fun i (hi' : i < 3) => rot_wide (g := backX (qmatX Q) v) (V := 1073741828) (by decide) (mat_err' Q) (fun i hi => back_ap _ _ hi) (by omega) hu (qent_orth' Q v) hvv hi'
  have kB : okV (backX (qmatX Q) v) = true := (okV_iff _).2 fun i hi => (vb_iff _).2 (by have := B i hi; omega)
  have eq : qbackF Q v = backX (qmatX Q) v := by unfold qbackF vbackF resF; rw [hq, hM, kv, kB]; rfl
  rw [eq]
  obtain ⟨d0, m0, a0, b0⟩ := mat_err' Q (3 * i) (by omega)
  obtain ⟨d1, m1, a1, b1⟩ := mat_err' Q (3 * i + 1) (by omega)
  obtain ⟨d2, m2, a2, b2⟩ := mat_err' Q (3 * i + 2) (by omega)
  obtain ⟨e, hg, ae, be⟩ := back_ap (qmatX Q) v hi
  have p0 := bmul (P := 536870912) (R := 1073741824) a0 b0 (hv 0 (by omega)).1 (hv 0 (by omega)).2
  have p1 := bmul (P := 536870912) (R := 1073741824) a1 b1 (hv 1 (by omega)).1 (hv 1 (by omega)).2
  have p2 := bmul (P := 536870912) (R := 1073741824) a2 b2 (hv 2 (by omega)).1 (hv 2 (by omega)).2
  have key : 1073741824 * ap (tr (qmatX Q)) v i = es Q v i + (d0 * v 0 + d1 * v 1 + d2 * v 2) := by
    unfold es ap
    generalize tr (qmatX Q) = M at *
    generalize tr (qent Q) = E at *
    have a0 : 1073741824 * (M (3 * i) * v 0) = (E (3 * i) + d0) * v 0 := by rw [← m0]; grind
    have a1 : 1073741824 * (M (3 * i + 1) * v 1) = (E (3 * i + 1) + d1) * v 1 := by rw [← m1]; grind
    have a2 : 1073741824 * (M (3 * i + 2) * v 2) = (E (3 * i + 2) + d2) * v 2 := by rw [← m2]; grind
    grind
  omega
structure Law (D s t : Nat → Int) : Prop where
  law : ∀ i, i < 3 → -(43 * nn (rq (mulF 2 D))) ≤ nn (rq (mulF 2 D)) * t i - es (rq (mulF 2 D)) s i ∧ nn (rq (mulF 2 D)) * t i - es (rq (mulF 2 D)) s i ≤ 43 * nn (rq (mulF 2 D))
  sl : 1073741800 * 1073741800 ≤ vv s
  su : vv s ≤ 1073741848 * 1073741848
theorem see_turn {Q D v : Nat → Int} (hI : ∀ i, i < 4 → I64 (Q i)) (hq : validQ Q = true) (hv : ∀ i, i < 3 → -1073741824 ≤ v i ∧ v i ≤ 1073741824) (v1 : 1073741823 * 1073741823 ≤ vv v) (v2 : vv v ≤ 1073741828 * 1073741828)
    (hD : ∀ i, i < 3 → -4194304 ≤ D i ∧ D i ≤ 4194304) (hDD : vv D ≤ 17592202821632) : Law D (qbackF Q v) (qbackF (attG Q D) v) := by
  obtain ⟨_, l1, u1⟩ := valid_nn hI hq
  have e1 := fun i hi => see_err hI hq hv v2 (i := i) hi
  have V := see_vv l1 u1 v1 v2 e1
  refine ⟨?_, V.1, V.2⟩
  by_cases hz : zV D = true
  · have eQ : attG Q D = Q := by unfold attG; rw [hz]; rfl
    have z := fun i (hi : i < 3) => (show D i = 0 from beq_iff_eq.1 (by unfold zV at hz; exact List.all_eq_true.1 hz i (List.mem_range.2 hi)))
    have r0 : rq (mulF 2 D) 0 = 1073741824 := rfl
    have r1 : rq (mulF 2 D) 1 = 0 := by show 2 * D 0 = 0; rw [z 0 (by omega)]; rfl
    have r2 : rq (mulF 2 D) 2 = 0 := by show 2 * D 1 = 0; rw [z 1 (by omega)]; rfl
    have r3 : rq (mulF 2 D) 3 = 0 := by show 2 * D 2 = 0; rw [z 2 (by omega)]; rfl
    rw [eQ]
    intro i hi
    generalize qbackF Q v = s at *
    have hn : nn (rq (mulF 2 D)) = 1152921504606846976 := by unfold nn; rw [r0, r1, r2, r3]; decide
    rw [hn]
    have he : es (rq (mulF 2 D)) s i = 1152921504606846976 * s i := by
      rcases (show i = 0 ∨ i = 1 ∨ i = 2 by omega) with rfl | rfl | rfl <;> simp only [es_0, es_1, es_2] <;> rw [r0, r1, r2, r3] <;> omega
    rw [he]; omega
  · have eQ : attG Q D = turnF Q (mulF 2 D) := by unfold attG; rw [if_neg hz]
    rw [eQ]
    have hs : smallB (mulF 2 D) 1073741824 = true := (smallB_iff _ _).2 fun i hi => (sb_iff _ _).2 (by have := hD i hi; unfold mulF; omega)
    obtain ⟨N, P, eta, p, hN, hP, s1, s2, hp, het, hE⟩ := turn_dir hI hq hs
    have hh : mulF 2 D 0 * mulF 2 D 0 + mulF 2 D 1 * mulF 2 D 1 + mulF 2 D 2 * mulF 2 D 2 = 4 * vv D := by unfold mulF vv; grind
    obtain ⟨n1, n2⟩ := turn_scaleB l1 u1 (by omega) hN hP s1 s2 hp
    obtain ⟨vt, It⟩ := turn_valid hI hq hs
    obtain ⟨_, l2, u2⟩ := valid_nn It vt
    obtain ⟨c1, c2, c3⟩ := see_core (v := v) hN hP n1 l1 u1 l2 u2 v2 het hE
    have hr := rq_nn (mulF 2 D)
    have m0 := sq_nn (D 0)
    have m1 := sq_nn (D 1)
    have m2 := sq_nn (D 2)
    have hvD : vv D = D 0 * D 0 + D 1 * D 1 + D 2 * D 2 := rfl
    exact fun i hi => see_law hN (by omega) c1 c2 c3 e1 (fun i hi => see_err It vt hv v2 hi) V.2 hi
variable {D s t : Nat → Int}
theorem hD_nn (D : Nat → Int) : nn (rq (mulF 2 D)) = 1152921504606846976 + 4 * vv D := by
  have := rq_nn (mulF 2 D)
  have e : mulF 2 D 0 * mulF 2 D 0 + mulF 2 D 1 * mulF 2 D 1 + mulF 2 D 2 * mulF 2 D 2 = 4 * vv D := by unfold mulF vv; grind
  omega
theorem vv_nn (D : Nat → Int) : 0 ≤ vv D := by
  have m0 := sq_nn (D 0)
  have m1 := sq_nn (D 1)
  have m2 := sq_nn (D 2)
  have hvD : vv D = D 0 * D 0 + D 1 * D 1 + D 2 * D 2 := rfl
  omega
theorem Law.move (h : Law D s t) {L K : Int} (hL : 0 ≤ L) (hDD : 4 * vv D ≤ L * L) (hb : vv D ≤ 17592202821632) (hK : 32001 * L + 1440000 ≤ 16000 * K) :
    (t 0 - s 0) * (t 0 - s 0) + (t 1 - s 1) * (t 1 - s 1) + (t 2 - s 2) * (t 2 - s 2) ≤ K * K := by
  have hn := hD_nn D
  have hd0 := vv_nn D
  have hR : nn (rq (mulF 2 D)) ≤ 1073774592 * 1073774592 := by omega
  have a0 := h.law 0 (by omega)
  have a1 := h.law 1 (by omega)
  have a2 := h.law 2 (by omega)
  have su := h.su
  have e0 := es_0 (rq (mulF 2 D)) s
  have e1 := es_1 (rq (mulF 2 D)) s
  have e2 := es_2 (rq (mulF 2 D)) s
  have r0 : rq (mulF 2 D) 0 = 1073741824 := rfl
  have r1 : rq (mulF 2 D) 1 = 2 * D 0 := rfl
  have r2 : rq (mulF 2 D) 2 = 2 * D 1 := rfl
  have r3 : rq (mulF 2 D) 3 = 2 * D 2 := rfl
  rw [r0, r1, r2, r3] at e0 e1 e2
  generalize es (rq (mulF 2 D)) s = E at *
  have id : (E 0 - nn (rq (mulF 2 D)) * s 0) * (E 0 - nn (rq (mulF 2 D)) * s 0) + (E 1 - nn (rq (mulF 2 D)) * s 1) * (E 1 - nn (rq (mulF 2 D)) * s 1) + (E 2 - nn (rq (mulF 2 D)) * s 2) * (E 2 - nn (rq (mulF 2 D)) * s 2) = 4 * nn (rq (mulF 2 D)) * (4 * vv D * vv s - (2 * D 0 * s 0 + 2 * D 1 * s 1 + 2 * D 2 * s 2) * (2 * D 0 * s 0 + 2 * D 1 * s 1 + 2 * D 2 * s 2)) := by
    rw [e0, e1, e2, hn]; unfold vv; grind
  have hsq := sq_nn (2 * D 0 * s 0 + 2 * D 1 * s 1 + 2 * D 2 * s 2)
  generalize nn (rq (mulF 2 D)) = R at *
  have hs0 := vv_nn s
  have b1 : 4 * vv D * vv s ≤ L * L * (1073741848 * 1073741848) := Int.mul_le_mul hDD su hs0 (sq_nn L)
  have b2 : 4 * R * (4 * vv D * vv s - (2 * D 0 * s 0 + 2 * D 1 * s 1 + 2 * D 2 * s 2) * (2 * D 0 * s 0 + 2 * D 1 * s 1 + 2 * D 2 * s 2)) ≤ 4 * (1073774592 * 1073774592) * (L * L * (1073741848 * 1073741848)) := by
    refine Int.le_trans (Int.mul_le_mul_of_nonneg_left (show _ ≤ L * L * (1073741848 * 1073741848) by omega) (by omega)) ?_
    exact Int.mul_le_mul_of_nonneg_right (by omega) (Int.mul_nonneg (sq_nn L) (by decide))
  have e3 : 4 * (1073774592 * 1073774592) * (L * L * (1073741848 * 1073741848)) = (L * 2305913429499052032) * (L * 2305913429499052032) + L * L * (4 * (1073774592 * 1073774592) * (1073741848 * 1073741848) - 2305913429499052032 * 2305913429499052032) := by grind
  have tb := fun (a e : Int) (h1 : -(43 * R) ≤ a) (h2 : a ≤ 43 * R) => (bmul h1 h2 h1 h2).2
  have t0 := tb _ 0 a0.1 a0.2
  have t1 := tb _ 0 a1.1 a1.2
  have t2 := tb _ 0 a2.1 a2.2
  have LL := sq_nn L
  have T := tri3 (x0 := E 0 - R * s 0) (x1 := E 1 - R * s 1) (x2 := E 2 - R * s 2) (y0 := R * t 0 - E 0) (y1 := R * t 1 - E 1) (y2 := R * t 2 - E 2) (X := L * 2305913429499052032) (Y := 86 * R) (by omega) (by omega) (by
    rw [id]
    refine Int.le_trans b2 ?_
    rw [e3]
    have : (4 * (1073774592 * 1073774592) * (1073741848 * 1073741848) - 2305913429499052032 * 2305913429499052032 : Int) ≤ 0 := by decide
    have := Int.mul_le_mul_of_nonneg_left this LL
    omega) (by
    have e : 86 * R * (86 * R) = 4 * (43 * R * (43 * R)) := by grind
    have p : 0 ≤ 43 * R * (43 * R) := sq_nn _
    omega)
  have y : ∀ a b c : Int, a - b + (c - a) = c - b := fun a b c => by omega
  rw [y, y, y] at T
  have e4 : (R * t 0 - R * s 0) * (R * t 0 - R * s 0) + (R * t 1 - R * s 1) * (R * t 1 - R * s 1) + (R * t 2 - R * s 2) * (R * t 2 - R * s 2) = R * R * ((t 0 - s 0) * (t 0 - s 0) + (t 1 - s 1) * (t 1 - s 1) + (t 2 - s 2) * (t 2 - s 2)) := by grind
  rw [e4] at T
  have k1 : L * 2305913429499052032 + 86 * R ≤ R * K := by
    have z1 : 1152921504606846976 * (16000 * K - 1376000) ≤ R * (16000 * K - 1376000) := Int.mul_le_mul_of_nonneg_right (by omega) (by omega)
    have z2 : R * (16000 * K - 1376000) = 16000 * (R * K) - 1376000 * R := by grind
    omega
  have k2 : (L * 2305913429499052032 + 86 * R) * (L * 2305913429499052032 + 86 * R) ≤ (R * K) * (R * K) := Int.mul_le_mul k1 k1 (by omega) (by omega)
  have e5 : (R * K) * (R * K) = R * R * (K * K) := by grind
  rw [e5] at k2
  exact Int.le_of_mul_le_mul_left (Int.le_trans T k2) (Int.mul_pos (by omega) (by omega))
end Go.Proofs.Ytkmelddejdikgaa
namespace Go.Proofs.Ytkmelddejdikgaa
open Go.RowKit PM Dt
def ww (D s : Nat → Int) : Int := 2 * (D 1 * s 0 - D 0 * s 1)
def cc (D s : Nat → Int) : Int := 2 * (D 0 * s 0 + D 1 * s 1)
structure Tk (D : Nat → Int) : Prop where
  z : D 2 = 0
  b : ∀ i, i < 3 → -4194304 ≤ D i ∧ D i ≤ 4194304
  l : 70368710623232 ≤ 4 * vv D
  u : 4 * vv D ≤ 70368777732100
variable {D s t : Nat → Int}
theorem wc_sq (z : D 2 = 0) (s : Nat → Int) : ww D s * ww D s + cc D s * cc D s = 4 * vv D * (vv s - s 2 * s 2) := by
  unfold ww cc vv
  rw [z]; grind
theorem Law.u3 (h : Law D s t) (k : Tk D) :
    (-(43 * (1152921504606846976 + 4 * vv D)) ≤ (1152921504606846976 + 4 * vv D) * t 2 - ((1152921504606846976 - 4 * vv D) * s 2 + 2147483648 * ww D s) ∧ (1152921504606846976 + 4 * vv D) * t 2 - ((1152921504606846976 - 4 * vv D) * s 2 + 2147483648 * ww D s) ≤ 43 * (1152921504606846976 + 4 * vv D)) ∧
    (-(721420288 * (1152921504606846976 + 4 * vv D)) ≤ (1152921504606846976 + 4 * vv D) * ww D t - ((1152921504606846976 - 4 * vv D) * ww D s - 2147483648 * (4 * vv D * s 2)) ∧ (1152921504606846976 + 4 * vv D) * ww D t - ((1152921504606846976 - 4 * vv D) * ww D s - 2147483648 * (4 * vv D * s 2)) ≤ 721420288 * (1152921504606846976 + 4 * vv D)) ∧
    (-721420288 ≤ cc D t - cc D s ∧ cc D t - cc D s ≤ 721420288) := by
  have hn := hD_nn D
  have hd0 := vv_nn D
  have a0 := h.law 0 (by omega)
  have a1 := h.law 1 (by omega)
  have a2 := h.law 2 (by omega)
  have e0 := es_0 (rq (mulF 2 D)) s
  have e1 := es_1 (rq (mulF 2 D)) s
  have e2 := es_2 (rq (mulF 2 D)) s
  have r0 : rq (mulF 2 D) 0 = 1073741824 := rfl
  have r1 : rq (mulF 2 D) 1 = 2 * D 0 := rfl
  have r2 : rq (mulF 2 D) 2 = 2 * D 1 := rfl
  have r3 : rq (mulF 2 D) 3 = 0 := by show 2 * D 2 = 0; rw [k.z]; rfl
  rw [r0, r1, r2, r3] at e0 e1 e2
  have b0 := k.b 0 (by omega)
  have b1 := k.b 1 (by omega)
  have hv : vv D = D 0 * D 0 + D 1 * D 1 := by unfold vv; rw [k.z]; omega
  rw [← hn]
  have hR : 0 < nn (rq (mulF 2 D)) := by omega
  generalize es (rq (mulF 2 D)) s = E at *
  have f2 : E 2 = (1152921504606846976 - 4 * vv D) * s 2 + 2147483648 * ww D s := by rw [e2, hv]; unfold ww; grind
  have fw : 2 * (D 1 * E 0 - D 0 * E 1) = (1152921504606846976 - 4 * vv D) * ww D s - 2147483648 * (4 * vv D * s 2) := by rw [e0, e1, hv]; unfold ww; grind
  have fc : 2 * (D 0 * E 0 + D 1 * E 1) = nn (rq (mulF 2 D)) * cc D s := by rw [e0, e1, hn, hv]; unfold cc; grind
  generalize nn (rq (mulF 2 D)) = R at *
  have p00 := bmul b0.1 b0.2 a0.1 a0.2
  have p01 := bmul b0.1 b0.2 a1.1 a1.2
  have p10 := bmul b1.1 b1.2 a0.1 a0.2
  have p11 := bmul b1.1 b1.2 a1.1 a1.2
  have q00 : D 0 * (R * t 0 - E 0) = R * (D 0 * t 0) - D 0 * E 0 := by grind
  have q01 : D 0 * (R * t 1 - E 1) = R * (D 0 * t 1) - D 0 * E 1 := by grind
  have q10 : D 1 * (R * t 0 - E 0) = R * (D 1 * t 0) - D 1 * E 0 := by grind
  have q11 : D 1 * (R * t 1 - E 1) = R * (D 1 * t 1) - D 1 * E 1 := by grind
  rw [q00] at p00; rw [q01] at p01; rw [q10] at p10; rw [q11] at p11
  have w1 : R * ww D t = 2 * (R * (D 1 * t 0)) - 2 * (R * (D 0 * t 1)) := by unfold ww; grind
  have w2 : R * cc D t = 2 * (R * (D 0 * t 0)) + 2 * (R * (D 1 * t 1)) := by unfold cc; grind
  refine ⟨?_, ?_, ?_⟩
  · rw [← f2]; exact a2
  · rw [← fw, w1]; omega
  · have x : -(721420288 * R) ≤ R * cc D t - R * cc D s ∧ R * cc D t - R * cc D s ≤ 721420288 * R := by rw [← fc, w2]; omega
    have y : R * cc D t - R * cc D s = R * (cc D t - cc D s) := by grind
    rw [y] at x
    constructor
    · apply Classical.byContradiction; intro hc
      have := Int.mul_le_mul_of_nonneg_left (show cc D t - cc D s ≤ -721420289 by omega) (show 0 ≤ R by omega)
      omega
    · apply Classical.byContradiction; intro hc
      have := Int.mul_le_mul_of_nonneg_left (show 721420289 ≤ cc D t - cc D s by omega) (show 0 ≤ R by omega)
      omega
theorem ww_big (k : Tk D) (sl : 1073741800 * 1073741800 ≤ vv s) {K W : Int} (h1 : -K ≤ s 2) (h2 : s 2 ≤ K) (hc : -2394000000000000 ≤ cc D s ∧ cc D s ≤ 2394000000000000) (hK : K * K ≤ 1073741800 * 1073741800)
    (hW : W * W + 2394000000000000 * 2394000000000000 ≤ 70368710623232 * (1073741800 * 1073741800 - K * K)) : W * W ≤ ww D s * ww D s := by
  have e := wc_sq k.z s
  have c2 := (bmul hc.1 hc.2 hc.1 hc.2).2
  have s2 := (bmul h1 h2 h1 h2).2
  have a := Int.mul_le_mul (show 70368710623232 ≤ 4 * vv D from k.l) (show 1073741800 * 1073741800 - K * K ≤ vv s - s 2 * s 2 by omega) (by omega) (by have := k.l; omega)
  omega
theorem ww_le (k : Tk D) (su : vv s ≤ 1073741848 * 1073741848) : -9007298240317600 ≤ ww D s ∧ ww D s ≤ 9007298240317600 := by
  have e := wc_sq k.z s
  have c2 := sq_nn (cc D s)
  have s2 := sq_nn (s 2)
  have hv := vv_nn s
  have a := Int.mul_le_mul (show 4 * vv D ≤ 70368777732100 from k.u) (show vv s - s 2 * s 2 ≤ 1073741848 * 1073741848 by omega) (by
    have : vv s = s 0 * s 0 + s 1 * s 1 + s 2 * s 2 := rfl
    have := sq_nn (s 0)
    have := sq_nn (s 1)
    omega) (by decide)
  exact abs_le_of_sq (by decide) (by omega)
theorem ww_end (k : Tk D) (su : vv s ≤ 1073741848 * 1073741848) (h : s 2 ≤ -939524096) : ww D s ≤ 4400000000000000 := by
  have e := wc_sq k.z s
  have c2 := sq_nn (cc D s)
  have s2 : 939524096 * 939524096 ≤ -s 2 * -s 2 := Int.mul_le_mul (by omega) (by omega) (by decide) (by omega)
  have n : -s 2 * -s 2 = s 2 * s 2 := by grind
  have a := Int.mul_le_mul (show 4 * vv D ≤ 70368777732100 from k.u) (show vv s - s 2 * s 2 ≤ 1073741848 * 1073741848 - 939524096 * 939524096 by omega) (by
    have : vv s = s 0 * s 0 + s 1 * s 1 + s 2 * s 2 := rfl
    have := sq_nn (s 0)
    have := sq_nn (s 1)
    omega) (by decide)
  exact (abs_le_of_sq (x := ww D s) (p := 4400000000000000) (by decide) (by omega)).2
theorem Law.behind (h : Law D s t) (k : Tk D) (hs : s 2 ≤ -939524096) : ww D s + 120000000000000 ≤ ww D t := by
  obtain ⟨_, ⟨x, _⟩, _⟩ := h.u3 k
  obtain ⟨w1, w2⟩ := ww_le k h.su
  have l := k.l
  have u := k.u
  generalize ww D s = w at *
  generalize ww D t = w' at *
  generalize 4 * vv D = m at *
  generalize s 2 = c at *
  have p1 : m * (2 * w + 2147483648 * c) ≤ m * (2 * 9007298240317600 - 2147483648 * 939524096) := Int.mul_le_mul_of_nonneg_left (by omega) (by omega)
  have e1 : m * (2 * w + 2147483648 * c) = 2 * (m * w) + 2147483648 * (m * c) := by grind
  have e2 : (1152921504606846976 + m) * w' - ((1152921504606846976 - m) * w - 2147483648 * (m * c)) = (1152921504606846976 + m) * (w' - w) + (2 * (m * w) + 2147483648 * (m * c)) := by grind
  rw [e2] at x
  apply Classical.byContradiction; intro hc
  have p2 := Int.mul_le_mul_of_nonneg_left (show w' - w ≤ 120000000000000 by omega) (show 0 ≤ 1152921504606846976 + m by omega)
  omega
theorem Law.gain (h : Law D s t) (k : Tk D) (h7 : s 2 ≤ 939524096) (h0 : 0 ≤ ww D s) : s 2 - 115000 ≤ t 2 ∧ ∀ {K W I : Int}, s 2 ≤ K → 0 ≤ K → W ≤ ww D s → 0 ≤ I → (I + 43) * (1152921504606846976 + 70368777732100) + 2 * (70368777732100 * K) ≤ 2147483648 * W → s 2 + I ≤ t 2 := by
  obtain ⟨⟨x, _⟩, _⟩ := h.u3 k
  have l := k.l
  have u := k.u
  generalize ww D s = w at *
  generalize 4 * vv D = m at *
  generalize s 2 = c at *
  generalize t 2 = c' at *
  have e2 : (1152921504606846976 + m) * c' - ((1152921504606846976 - m) * c + 2147483648 * w) = (1152921504606846976 + m) * (c' - c) + 2 * (m * c) - 2147483648 * w := by grind
  rw [e2] at x
  refine ⟨?_, fun {K W I} h1 h2 h3 h4 h5 => ?_⟩
  · apply Classical.byContradiction; intro hc
    have p1 := Int.mul_le_mul_of_nonneg_left (show c' - c ≤ -115001 by omega) (show 0 ≤ 1152921504606846976 + m by omega)
    have p2 : m * c ≤ m * 939524096 := Int.mul_le_mul_of_nonneg_left h7 (by omega)
    omega
  · apply Classical.byContradiction; intro hc
    have p1 := Int.mul_le_mul_of_nonneg_left (show c' - c ≤ I - 1 by omega) (show 0 ≤ 1152921504606846976 + m by omega)
    have p2 : m * c ≤ m * K := Int.mul_le_mul_of_nonneg_left h1 (by omega)
    have p3 : m * K ≤ 70368777732100 * K := Int.mul_le_mul_of_nonneg_right u h2
    have p4 : (I + 43) * (1152921504606846976 + m) ≤ (I + 43) * (1152921504606846976 + 70368777732100) := Int.mul_le_mul_of_nonneg_left (by omega) (by omega)
    have p5 : (1152921504606846976 + m) * (I - 1) = (I + 43) * (1152921504606846976 + m) - 44 * (1152921504606846976 + m) := by grind
    omega
theorem Law.stays (h : Law D s t) (k : Tk D) (h7 : s 2 ≤ 939524096) (h0 : 3600000000000000 ≤ ww D s) : 0 ≤ ww D t := by
  obtain ⟨_, ⟨x, _⟩, _⟩ := h.u3 k
  have l := k.l
  have u := k.u
  generalize ww D s = w at *
  generalize ww D t = w' at *
  generalize 4 * vv D = m at *
  generalize s 2 = c at *
  apply Classical.byContradiction; intro hc
  have p1 : (1152921504606846976 + m) * w' ≤ 0 := by
    have := Int.mul_le_mul_of_nonneg_left (show w' ≤ 0 by omega) (show 0 ≤ 1152921504606846976 + m by omega)
    omega
  have p2 : m * c ≤ m * 939524096 := Int.mul_le_mul_of_nonneg_left h7 (by omega)
  have p3 : (1152921504606846976 - m) * 3600000000000000 ≤ (1152921504606846976 - m) * w := Int.mul_le_mul_of_nonneg_left h0 (by omega)
  omega
end Go.Proofs.Ytkmelddejdikgaa
namespace Go.Proofs.Ytkmelddejdikgaa
open Go.RowKit PM Dt
theorem scale_eq {A : Nat → Int} (hA : ∀ i, i < 3 → -1073741824 ≤ A i ∧ A i ≤ 1073741824) : ∀ i, i < 3 → vscaleF A 4194304 i = (A i + 128) / 256 := fun i hi => by
  have kA : okV A = true := (okV_iff _).2 fun i hi => (vb_iff _).2 (by have := hA i hi; omega)
  have e : ∀ i, ratioQ (A i) 4194304 1073741824 = (A i + 128) / 256 := fun i => by
    unfold ratioQ nearest
    rw [if_neg (by decide)]; omega
  have f := fun i (hi : i < 3) => fit_of (q := (A i + 128) / 256) (by have := hA i hi; omega) (by have := hA i hi; omega)
  have eX : ∀ i, i < 3 → scX A 4194304 i = (A i + 128) / 256 := fun i hi => by
    show ratioV (A i) 4194304 1073741824 = _
    unfold ratioV
    rw [if_neg (by decide), e]; exact (f i hi).1
  have eE : ∀ i, i < 3 → scE A 4194304 i = 0 := fun i hi => by
    show ratioE (A i) 4194304 1073741824 = _
    unfold ratioE
    rw [if_neg (by decide), e]; exact (f i hi).2
  have g : goodE (scX A 4194304) (scE A 4194304) = true := (goodE_iff _ _).2 fun i hi => ⟨eE i hi, (vb_iff _).2 (by rw [eX i hi]; have := hA i hi; omega)⟩
  unfold vscaleF eachF
  rw [kA, g]
  exact eX i hi
theorem Tk.of {A : Nat → Int} (hA : ∀ i, i < 3 → -1073741824 ≤ A i ∧ A i ≤ 1073741824) (z : A 2 = 0) (l : 1073741823 * 1073741823 ≤ vv A) (u : vv A < 1073741825 * 1073741825) : Tk (vscaleF A 4194304) := by
  have e := scale_eq hA
  generalize vscaleF A 4194304 = T at *
  have e0 := e 0 (by omega)
  have e1 := e 1 (by omega)
  have e2 := e 2 (by omega)
  rw [z] at e2
  have z2 : T 2 = 0 := e2
  have r0 : -128 ≤ 256 * T 0 - A 0 ∧ 256 * T 0 - A 0 ≤ 128 := by omega
  have r1 : -128 ≤ 256 * T 1 - A 1 ∧ 256 * T 1 - A 1 ≤ 128 := by omega
  have q0 := (bmul r0.1 r0.2 r0.1 r0.2).2
  have q1 := (bmul r1.1 r1.2 r1.1 r1.2).2
  have hA2 : vv A = A 0 * A 0 + A 1 * A 1 + 0 * 0 := by unfold vv; rw [z]
  have hT2 : vv T = T 0 * T 0 + T 1 * T 1 := by unfold vv; rw [z2]; omega
  have eT : 256 * T 0 * (256 * T 0) + 256 * T 1 * (256 * T 1) + 0 * 0 = 65536 * vv T := by rw [hT2]; grind
  have n : ∀ a : Int, -a * -a = a * a := fun a => by grind
  refine ⟨z2, fun i hi => ?_, ?_, ?_⟩
  · have := e i hi
    have := hA i hi
    omega
  · apply Classical.byContradiction; intro hc
    have t := tri3 (x0 := 256 * T 0) (x1 := 256 * T 1) (x2 := 0) (y0 := -(256 * T 0 - A 0)) (y1 := -(256 * T 1 - A 1)) (y2 := 0) (X := 1073741569) (Y := 182) (by decide) (by decide) (by rw [eT]; omega) (by rw [n, n]; omega)
    have y : ∀ a b : Int, a + -(a - b) = b := fun a b => by omega
    rw [y, y] at t
    omega
  · have t := tri3 (x0 := A 0) (x1 := A 1) (x2 := 0) (y0 := 256 * T 0 - A 0) (y1 := 256 * T 1 - A 1) (y2 := 0) (X := 1073741825) (Y := 182) (by decide) (by decide) (by omega) (by omega)
    have y : ∀ a b : Int, a + (b - a) = b := fun a b => by omega
    rw [y, y] at t
    have : (0 : Int) + 0 = 0 := rfl
    rw [this, eT] at t
    omega
theorem shft_sgn (n : Nat) (i : Nat) : ∀ (k : Nat) (f : Nat → Int), (0 ≤ f i → 0 ≤ shft n k f i) ∧ (f i ≤ 0 → shft n k f i ≤ 0)
  | 0, f => ⟨id, id⟩
  | k + 1, f => by
    unfold shft
    split
    · obtain ⟨a, b⟩ := shft_sgn n i k (dbl f)
      have e : dbl f i = f i * 2 ∨ dbl f i = 2 * f i := by unfold dbl; first | exact .inl rfl | exact .inr rfl
      exact ⟨fun h => a (by omega), fun h => b (by omega)⟩
    · exact ⟨id, id⟩
theorem ratio_sgn {a c : Int} (hc : 0 ≤ c) : (0 ≤ a → 0 ≤ ratioV a 1073741824 c) ∧ (a ≤ 0 → ratioV a 1073741824 c ≤ 0) := by
  unfold ratioV
  split
  · exact ⟨fun _ => by decide, fun _ => by decide⟩
  · have e : ratioQ a 1073741824 c = (2 * (a * 1073741824) + c) / (2 * c) := by unfold ratioQ nearest; rw [if_neg (by omega)]
    unfold fitV
    rw [e]
    split
    · refine ⟨fun h => Int.ediv_nonneg (by omega) (by omega), fun h => ?_⟩
      have : (2 * (a * 1073741824) + c) / (2 * c) < 1 := Int.ediv_lt_of_lt_mul (by omega) (by omega)
      omega
    · exact ⟨fun _ => by decide, fun _ => by decide⟩
theorem vun_sgn {f : Nat → Int} (hk : okV f = true) (hz : zV f = false) (i : Nat) : (0 ≤ f i → 0 ≤ vunF f i) ∧ (f i ≤ 0 → vunF f i ≤ 0) := by
  have hu : vunF f = vuX f := by unfold vunF; rw [hk, hz]; rfl
  rw [hu]
  obtain ⟨a, b⟩ := shft_sgn 3 i 45 f
  have hc : 0 ≤ fitV (n3 (shft 3 45 f)) := by
    unfold fitV
    split
    · exact Int.natCast_nonneg _
    · decide
  obtain ⟨p, q⟩ := ratio_sgn (a := shft 3 45 f i) hc
  exact ⟨fun h => p (a h), fun h => q (b h)⟩
structure Ax (A s : Nat → Int) : Prop where
  n : zV A = false
  k : Tk (vscaleF A 4194304)
  c : -141000000000000 ≤ cc (vscaleF A 4194304) s ∧ cc (vscaleF A 4194304) s ≤ 141000000000000
  w : -141000000000000 ≤ ww (vscaleF A 4194304) s
theorem Ax.of {s : Nat → Int} (su : vv s ≤ 1073741848 * 1073741848) : Ax (acrF s) s := by
  have b := fun i (hi : i < 3) => vv_comp (v := s) (by decide) su hi
  have b0 := b 0 (by omega)
  have b1 := b 1 (by omega)
  have hA := acr_le s
  have e := scale_eq hA
  have e0 := e 0 (by omega)
  have e1 := e 1 (by omega)
  have e2 := e 2 (by omega)
  cases hn : acrN s with
  | true =>
    have h3 : s 0 < 16777216 ∧ -s 0 < 16777216 ∧ s 1 < 16777216 ∧ -s 1 < 16777216 := by
      unfold acrN at hn
      have := of_decide_eq_true hn
      simp only [List.foldl, mx] at this
      split at this <;> (try split at this) <;> (try split at this) <;> (try split at this) <;> (try split at this) <;> (try split at this) <;> (try split at this) <;> omega
    have ea : acrF s = of3 1073741824 0 0 := by unfold acrF; rw [hn]; rfl
    rw [ea] at hA e0 e1 e2 ⊢
    have f0 : vscaleF (of3 1073741824 0 0) 4194304 0 = 4194304 := by rw [e0]; decide
    have f1 : vscaleF (of3 1073741824 0 0) 4194304 1 = 0 := by rw [e1]; decide
    refine ⟨by decide, Tk.of hA rfl (by decide) (by decide), ?_, ?_⟩
    · unfold cc; rw [f0, f1]; omega
    · unfold ww; rw [f0, f1]; omega
  | false =>
    have ea : acrF s = vunF (acrX s) := by unfold acrF; rw [hn]; rfl
    have x0 : acrX s 0 = -s 1 := rfl
    have x1 : acrX s 1 = s 0 := rfl
    have x2 : acrX s 2 = 0 := rfl
    have hk : okV (acrX s) = true := (okV_iff _).2 fun i hi => (vb_iff _).2 (by
      rcases (show i = 0 ∨ i = 1 ∨ i = 2 by omega) with rfl | rfl | rfl
      · rw [x0]; omega
      · rw [x1]; omega
      · rw [x2]; omega)
    have hz : zV (acrX s) = false := by
      rw [Bool.eq_false_iff]; intro hc
      have z := fun i (hi : i < 3) => (show acrX s i = 0 from beq_iff_eq.1 (by unfold zV at hc; exact List.all_eq_true.1 hc i (List.mem_range.2 hi)))
      have z0 := z 0 (by omega)
      have z1 := z 1 (by omega)
      rw [x0] at z0
      rw [x1] at z1
      have z0 : s 1 = 0 := by omega
      unfold acrN at hn
      rw [z0, z1] at hn
      exact absurd hn (by decide)
    rw [ea] at hA e0 e1 e2 ⊢
    obtain ⟨_, _, ⟨N, P, hN, hd⟩, ul, uu⟩ := vun_core hk hz
    have g0 := vun_sgn hk hz 0
    have g1 := vun_sgn hk hz 1
    have g2 := vun_sgn hk hz 2
    obtain ⟨d0, h0, hd0⟩ := hd 0 (by omega)
    obtain ⟨d1, h1, hd1⟩ := hd 1 (by omega)
    rw [x0] at g0 h0
    rw [x1] at g1 h1
    rw [x2] at g2
    have cl := cross_left (a1 := 1073741848) (a2 := 1073741848) (by omega) h0 h1 hd0 hd1 (by omega) (by omega)
    have zA : vunF (acrX s) 2 = 0 := by
      have p := g2.1 (by decide)
      have q := g2.2 (by decide)
      omega
    have K : Tk (vscaleF (vunF (acrX s)) 4194304) := Tk.of hA zA ul uu
    suffices G : (-141000000000000 ≤ cc (vscaleF (vunF (acrX s)) 4194304) s ∧ cc (vscaleF (vunF (acrX s)) 4194304) s ≤ 141000000000000) ∧ -141000000000000 ≤ ww (vscaleF (vunF (acrX s)) 4194304) s by
      refine ⟨?_, K, G.1, G.2⟩
      rw [Bool.eq_false_iff]; intro hc
      have z := fun i (hi : i < 3) => (show vunF (acrX s) i = 0 from beq_iff_eq.1 (by unfold zV at hc; exact List.all_eq_true.1 hc i (List.mem_range.2 hi)))
      rw [z 0 (by omega), z 1 (by omega), z 2 (by omega)] at ul
      exact absurd ul (by decide)
    clear K
    generalize vscaleF (vunF (acrX s)) 4194304 = T at *
    generalize vunF (acrX s) = A at *
    have r0 : -128 ≤ 256 * T 0 - A 0 ∧ 256 * T 0 - A 0 ≤ 128 := by omega
    have r1 : -128 ≤ 256 * T 1 - A 1 ∧ 256 * T 1 - A 1 ≤ 128 := by omega
    have p0 := bmul (P := 128) (R := 1073741848) r0.1 r0.2 b0.1 b0.2
    have p1 := bmul (P := 128) (R := 1073741848) r1.1 r1.2 b1.1 b1.2
    have q0 : (256 * T 0 - A 0) * s 0 = 256 * (T 0 * s 0) - A 0 * s 0 := by grind
    have q1 : (256 * T 1 - A 1) * s 1 = 256 * (T 1 * s 1) - A 1 * s 1 := by grind
    have q2 : A 1 * -s 1 = -(A 1 * s 1) := by grind
    rw [q0] at p0
    rw [q1] at p1
    rw [q2] at cl
    refine ⟨?_, ?_⟩
    · unfold cc; omega
    · have w0 : 0 ≤ -(T 0 * s 1) := by
        have x : -(T 0 * s 1) = T 0 * -s 1 := by grind
        have y : -(T 0 * s 1) = -T 0 * s 1 := by grind
        rcases Int.le_total 0 (-s 1) with h | h
        · rw [x]; exact Int.mul_nonneg (by have := g0.1 h; omega) h
        · rw [y]; exact Int.mul_nonneg (by have := g0.2 h; omega) (by omega)
      have w1 : 0 ≤ T 1 * s 0 := by
        have y : T 1 * s 0 = -T 1 * -s 0 := by grind
        rcases Int.le_total 0 (s 0) with h | h
        · exact Int.mul_nonneg (by have := g1.1 h; omega) h
        · rw [y]; exact Int.mul_nonneg (by have := g1.2 h; omega) (by omega)
      unfold ww; omega
end Go.Proofs.Ytkmelddejdikgaa
namespace Go.Proofs.Ytkmelddejdikgaa
open Go.RowKit PM Dt
def gU (c : Int) : Int := if c < -805306368 then 6673558 else if c < -671088640 then 10062779 else if c < -536870912 then 12231487 else if c < -268435456 then 13761879 else if c < 0 then 15586684 else if c < 268435456 then 15517135 else if c < 536870912 then 13627637 else if c < 671088640 then 12065366 else if c < 805306368 then 9865363 else if c < 872415232 then 8385097 else 6673558
def fU : Nat → Int
  | 0 => -939524096
  | k + 1 => fU k + gU (fU k)
theorem fU_end : 939524096 ≤ fU 161 := by decide +kernel
theorem gU_nn (c : Int) : 0 ≤ gU c := by unfold gU; repeat' split <;> try decide
theorem fU_nn : ∀ k, -939524096 ≤ fU k
  | 0 => by decide
  | k + 1 => by have := fU_nn k; have := gU_nn (fU k); show -939524096 ≤ fU k + gU (fU k); omega
variable {D s t T : Nat → Int}
theorem ww_pos (k : Tk T) (sl : 1073741800 * 1073741800 ≤ vv s) {K W : Int} (h1 : -K ≤ s 2) (h2 : s 2 ≤ K) (hc : -2394000000000000 ≤ cc T s ∧ cc T s ≤ 2394000000000000) (hK : K * K ≤ 1073741800 * 1073741800)
    (hW : W * W + 2394000000000000 * 2394000000000000 ≤ 70368710623232 * (1073741800 * 1073741800 - K * K)) (hW0 : 0 ≤ W) (h0 : -W < ww T s) : W ≤ ww T s := by
  have b := ww_big k sl h1 h2 hc hK hW
  rcases Int.le_total 0 (ww T s) with h | h
  · apply Classical.byContradiction; intro hn
    have := Int.mul_le_mul (show ww T s ≤ W - 1 by omega) (show ww T s ≤ W - 1 by omega) h (by omega)
    have e : (W - 1) * (W - 1) = W * W - 2 * W + 1 := by grind
    omega
  · apply Classical.byContradiction; intro hn
    have := Int.mul_le_mul (show -ww T s ≤ W - 1 by omega) (show -ww T s ≤ W - 1 by omega) (by omega) (by omega)
    have e : (W - 1) * (W - 1) = W * W - 2 * W + 1 := by grind
    have e2 : -ww T s * -ww T s = ww T s * ww T s := by grind
    omega
theorem sun_up (h : Law T s t) (k : Tk T) (hc : -2394000000000000 ≤ cc T s ∧ cc T s ≤ 2394000000000000) (h0 : 0 ≤ ww T s) {j : Nat} (hl : fU j ≤ s 2) (h7 : s 2 < 939524096) : fU (j + 1) ≤ t 2 ∧ 0 ≤ ww T t := by
  have nn := fU_nn j
  have g := h.gain k (by omega) h0
  have big := ww_pos k h.sl (K := 939524096) (W := 3644655033018090) (by omega) (by omega) hc (by decide) (by decide) (by decide) (by omega)
  refine ⟨?_, h.stays k (by omega) (by omega)⟩
  have pc : ∀ a b I K W : Int, a ≤ fU j → fU j < b → -K ≤ a → b + I + 115000 ≤ K ∨ 939524096 ≤ K → K * K ≤ 1073741800 * 1073741800 → W * W + 2394000000000000 * 2394000000000000 ≤ 70368710623232 * (1073741800 * 1073741800 - K * K) → 0 ≤ W → 0 ≤ I ∧ 0 ≤ K → (I + 43) * (1152921504606846976 + 70368777732100) + 2 * (70368777732100 * K) ≤ 2147483648 * W → fU j + I ≤ t 2 := fun a b I K W a1 a2 a3 a4 a5 a6 a7 a8 a9 => by
    by_cases hx : fU j + I + 115000 ≤ s 2
    · have := g.1
      omega
    · have w := ww_pos k h.sl (K := K) (W := W) (by omega) (by omega) hc a5 a6 a7 (by
        by_cases hz : W = 0
        · omega
        · omega)
      have := g.2 (K := K) (W := W) (I := I) (by omega) a8.2 w a8.1 a9
      omega
  show fU j + gU (fU j) ≤ t 2
  unfold gU
  split
  · exact pc (-939524096) (-805306368) 6673558 939524096 3644655033018090 (by omega) (by assumption) (by decide) (by decide) (by decide) (by decide) (by decide) (by decide) (by decide)
  split
  · exact pc (-805306368) (-671088640) 10062779 805306368 5455543992550444 (by omega) (by assumption) (by decide) (by decide) (by decide) (by decide) (by decide) (by decide) (by decide)
  split
  · exact pc (-671088640) (-536870912) 12231487 671088640 6611135319146913 (by omega) (by assumption) (by decide) (by decide) (by decide) (by decide) (by decide) (by decide) (by decide)
  split
  · exact pc (-536870912) (-268435456) 13761879 536870912 7424012403677652 (by omega) (by assumption) (by decide) (by decide) (by decide) (by decide) (by decide) (by decide) (by decide)
  split
  · exact pc (-268435456) (0) 15586684 268435456 8386164803957973 (by omega) (by assumption) (by decide) (by decide) (by decide) (by decide) (by decide) (by decide) (by decide)
  split
  · exact pc (0) (268435456) 15517135 284068596 8349847861141282 (by omega) (by assumption) (by decide) (by decide) (by decide) (by decide) (by decide) (by decide) (by decide)
  split
  · exact pc (268435456) (536870912) 13627637 550614560 7352838104246600 (by omega) (by assumption) (by decide) (by decide) (by decide) (by decide) (by decide) (by decide) (by decide)
  split
  · exact pc (536870912) (671088640) 12065366 683270021 6522742530190653 (by omega) (by assumption) (by decide) (by decide) (by decide) (by decide) (by decide) (by decide) (by decide)
  split
  · exact pc (671088640) (805306368) 9865363 815287752 5350204857779415 (by omega) (by assumption) (by decide) (by decide) (by decide) (by decide) (by decide) (by decide) (by decide)
  split
  · exact pc (805306368) (872415232) 8385097 880916356 4559745803840881 (by omega) (by assumption) (by decide) (by decide) (by decide) (by decide) (by decide) (by decide) (by decide)
  exact pc (872415232) (939524096) 6673558 939524096 3644655033018090 (by omega) (by omega) (by decide) (by decide) (by decide) (by decide) (by decide) (by decide) (by decide)
def Ramp (j : Int) (D T : Nat → Int) : Prop := ∀ i, i < 3 → ((0 ≤ D i ∧ D i ≤ T i) ∨ (T i ≤ D i ∧ D i ≤ 0)) ∧ ((-(4194304 - 262144 * j) ≤ T i - D i ∧ T i - D i ≤ 4194304 - 262144 * j) ∨ D i = T i)
theorem Ramp.zero (k : Tk T) : Ramp 0 (fun _ => 0) T := fun i hi => by
  have := k.b i hi
  show ((0 ≤ (0 : Int) ∧ 0 ≤ T i) ∨ (T i ≤ 0 ∧ (0 : Int) ≤ 0)) ∧ ((_ ≤ T i - 0 ∧ T i - 0 ≤ _) ∨ 0 = T i)
  omega
theorem Ramp.step {j : Int} {D2 : Nat → Int} (h : Ramp j D T) (e : ∀ i, i < 3 → D2 i = D i + clampV (T i - D i) (-262144) 262144) : Ramp (j + 1) D2 T := fun i hi => by
  obtain ⟨a, b⟩ := h i hi
  have c := clampR_two (T i - D i)
  have := e i hi
  omega
theorem Ramp.end (h : Ramp 16 D T) : ∀ i, i < 3 → D i = T i := fun i hi => by
  obtain ⟨a, b⟩ := h i hi
  omega
def Btw (D T : Nat → Int) : Prop := ∀ i, i < 3 → (0 ≤ D i ∧ D i ≤ T i) ∨ (T i ≤ D i ∧ D i ≤ 0)
theorem Btw.vv (h : Btw D T) : vv D ≤ vv T := by
  have sq : ∀ i, i < 3 → D i * D i ≤ T i * T i := fun i hi => by
    rcases h i hi with ⟨a, b⟩ | ⟨a, b⟩
    · exact Int.mul_le_mul b b a (by omega)
    · have := Int.mul_le_mul (show -D i ≤ -T i by omega) (show -D i ≤ -T i by omega) (by omega) (by omega)
      have e : ∀ a : Int, -a * -a = a * a := fun a => by grind
      rw [e, e] at this
      exact this
  have s0 := sq 0 (by omega)
  have s1 := sq 1 (by omega)
  have s2 := sq 2 (by omega)
  unfold Go.Proofs.Ytkmelddejdikgaa.vv
  omega
theorem up_move (k : Tk T) (hb : Btw D T) (h : Law D s t) : (-140743352002992 ≤ cc T t - cc T s ∧ cc T t - cc T s ≤ 140743352002992) ∧ -140743352002992 ≤ ww T t - ww T s := by
  have hv := hb.vv
  have ku := k.u
  have m := h.move (L := 8388624) (K := 16777883) (by decide) (by omega) (by omega) (by decide)
  have z := k.z
  have kT : T 0 * T 0 + T 1 * T 1 + 0 * 0 = vv T := by unfold vv; rw [z]
  have m0 := sq_nn (t 0 - s 0)
  have m1 := sq_nn (t 1 - s 1)
  have m2 := sq_nn (t 2 - s 2)
  have hT := vv_nn T
  have p : (T 0 * T 0 + T 1 * T 1 + 0 * 0) * ((t 0 - s 0) * (t 0 - s 0) + (t 1 - s 1) * (t 1 - s 1) + (t 2 - s 2) * (t 2 - s 2)) ≤ 17592252776448 * (16777883 * 16777883) := by
    rw [kT]; exact Int.mul_le_mul (by omega) m (by omega) (by decide)
  constructor
  · have c := cauchy3 (T 0) (T 1) 0 (t 0 - s 0) (t 1 - s 1) (t 2 - s 2)
    have a := abs_le_of_sq (x := T 0 * (t 0 - s 0) + T 1 * (t 1 - s 1) + 0 * (t 2 - s 2)) (p := 70371676001496) (by decide) (by omega)
    have e : cc T t - cc T s = 2 * (T 0 * (t 0 - s 0) + T 1 * (t 1 - s 1) + 0 * (t 2 - s 2)) := by unfold cc; grind
    omega
  · have c := cauchy3 (T 1) (-T 0) 0 (t 0 - s 0) (t 1 - s 1) (t 2 - s 2)
    have n : T 1 * T 1 + -T 0 * -T 0 + 0 * 0 = T 0 * T 0 + T 1 * T 1 + 0 * 0 := by grind
    rw [n] at c
    have a := abs_le_of_sq (x := T 1 * (t 0 - s 0) + -T 0 * (t 1 - s 1) + 0 * (t 2 - s 2)) (p := 70371676001496) (by decide) (by omega)
    have e : ww T t - ww T s = 2 * (T 1 * (t 0 - s 0) + -T 0 * (t 1 - s 1) + 0 * (t 2 - s 2)) := by unfold ww; grind
    omega
def bD : Nat → Int
  | 0 => 939524096
  | j + 1 => bD j - (1048612 * (15 - (j : Int)) + 91)
theorem bD_le : ∀ j, j < 17 → 805306368 ≤ bD j := by decide
def bE (j : Nat) : Int := if j = 16 then 805306368 else bD j
theorem bE_le {j : Nat} (h : j ≤ 16) : 805306368 ≤ bE j ∧ bE j ≤ bD j := by
  have := bD_le j (by omega)
  unfold bE
  split <;> omega
structure DnB (j : Nat) (D N : Nat → Int) : Prop where
  jl : j ≤ 16
  n : ∀ i, i < 3 → 0 ≤ N i ∧ N i ≤ 4194304
  v : vv N ≤ 17592194433025
  d : ∀ i, i < 3 → -((16 - (j : Int)) * N i) ≤ 16 * D i ∧ 16 * D i ≤ (16 - (j : Int)) * N i
theorem DnB.start (k : Tk T) (hb : Btw D T) : DnB 0 D fun i => if T i < 0 then -T i else T i := by
  refine ⟨by omega, fun i hi => ?_, ?_, fun i hi => ?_⟩
  · have := k.b i hi
    show 0 ≤ (if T i < 0 then -T i else T i) ∧ (if T i < 0 then -T i else T i) ≤ 4194304
    split <;> omega
  · have e : ∀ i, (if T i < 0 then -T i else T i) * (if T i < 0 then -T i else T i) = T i * T i := fun i => by
      split
      · grind
      · rfl
    have : vv (fun i => if T i < 0 then -T i else T i) = vv T := by unfold vv; simp only [e]
    rw [this]
    have := k.u
    omega
  · have := hb i hi
    show -((16 - ((0 : Nat) : Int)) * (if T i < 0 then -T i else T i)) ≤ 16 * D i ∧ 16 * D i ≤ (16 - ((0 : Nat) : Int)) * (if T i < 0 then -T i else T i)
    split <;> omega
theorem DnB.vv {j : Nat} {N : Nat → Int} (h : DnB j D N) : 4 * vv D ≤ (524289 * (16 - (j : Int))) * (524289 * (16 - (j : Int))) ∧ Go.Proofs.Ytkmelddejdikgaa.vv D ≤ 17592202821632 := by
  have hj := h.jl
  have sq : ∀ i, i < 3 → 256 * (D i * D i) ≤ (16 - (j : Int)) * (16 - (j : Int)) * (N i * N i) := fun i hi => by
    obtain ⟨a, b⟩ := h.d i hi
    have p := (bmul a b a b).2
    have e1 : 16 * D i * (16 * D i) = 256 * (D i * D i) := by grind
    have e2 : (16 - (j : Int)) * N i * ((16 - (j : Int)) * N i) = (16 - (j : Int)) * (16 - (j : Int)) * (N i * N i) := by grind
    rw [e1, e2] at p
    exact p
  have s0 := sq 0 (by omega)
  have s1 := sq 1 (by omega)
  have s2 := sq 2 (by omega)
  have q := Int.mul_le_mul_of_nonneg_left h.v (show 0 ≤ (16 - (j : Int)) * (16 - (j : Int)) from sq_nn _)
  have e : (16 - (j : Int)) * (16 - (j : Int)) * Go.Proofs.Ytkmelddejdikgaa.vv N = (16 - (j : Int)) * (16 - (j : Int)) * (N 0 * N 0) + (16 - (j : Int)) * (16 - (j : Int)) * (N 1 * N 1) + (16 - (j : Int)) * (16 - (j : Int)) * (N 2 * N 2) := by unfold Go.Proofs.Ytkmelddejdikgaa.vv; grind
  have e2 : (524289 * (16 - (j : Int))) * (524289 * (16 - (j : Int))) = 274878955521 * ((16 - (j : Int)) * (16 - (j : Int))) := by grind
  have hJ : (16 - (j : Int)) * (16 - (j : Int)) ≤ 256 := Int.mul_le_mul (show 16 - (j : Int) ≤ 16 by omega) (show 16 - (j : Int) ≤ 16 by omega) (by omega) (by decide)
  have hJ0 : 0 ≤ (16 - (j : Int)) * (16 - (j : Int)) := sq_nn _
  rw [e2]
  have eD : Go.Proofs.Ytkmelddejdikgaa.vv D = D 0 * D 0 + D 1 * D 1 + D 2 * D 2 := rfl
  generalize (16 - (j : Int)) * (16 - (j : Int)) = J at *
  omega
theorem DnB.step {j : Nat} {N D2 : Nat → Int} (h : DnB j D N) (hj : j < 16) (e : ∀ i, i < 3 → D2 i = D i + clampV (0 - D i) (-262144) 262144) : DnB (j + 1) D2 N := by
  refine ⟨by omega, h.n, h.v, fun i hi => ?_⟩
  obtain ⟨a, b⟩ := h.d i hi
  have n := h.n i hi
  have c := clampR_two (0 - D i)
  have := e i hi
  have x : (16 - ((j + 1 : Nat) : Int)) * N i = (16 - (j : Int)) * N i - N i := by
    have : (16 - ((j + 1 : Nat) : Int)) = (16 - (j : Int)) - 1 := by omega
    rw [this]; grind
  have y : 0 ≤ (16 - ((j + 1 : Nat) : Int)) * N i := Int.mul_nonneg (by omega) n.1
  rw [x] at y ⊢
  generalize (16 - (j : Int)) * N i = p at *
  omega
theorem DnB.end {N : Nat → Int} (h : DnB 16 D N) : ∀ i, i < 3 → D i = 0 := fun i hi => by
  have := h.d i hi
  have e : (16 - ((16 : Nat) : Int)) = 0 := rfl
  rw [e] at this
  omega
theorem dn_step {j : Nat} {N D2 : Nat → Int} (h : DnB j D N) (hs : bE j ≤ s 2) (e : ∀ i, i < 3 → D2 i = D i + clampV (0 - D i) (-262144) 262144) (hl : Go.Proofs.Ytkmelddejdikgaa.vv D2 ≤ 17592202821632 → Law D2 s t) (h0 : (∀ i, i < 3 → D2 i = 0) → t 2 = s 2) :
    ∃ j', DnB j' D2 N ∧ bE j' ≤ t 2 := by
  by_cases hj : j < 16
  · have k := h.step hj e
    obtain ⟨v1, v2⟩ := k.vv
    have m := (hl v2).move (L := 524289 * (16 - ((j + 1 : Nat) : Int))) (K := 1048612 * (16 - ((j + 1 : Nat) : Int)) + 91) (by omega) v1 v2 (by omega)
    have m0 := sq_nn (t 0 - s 0)
    have m1 := sq_nn (t 1 - s 1)
    have a := abs_le_of_sq (x := t 2 - s 2) (p := 1048612 * (16 - ((j + 1 : Nat) : Int)) + 91) (by omega) (by omega)
    refine ⟨j + 1, k, ?_⟩
    have x := (bE_le k.jl).2
    have y : bD (j + 1) = bD j - (1048612 * (15 - (j : Int)) + 91) := rfl
    have z : bE j = bD j := by unfold bE; rw [if_neg (by omega)]
    omega
  · obtain rfl : j = 16 := by have := h.jl; omega
    have z := h.end
    have z2 : ∀ i, i < 3 → D2 i = 0 := fun i hi => by
      have := clampR_two (0 - D i)
      rw [e i hi, z i hi] at *
      omega
    refine ⟨16, ⟨by omega, h.n, h.v, fun i hi => ?_⟩, ?_⟩
    · rw [z2 i hi]
      have e : (16 - ((16 : Nat) : Int)) = 0 := rfl
      rw [e]; omega
    · rw [h0 z2]; exact hs
end Go.Proofs.Ytkmelddejdikgaa
namespace Go.Proofs.Ytkmelddejdikgaa
open Go.RowKit PM Dt
def axT (A : Nat → Int) : Nat → Int := vscaleF A 4194304
def Up (i j : Nat) (D A s : Nat → Int) : Prop := i ≤ 20 + j ∧ j ≤ 16 ∧ zV A = false ∧ Tk (axT A) ∧ Ramp j D (axT A) ∧ (-(141000000000000 + (j : Int) * 140743352002992) ≤ cc (axT A) s ∧ cc (axT A) s ≤ 141000000000000 + (j : Int) * 140743352002992) ∧ -(141000000000000 + (j : Int) * 140743352002992) ≤ ww (axT A) s
def F0 (i n : Nat) (D A s : Nat → Int) : Prop := i ≤ 36 + n ∧ n ≤ 57 ∧ zV A = false ∧ Tk (axT A) ∧ (∀ i, i < 3 → D i = axT A i) ∧ (-(2392893632047872 + (n : Int) * 721420288) ≤ cc (axT A) s ∧ cc (axT A) s ≤ 2392893632047872 + (n : Int) * 721420288) ∧ -2392893632047872 + (n : Int) * 120000000000000 ≤ ww (axT A) s
def F1 (i k : Nat) (D A s : Nat → Int) : Prop := i ≤ 93 + k ∧ k ≤ 161 ∧ zV A = false ∧ Tk (axT A) ∧ (∀ i, i < 3 → D i = axT A i) ∧ (-(2392934753004288 + (k : Int) * 721420288) ≤ cc (axT A) s ∧ cc (axT A) s ≤ 2392934753004288 + (k : Int) * 721420288) ∧ fU k ≤ s 2 ∧ 0 ≤ ww (axT A) s
def Dn (D A s : Nat → Int) : Prop := (∀ i, i < 3 → A i = 0) ∧ ∃ j N, DnB j D N ∧ bE j ≤ s 2
def Sn (i : Nat) (D A s : Nat → Int) : Prop := (∃ j, Up i j D A s) ∨ (∃ n, F0 i n D A s) ∨ (∃ k, F1 i k D A s) ∨ Dn D A s
variable {D s t A D2 : Nat → Int}
theorem axT_zero' {A : Nat → Int} (h : ∀ i, i < 3 → A i = 0) : ∀ i, i < 3 → axT A i = 0 := fun i hi => by
  unfold axT
  rw [scale_eq (A := A) (fun i hi => by rw [h i hi]; exact z0 (by decide)) i hi, h i hi]
  decide
theorem clamp_same (x : Int) : x + clampV (x - x) (-262144) 262144 = x := by
  have := clampR_two (x - x)
  omega
theorem dn_go (hA : ∀ i, i < 3 → A i = 0) {j : Nat} {N : Nat → Int} (k : DnB j D N) (b : bE j ≤ s 2) (e : ∀ i, i < 3 → D2 i = D i + clampV (axT A i - D i) (-262144) 262144) (hl : vv D2 ≤ 17592202821632 → Law D2 s t) (h0 : (∀ i, i < 3 → D2 i = 0) → t 2 = s 2) : Dn D2 A t := by
  obtain ⟨j', k2, b2⟩ := dn_step k b (fun i hi => by rw [e i hi, axT_zero' hA i hi]) hl h0
  exact ⟨hA, j', N, k2, b2⟩
theorem f1_step {i k : Nat} (h : F1 i k D A s) (h7 : s 2 < 939524096) (e : ∀ i, i < 3 → D2 i = D i + clampV (axT A i - D i) (-262144) 262144) (hl : vv D2 ≤ 17592202821632 → Law D2 s t) : ∃ k, F1 (i + 1) k D2 A t := by
  obtain ⟨i1, k1, n, K, d, c, f, w⟩ := h
  have d2 : ∀ i, i < 3 → D2 i = axT A i := fun i hi => by rw [e i hi, d i hi]; exact clamp_same _
  have u := K.u
  have ev : vv D2 = vv (axT A) := by unfold vv; rw [d2 0 (by omega), d2 1 (by omega), d2 2 (by omega)]
  have L := hl (by omega)
  have L : Law (axT A) s t := by
    have er : rq (mulF 2 D2) = rq (mulF 2 (axT A)) := by
      funext i
      unfold rq mulF
      rw [d2 0 (by omega), d2 1 (by omega), d2 2 (by omega)]
    refine ⟨?_, L.sl, L.su⟩
    rw [← er]; exact L.law
  have hk : k < 161 := by
    apply Classical.byContradiction; intro hc
    obtain rfl : k = 161 := by omega
    have := fU_end
    omega
  obtain ⟨_, _, c2⟩ := L.u3 K
  obtain ⟨a, b⟩ := sun_up L K (by omega) w f h7
  exact ⟨k + 1, by omega, by omega, n, K, d2, by omega, a, b⟩
theorem f0_step {i m : Nat} (h : F0 i m D A s) (h7 : s 2 < 939524096) (e : ∀ i, i < 3 → D2 i = D i + clampV (axT A i - D i) (-262144) 262144) (hl : vv D2 ≤ 17592202821632 → Law D2 s t) : Sn (i + 1) D2 A t := by
  obtain ⟨i1, m1, n, K, d, c, w⟩ := h
  have d2 : ∀ i, i < 3 → D2 i = axT A i := fun i hi => by rw [e i hi, d i hi]; exact clamp_same _
  have u := K.u
  have ev : vv D2 = vv (axT A) := by unfold vv; rw [d2 0 (by omega), d2 1 (by omega), d2 2 (by omega)]
  have L0 := hl (by omega)
  have L : Law (axT A) s t := by
    have er : rq (mulF 2 D2) = rq (mulF 2 (axT A)) := by
      funext i
      unfold rq mulF
      rw [d2 0 (by omega), d2 1 (by omega), d2 2 (by omega)]
    refine ⟨?_, L0.sl, L0.su⟩
    rw [← er]; exact L0.law
  obtain ⟨_, _, c2⟩ := L.u3 K
  by_cases h8 : s 2 ≤ -939524096
  · have we := ww_end K L.su h8
    have g := L.behind K h8
    exact .inr (.inl ⟨m + 1, by omega, by omega, n, K, d2, by omega, by omega⟩)
  · have wp := ww_pos K L.sl (K := 939524096) (W := 3644655033018090) (by omega) (by omega) (by omega) (by decide) (by decide) (by decide) (by omega)
    have f : F1 i 0 D A s := ⟨by omega, by omega, n, K, d, by omega, by show -939524096 ≤ _; omega, by omega⟩
    exact .inr (.inr (.inl (f1_step f h7 e hl)))
theorem up_step {i j : Nat} (h : Up i j D A s) (h7 : s 2 < 939524096) (e : ∀ i, i < 3 → D2 i = D i + clampV (axT A i - D i) (-262144) 262144) (hl : vv D2 ≤ 17592202821632 → Law D2 s t) : Sn (i + 1) D2 A t := by
  obtain ⟨i1, j1, n, K, r, c, w⟩ := h
  by_cases hj : j < 16
  · have r2 := r.step e
    have hb : Btw D2 (axT A) := fun i hi => (r2 i hi).1
    have u := K.u
    have hv := hb.vv
    obtain ⟨a, b⟩ := up_move K hb (hl (by omega))
    refine .inl ⟨j + 1, by omega, by omega, n, K, ?_, by omega, by omega⟩
    have : ((j + 1 : Nat) : Int) = (j : Int) + 1 := by omega
    rw [this]; exact r2
  · obtain rfl : j = 16 := by omega
    have f : F0 i 0 D A s := ⟨by omega, by omega, n, K, r.end, by omega, by omega⟩
    exact f0_step f h7 e hl
theorem off_step {i : Nat} (h : Sn i D A s) (h7 : 939524096 ≤ s 2) (e : ∀ i, i < 3 → D2 i = D i + clampV (axT (fun _ => 0) i - D i) (-262144) 262144) (hl : vv D2 ≤ 17592202821632 → Law D2 s t) (h0 : (∀ i, i < 3 → D2 i = 0) → t 2 = s 2) : Dn D2 (fun _ => 0) t := by
  have go : ∀ T, Tk T → Btw D T → Dn D2 (fun _ => 0) t := fun T K b => dn_go (j := 0) (fun _ _ => rfl) (DnB.start K b) h7 e hl h0
  have bt : ∀ {D T : Nat → Int}, (∀ i, i < 3 → D i = T i) → Btw D T := fun h i hi => by have := h i hi; omega
  rcases h with ⟨j, _, _, _, K, r, _⟩ | ⟨n, _, _, _, K, d, _⟩ | ⟨k, _, _, _, K, d, _⟩ | ⟨_, j, N, k, b⟩
  · exact go _ K fun i hi => (r i hi).1
  · exact go _ K (bt d)
  · exact go _ K (bt d)
  · exact dn_go (fun _ _ => rfl) k b e hl h0
theorem Sn.go {i : Nat} (h : Sn i D A s) (h7 : s 2 < 939524096) (e : ∀ i, i < 3 → D2 i = D i + clampV (axT A i - D i) (-262144) 262144) (hl : vv D2 ≤ 17592202821632 → Law D2 s t) (h0 : (∀ i, i < 3 → D2 i = 0) → t 2 = s 2) : Sn (i + 1) D2 A t := by
  rcases h with ⟨j, h⟩ | ⟨n, h⟩ | ⟨k, h⟩ | ⟨z, j, N, k, b⟩
  · exact up_step h h7 e hl
  · exact f0_step h h7 e hl
  · exact .inr (.inr (.inl (f1_step h h7 e hl)))
  · exact .inr (.inr (.inr (dn_go z k b e hl h0)))
theorem Sn.keeps {i : Nat} (h : Sn i D A s) : (zV A = false ∨ 805306368 ≤ s 2) ∧ (301 ≤ i → 805306368 ≤ s 2) := by
  have dn : Dn D A s → 805306368 ≤ s 2 := fun ⟨_, j, N, k, b⟩ => by
    have := (bE_le k.jl).1
    omega
  rcases h with ⟨j, h⟩ | ⟨n, h⟩ | ⟨k, h⟩ | h
  · exact ⟨.inl h.2.2.1, fun hi => by have := h.1; have := h.2.1; omega⟩
  · exact ⟨.inl h.2.2.1, fun hi => by have := h.1; have := h.2.1; omega⟩
  · exact ⟨.inl h.2.2.1, fun hi => by have := h.1; have := h.2.1; omega⟩
  · exact ⟨.inr (dn h), fun _ => dn h⟩
theorem Sn.begin {i : Nat} (hi : i ≤ 20) (ha : Ax A s) (hA : A = acrF s) (hD : ∀ i, i < 3 → D i = 0) (e : ∀ i, i < 3 → D2 i = D i + clampV (axT A i - D i) (-262144) 262144) (hl : vv D2 ≤ 17592202821632 → Law D2 s t) : Sn (i + 1) D2 A t := by
  have r2 : Ramp (0 + 1) D2 (axT A) := (Ramp.zero ha.k).step fun i hi => by rw [e i hi, hD i hi]; rfl
  have hb : Btw D2 (axT A) := fun i hi => (r2 i hi).1
  have u := ha.k.u
  have hv := hb.vv
  obtain ⟨a, b⟩ := up_move ha.k hb (hl (by show vv D2 ≤ _; unfold axT at *; omega))
  have c := ha.c
  have w := ha.w
  refine .inl ⟨1, by omega, by omega, ha.n, ha.k, r2, ?_, ?_⟩
  · unfold axT; omega
  · unfold axT; omega
theorem Sn.none {i : Nat} (hA : ∀ i, i < 3 → A i = 0) (hD : ∀ i, i < 3 → D i = 0) (hs : 805306368 ≤ s 2) (e : ∀ i, i < 3 → D2 i = D i + clampV (axT A i - D i) (-262144) 262144) (h0 : (∀ i, i < 3 → D2 i = 0) → t 2 = s 2) : Sn i D2 A t := by
  have z2 : ∀ i, i < 3 → D2 i = 0 := fun i hi => by
    rw [e i hi, axT_zero' hA i hi, hD i hi]; decide
  refine .inr (.inr (.inr ⟨hA, 16, fun _ => 0, ⟨by omega, fun i hi => (by show (0 : Int) ≤ 0 ∧ (0 : Int) ≤ 4194304; decide), by decide, fun i hi => ?_⟩, ?_⟩))
  · rw [z2 i hi]; decide
  · rw [h0 z2]
    exact Int.le_trans (by decide) hs
end Go.Proofs.Ytkmelddejdikgaa
namespace Go.Proofs.Ytkmelddejdikgaa
open Go.RowKit PM Dt
def tgD (X : BSt) (D : Nat → Int) : Nat → Int := allocF (fun i => qbackF X.Q X.T i - D i) X.f
structure FI (X : BSt) (S : SSt) : Prop where
  b : BI X
  s : SSI S
  z : ∀ i : Nat, i < 4 → (i : Int) = X.f → X.h i = 0
  n : ∀ i, i < 4 → -216001 ≤ X.h i - tgD X S.D i ∧ X.h i - tgD X S.D i ≤ 216001
theorem FI.ri {X : BSt} {S : SSt} (k : FI X S) : RI X SSt.zero :=
  ⟨k.b, ⟨fun i hi => z0 (N := 4194304) (by decide), fun i hi => z0 (N := 1073741824) (by decide)⟩, k.z, fun i hi => rfl⟩
theorem FI.w {X : BSt} {S : SSt} (k : FI X S) : isW X.f = true := k.ri.w
theorem FI.of {X : BSt} {S : SSt} (k : RI X S) {n : Nat} (hn : 19 ≤ n) (h : Stage n X) : FI X S := by
  have r : R0 X := by
    rcases h with ⟨h1, _⟩ | ⟨_, h2, _⟩ | ⟨_, h2, _⟩
    · omega
    · omega
    · exact h2
  have e : tgD X S.D = tgt X := allocF_congr (fun i hi => by show _ - _ = _; rw [k.d i hi]; omega) k.w
  exact ⟨k.b, k.s, k.z, fun i hi => by rw [e, r i hi]; omega⟩
theorem stp_reach {h P : Int} (hh : -16777216 ≤ h ∧ h ≤ 16777216) (hP : -16777216 ≤ P ∧ P ≤ 16777216) (hE : -1000000 ≤ P - h ∧ P - h ≤ 1000000) : stpX h (cmdX h P) = P := by
  have hf := frW_bd hh
  have hc : cmdX h P = P - h + frW h := by unfold cmdX; rw [clampW_id hP]
  unfold stpX
  rw [hc, clampT_id (by omega), show h - frW h + (P - h + frW h) = P by omega, clampW_id hP]
def folB (X : BSt) (c : Nat → Int) : BSt := tickX X c (fun _ => 0)
theorem fl_h (X : BSt) (c : Nat → Int) (i : Nat) : (folB X c).h i = if (i : Int) = X.f then X.h i else stpX (X.h i) (c i) := by
  unfold folB tickX
  rw [if_pos z_small]; rfl
theorem fl_f (X : BSt) (c : Nat → Int) : (folB X c).f = X.f := by unfold folB tickX; rw [if_pos z_small]
theorem fl_Q (X : BSt) (c : Nat → Int) : (folB X c).Q = attG X.Q (momG X.Q X.T (folB X c).h) := by unfold folB tickX; rw [if_pos z_small]; rfl
theorem fl_T {X : BSt} (k : BI X) (c : Nat → Int) : ∀ i, i < 3 → (folB X c).T i = X.T i := fun i hi => by
  have hD : ∀ i, i < 3 → tickD X c (fun _ => 0) i = 0 := fun i hi => by
    obtain ⟨qI, qv⟩ := k.att c
    obtain ⟨_, _, hb⟩ := valid_back qI qv (by decide) (by decide) (vv0 (v := fun _ => 0) (fun i hi => rfl))
    have := (hb i hi).2
    unfold tickD; omega
  have bT := fun i hi => (allB_bd k.t).1 i hi
  obtain ⟨_, hv⟩ := vadd_ok (f := X.T) (g := tickD X c (fun _ => 0)) (fun i hi => by have := bT i hi; omega) (fun i hi => by rw [hD i hi]; decide)
  unfold folB tickX
  rw [if_pos z_small]
  show (if allB (tickS X c fun _ => 0) = true then tickS X c (fun _ => 0) else X.T) i = X.T i
  split
  · show vaddF X.T (tickD X c fun _ => 0) i = _
    rw [hv i, hD i hi]; omega
  · rfl
theorem fol_P {X : BSt} (kb : BI X) (kw : isW X.f = true) (sun D : Nat → Int) (hb : ∀ i, i < 3 → -4194304 ≤ D i ∧ D i ≤ 4194304) : stP (senseV X sun) D = tgD X D := by
  obtain ⟨_, hm⟩ := momG_eq kb.q kb.v kb.t kb.s
  unfold stP allF tgD
  have hr : ∀ i, i < 3 → rstF (senseV X sun) D i = qbackF X.Q X.T i - D i := fun i hi => by
    have h1 := (hm i hi).2
    show sumW X.h i + ((4 * momF X i) / 4 - D i) = _
    have h3 : momF X i = qbackF X.Q X.T i - sumW X.h i := h1
    rw [h3]; omega
  have hok : okV (rstF (senseV X sun) D) = true := (okV_iff _).2 fun i hi => (vb_iff _).2 (by rw [hr i hi]; have := (hm i hi).1; have := hb i hi; omega)
  rw [hok, show isW (senseV X sun).f = true from kw]
  show allocF _ X.f = _
  rw [allocF_congr hr kw]
theorem fol_cmd {X : BSt} {S : SSt} (k : FI X S) (sun To : Nat → Int) (hb : ∀ i, i < 3 → -4194304 ≤ stD (arrB S (senseV X sun)) S To i ∧ stD (arrB S (senseV X sun)) S To i ≤ 4194304) :
    stC S (senseV X sun) To = cmdF X.h X.f (tgD X (stD (arrB S (senseV X sun)) S To)) := by
  unfold stC
  rw [fol_P k.b k.w sun _ hb]
  rfl
theorem fol_hit {X : BSt} {S S2 : SSt} (k : FI X S) (k2 : SSI S2) (hd : ∀ i, i < 3 → -262144 ≤ S2.D i - S.D i ∧ S2.D i - S.D i ≤ 262144) : ∀ i, i < 4 → (folB X (cmdF X.h X.f (tgD X S2.D))).h i = tgD X S2.D i := fun i hi => by
  obtain ⟨_, hm⟩ := momG_eq k.b.q k.b.v k.b.t k.b.s
  have hw := k.w
  have hn := allocF_near (d := fun i => qbackF X.Q X.T i - S2.D i) (e := fun i => qbackF X.Q X.T i - S.D i) (f := X.f) (D := 262144) (by decide) (fun i hi => by have := hd i hi; show _ ≤ (_ - _) - (_ - _) ∧ (_ - _) - (_ - _) ≤ _; omega) hw
  have hP := allocF_bd (d := fun i => qbackF X.Q X.T i - S2.D i) (f := X.f) (m := 5242880) (by decide) (fun i hi => by have := (hm i hi).1; have := k2.d i hi; show _ ≤ _ - _ ∧ _ - _ ≤ _; omega) hw
  rw [fl_h]
  split
  · rename_i e
    have t : tgD X S2.D i = 0 := allocF_failed hi e
    rw [k.z i hi e, t]
  · rename_i e
    have c : cmdF X.h X.f (tgD X S2.D) i = cmdX (X.h i) (tgD X S2.D i) := by unfold cmdF; rw [if_neg e]
    have a1 := k.n i hi
    have a2 := hn i
    have a3 := hP i
    rw [c]
    exact stp_reach (k.b.s.b i hi) (by unfold tgD; omega) (by unfold tgD at a1 ⊢; omega)
theorem fol_tick {X : BSt} {S S2 : SSt} (k : FI X S) (k2 : SSI S2) (hd : ∀ i, i < 3 → -262144 ≤ S2.D i - S.D i ∧ S2.D i - S.D i ≤ 262144) :
    FI (folB X (cmdF X.h X.f (tgD X S2.D))) S2 ∧ ∀ i, i < 3 → ownF X (folB X (cmdF X.h X.f (tgD X S2.D))).h i = S2.D i := by
  obtain ⟨_, hm⟩ := momG_eq k.b.q k.b.v k.b.t k.b.s
  have hw := k.w
  have hh := fol_hit k k2 hd
  have kb : BI (folB X (cmdF X.h X.f (tgD X S2.D))) := k.b.tick _ _
  have hS := kb.s
  rw [fl_f] at hS
  generalize hY : folB X (cmdF X.h X.f (tgD X S2.D)) = Y at *
  have yf : Y.f = X.f := by rw [← hY, fl_f]
  have yQ : Y.Q = attG X.Q (momG X.Q X.T Y.h) := by rw [← hY]; exact fl_Q _ _
  have yT : ∀ i, i < 3 → Y.T i = X.T i := by rw [← hY]; exact fl_T k.b _
  obtain ⟨_, hm2⟩ := momG_eq k.b.q k.b.v k.b.t hS
  have own : ∀ i, i < 3 → momG X.Q X.T Y.h i = S2.D i := fun i hi => by
    have a := (hm2 i hi).2
    have b := allocF_sum (fun i => qbackF X.Q X.T i - S2.D i) X.f hi
    have c : sumW Y.h i = sumW (allocF (fun i => qbackF X.Q X.T i - S2.D i) X.f) i := by
      unfold sumW
      rw [hh i (by omega), hh 3 (by omega)]; rfl
    rw [a, c, b]
    show _ - (_ - _) = _
    omega
  refine ⟨⟨kb, k2, fun i hi e => ?_, fun i hi => ?_⟩, own⟩
  · rw [yf] at e
    rw [hh i hi]; exact allocF_failed hi e
  · have hb : ∀ i, i < 3 → -108000 ≤ qbackF Y.Q Y.T i - qbackF X.Q X.T i ∧ qbackF Y.Q Y.T i - qbackF X.Q X.T i ≤ 108000 := fun i hi => by
      rw [qback_congr _ yT, yQ]
      exact back_near k.b.q k.b.v k.b.t (fun i hi => by rw [own i hi]; have := k2.d i hi; omega) hi
    have ht := allocF_near (d := fun i => qbackF Y.Q Y.T i - S2.D i) (e := fun i => qbackF X.Q X.T i - S2.D i) (f := X.f) (D := 108000) (by decide) (fun i hi => by have := hb i hi; show _ ≤ (_ - _) - (_ - _) ∧ (_ - _) - (_ - _) ≤ _; omega) hw i
    rw [hh i hi]
    have e1 : tgD Y S2.D i = allocF (fun i => qbackF Y.Q Y.T i - S2.D i) X.f i := by unfold tgD; rw [yf]
    rw [e1]
    unfold tgD
    omega
end Go.Proofs.Ytkmelddejdikgaa
namespace Go.Proofs.Ytkmelddejdikgaa
open Go.RowKit PM Dt
theorem zV_of0 {l : Nat → Int} (h : zV l = true) : ∀ i, i < 3 → l i = 0 := fun i hi => by
  unfold zV at h
  exact beq_iff_eq.1 (List.all_eq_true.1 h i (List.mem_range.2 hi))
theorem attG_congr {Q l l' : Nat → Int} (h : ∀ i, i < 3 → l i = l' i) : attG Q l = attG Q l' := by
  have hz : zV l = zV l' := Bool.eq_iff_iff.2 ⟨fun k => zV_of fun i hi => by rw [← h i hi]; exact zV_of0 k i hi, fun k => zV_of fun i hi => by rw [h i hi]; exact zV_of0 k i hi⟩
  have hr : rq (mulF 2 l) = rq (mulF 2 l') := by
    funext i
    unfold rq mulF
    rw [h 0 (by omega), h 1 (by omega), h 2 (by omega)]
  have hm : ∀ i, i < 3 → mulF 2 l i = mulF 2 l' i := fun i hi => by unfold mulF; rw [h i hi]
  have hs : smallB (mulF 2 l) 1073741824 = smallB (mulF 2 l') 1073741824 := Bool.eq_iff_iff.2 ⟨fun k => (smallB_iff _ _).2 fun i hi => by rw [← hm i hi]; exact (smallB_iff _ _).1 k i hi, fun k => (smallB_iff _ _).2 fun i hi => by rw [hm i hi]; exact (smallB_iff _ _).1 k i hi⟩
  unfold attG turnF turnOk
  rw [hz, hr, hs]
structure Pre (n : Nat) (X : BSt) (S : SSt) (sun : Nat → Int) : Prop where
  k : RI X S
  st : Stage n X
  r : arrB S (senseV X sun) = true → R0 X
  a : 20 ≤ n → arrB S (senseV X sun) = true
theorem Pre.start {X : BSt} {sun : Nat → Int} (k : RI X SSt.zero) : Pre 0 X SSt.zero sun := ⟨k, stage_zero k, fun h => (by cases h), fun h => by omega⟩
theorem tgD_zero {X : BSt} (kw : isW X.f = true) {D : Nat → Int} (h : ∀ i, i < 3 → D i = 0) : tgD X D = tgt X := allocF_congr (fun i hi => by show _ - _ = _; rw [h i hi]; omega) kw
theorem Pre.fi {n : Nat} {X : BSt} {S : SSt} {sun : Nat → Int} (h : Pre n X S sun) (ha : arrB S (senseV X sun) = true) : FI X S :=
  ⟨h.k.b, h.k.s, h.k.z, fun i hi => by rw [tgD_zero h.k.w h.k.d, h.r ha i hi]; omega⟩
theorem pre_P {X : BSt} {S : SSt} {sun : Nat → Int} (k : RI X S) (ha : arrB S (senseV X sun) = false) (To : Nat → Int) : stP (senseV X sun) (stD (arrB S (senseV X sun)) S To) = tgt X := by
  have hd : ∀ i, i < 3 → stD (arrB S (senseV X sun)) S To i = 0 := fun i hi => by rw [ha]; exact k.d i hi
  rw [fol_P k.b k.w sun _ fun i hi => by rw [hd i hi]; decide]
  exact tgD_zero k.w hd
theorem pre_rt {X : BSt} {S : SSt} {sun : Nat → Int} (k : RI X S) (hs : senseOk (senseV X sun) = true) (ha : arrB S (senseV X sun) = false) (To : Nat → Int) : folB X (stC S (senseV X sun) To) = rtB X S sun := by
  unfold stC
  rw [pre_P k ha]
  exact (rtB_eq k hs).symm
theorem spd_eq {a b : Nat → Int} (h : spdE a b = true) : ∀ j, j < 4 → a j = b j := fun j hj => by
  unfold spdE at h
  exact beq_iff_eq.1 (List.all_eq_true.1 h j (List.mem_range.2 hj))
theorem spd_of {a b : Nat → Int} (h : ∀ j, j < 4 → a j = b j) : spdE a b = true := by
  unfold spdE
  exact List.all_eq_true.2 fun j hj => beq_iff_eq.2 (h j (List.mem_range.1 hj))
theorem Pre.step {n : Nat} {X : BSt} {S : SSt} {sun A To : Nat → Int} (h : Pre n X S sun) (hs : senseOk (senseV X sun) = true) (ha : arrB S (senseV X sun) = false) (hA : ∀ i, i < 3 → -1073741824 ≤ A i ∧ A i ≤ 1073741824) (hT : ∀ i, i < 3 → -4194304 ≤ To i ∧ To i ≤ 4194304) :
    Pre (n + 1) (folB X (stC S (senseV X sun) To)) (stX S (senseV X sun) A To) sun := by
  rw [pre_rt h.k hs ha]
  have t := h.k.tick hs
  have kd : ∀ i, i < 3 → (stX S (senseV X sun) A To).D i = 0 := fun i hi => by show stD (arrB S (senseV X sun)) S To i = 0; rw [ha]; exact h.k.d i hi
  have hP : (stX S (senseV X sun) A To).P = tgt X := pre_P h.k ha To
  have hn : n < 20 := by
    apply Classical.byContradiction; intro hc
    rw [h.a (by omega)] at ha; cases ha
  refine ⟨⟨t.b, h.k.s.step _ hA hT, t.z, kd⟩, stage_step h.k hs h.st, fun hr => ?_, fun h20 => ?_⟩
  · have e : spdE (rtB X S sun).h (stX S (senseV X sun) A To).P = true := by
      unfold arrB at hr
      exact (Bool.and_eq_true _ _ |>.mp hr).2
    rw [hP] at e
    exact (reach h.k hs (spd_eq e)).1
  · have r : R0 X := by
      rcases h.st with ⟨h1, _⟩ | ⟨_, h2, _⟩ | ⟨_, h2, _⟩
      · omega
      · omega
      · exact h2
    have e : spdE (rtB X S sun).h (stX S (senseV X sun) A To).P = true := by
      rw [hP]; exact spd_of (rest_stays h.k hs r)
    unfold arrB
    exact Bool.and_eq_true _ _ |>.mpr ⟨rfl, e⟩
theorem fia_step {X : BSt} {S : SSt} {sun A To : Nat → Int} (k : FI X S) (ha : arrB S (senseV X sun) = true) (hA : ∀ i, i < 3 → -1073741824 ≤ A i ∧ A i ≤ 1073741824) (hT : ∀ i, i < 3 → -4194304 ≤ To i ∧ To i ≤ 4194304) :
    FI (folB X (stC S (senseV X sun) To)) (stX S (senseV X sun) A To) ∧ arrB (stX S (senseV X sun) A To) (senseV (folB X (stC S (senseV X sun) To)) sun) = true ∧
      (folB X (stC S (senseV X sun) To)).Q = attG X.Q (stX S (senseV X sun) A To).D := by
  have k2 : SSI (stX S (senseV X sun) A To) := k.s.step _ hA hT
  have hD := fun i hi => stD_bd k.s (arrB S (senseV X sun)) hT (i := i) hi
  have e1 : (stX S (senseV X sun) A To).D = stD (arrB S (senseV X sun)) S To := rfl
  have e2 := fol_cmd k sun To fun i hi => (hD i hi).1
  rw [← e1] at e2
  obtain ⟨kn, own⟩ := fol_tick k k2 (fun i hi => (hD i hi).2)
  have hit := fol_hit k k2 (fun i hi => (hD i hi).2)
  have hP : (stX S (senseV X sun) A To).P = tgD X (stX S (senseV X sun) A To).D := fol_P k.b k.w sun _ fun i hi => (hD i hi).1
  rw [← e2] at kn own hit
  refine ⟨kn, ?_, ?_⟩
  · have e : spdE (folB X (stC S (senseV X sun) To)).h (stX S (senseV X sun) A To).P = true := by rw [hP]; exact spd_of hit
    unfold arrB
    exact Bool.and_eq_true _ _ |>.mpr ⟨rfl, e⟩
  · rw [fl_Q]
    exact attG_congr own
theorem act_tick (what : Int) (X : BSt) (S Sn : SSt) (sun tq Cm : Nat → Int) (k : BI X) (act : Hid ((what = 0 ∧ Hid (∀ w sb, blk w sb (ssc S) 205 → Calls Try.prog 85 #[.pointer (some ⟨sb, 0, none⟩), .agg (sec (senseV X sun))] w fun e w' => e = .returned (.tuple #[.agg (qfn Cm), .int .i64 0]) ∧ Below w.heap.size (w.setRow sb (ssc Sn)) w')) ∨ (what = 1 ∧ Hid (∀ w sb, blk w sb (ssc S) 205 → Calls Try.prog 86 #[.pointer (some ⟨sb, 0, none⟩), .agg (sec (senseV X sun))] w fun e w' => e = .returned (.tuple #[.agg (qfn Cm), .int .i64 0]) ∧ Below w.heap.size (w.setRow sb (ssc Sn)) w')) ∨ (what = 2 ∧ Hid (∀ w sb, blk w sb (ssc S) 205 → Calls Try.prog 88 #[.pointer (some ⟨sb, 0, none⟩), .agg (sec (senseV X sun)), .agg (qfn tq)] w fun e w' => e = .returned (.tuple #[.agg (qfn Cm), .int .i64 0]) ∧ Below w.heap.size (w.setRow sb (ssc Sn)) w')))) :
    ∀ lo hi lb w, lop lo hi lb w (X, S, sun) → Calls Try.prog 31 #[.pointer (some ⟨lb, 0, none⟩), .int .i64 what, .agg (qfn tq)] w fun e w' => e = .returned (.tuple #[.agg (vfn (ownF X (folB X Cm).h)), .bool true]) ∧ lop lo hi lb w' (folB X Cm, Sn, sun) ∧ Save lo hi w w' := fun lo hi lb w ho => by
  have hS : SI (folB X Cm).h (folB X Cm).f := (k.tick Cm (fun _ => 0)).s
  have hS2 := hS
  rw [fl_f] at hS2
  obtain ⟨_, hm⟩ := momG_eq k.q k.v k.t hS2
  have hE : vsubE (qbackF X.Q X.T) (sumW (folB X Cm).h) = 0 := by
    have o1 : okV (qbackF X.Q X.T) = true := (okV_iff _).2 fun i hi => (vb_iff _).2 (by have a := (hm i hi).1; omega)
    have o2 : okV (sumW (folB X Cm).h) = true := (okV_iff _).2 fun i hi => (vb_iff _).2 (by have a := sumW_bd hS2 hi; omega)
    have o3 : okV (subF (qbackF X.Q X.T) (sumW (folB X Cm).h)) = true := (okV_iff _).2 fun i hi => (vb_iff _).2 (by
      have a := (hm i hi).1
      have b := sumW_bd hS2 hi
      show -1099511627776 ≤ qbackF X.Q X.T i - sumW (folB X Cm).h i ∧ qbackF X.Q X.T i - sumW (folB X Cm).h i ≤ 1099511627776
      omega)
    unfold vsubE resE
    rw [o1, o2, o3]; rfl
  exact tick_any what X S Sn sun tq Cm lo hi lb w ho k act hE hS
end Go.Proofs.Ytkmelddejdikgaa
namespace Go.Proofs.Ytkmelddejdikgaa
open Go.RowKit PM Dt
def LSu (i : Nat) (X : BSt) (S : SSt) (sun : Nat → Int) : Prop := (i ≤ 20 ∧ Pre i X S sun ∧ ∀ j, j < 3 → S.A j = 0) ∨ (FI X S ∧ arrB S (senseV X sun) = true ∧ Sn i S.D S.A (qbackF X.Q sun))
theorem LSu.bs {i : Nat} {X : BSt} {S : SSt} {sun : Nat → Int} (h : LSu i X S sun) : BI X ∧ SSI S ∧ RI X SSt.zero := by
  rcases h with ⟨_, h, _⟩ | ⟨h, _⟩
  · exact ⟨h.k.b, h.k.s, h.k.b, ⟨fun i hi => z0 (N := 4194304) (by decide), fun i hi => z0 (N := 1073741824) (by decide)⟩, h.k.z, fun i hi => rfl⟩
  · exact ⟨h.b, h.s, h.ri⟩
theorem sun_some {X : BSt} {sun : Nat → Int} (k : BI X) (h1 : ∀ i, i < 3 → -1073741824 ≤ sun i ∧ sun i ≤ 1073741824) (v1 : 1073741823 * 1073741823 ≤ vv sun) (v2 : vv sun ≤ 1073741828 * 1073741828) :
    (1073741800 * 1073741800 ≤ vv (qbackF X.Q sun) ∧ vv (qbackF X.Q sun) ≤ 1073741848 * 1073741848) ∧ zV (senseV X sun).sun = false := by
  obtain ⟨_, l1, u1⟩ := valid_nn k.q k.v
  have V := see_vv l1 u1 v1 v2 fun i hi => see_err k.q k.v h1 v2 (i := i) hi
  refine ⟨V, ?_⟩
  rw [Bool.eq_false_iff]; intro hc
  have z := zV_of0 hc
  have z : ∀ i, i < 3 → qbackF X.Q sun i = 0 := z
  have e : vv (qbackF X.Q sun) = 0 := by unfold vv; rw [z 0 (by omega), z 1 (by omega), z 2 (by omega)]; rfl
  rw [e] at V
  exact absurd V.1 (by decide)
theorem LSu.step {i : Nat} {X : BSt} {S : SSt} {sun : Nat → Int} (h : LSu i X S sun) (hs : senseOk (senseV X sun) = true) (h1 : ∀ i, i < 3 → -1073741824 ≤ sun i ∧ sun i ≤ 1073741824) (v1 : 1073741823 * 1073741823 ≤ vv sun) (v2 : vv sun ≤ 1073741828 * 1073741828) :
    LSu (i + 1) (folB X (stC S (senseV X sun) (sunT S (senseV X sun)))) (stX S (senseV X sun) (sunAx S (senseV X sun)) (sunT S (senseV X sun))) sun := by
  obtain ⟨kb, ks, _⟩ := h.bs
  obtain ⟨⟨sl, su⟩, hz⟩ := sun_some kb h1 v1 v2
  have hA := sunA_le ks (senseV X sun)
  have hT := sunT_le ks (senseV X sun)
  have slew : FI X S → arrB S (senseV X sun) = true → (∀ D2 A2 t, sunAx S (senseV X sun) = A2 → (∀ i, i < 3 → D2 i = S.D i + clampV (axT A2 i - S.D i) (-262144) 262144) → (vv D2 ≤ 17592202821632 → Law D2 (qbackF X.Q sun) t) → ((∀ i, i < 3 → D2 i = 0) → t 2 = qbackF X.Q sun 2) → Sn (i + 1) D2 A2 t) → LSu (i + 1) (folB X (stC S (senseV X sun) (sunT S (senseV X sun)))) (stX S (senseV X sun) (sunAx S (senseV X sun)) (sunT S (senseV X sun))) sun := fun k ha go => by
    obtain ⟨k2, a2, q2⟩ := fia_step (A := sunAx S (senseV X sun)) (To := sunT S (senseV X sun)) k ha hA hT
    refine .inr ⟨k2, a2, ?_⟩
    rw [q2]
    have eD : (stX S (senseV X sun) (sunAx S (senseV X sun)) (sunT S (senseV X sun))).D = fun i => S.D i + clampV (axT (sunAx S (senseV X sun)) i - S.D i) (-262144) 262144 := by
      show stD (arrB S (senseV X sun)) S (sunT S (senseV X sun)) = _
      rw [ha]; rfl
    have dB := k2.s.d
    have eA : (stX S (senseV X sun) (sunAx S (senseV X sun)) (sunT S (senseV X sun))).A = sunAx S (senseV X sun) := rfl
    rw [eA]
    refine go _ _ _ rfl (fun i hi => by rw [eD]) (fun hv => see_turn kb.q kb.v h1 v1 v2 dB hv) fun hz => ?_
    have : attG X.Q (stX S (senseV X sun) (sunAx S (senseV X sun)) (sunT S (senseV X sun))).D = X.Q := by
      unfold attG
      rw [zV_of hz]; rfl
    rw [this]
  have A1 : ∀ {b}, b = true → sunA1 S (senseV X sun) b = if 939524096 ≤ qbackF X.Q sun 2 then fun _ => 0 else S.A := fun {b} hb => by
    unfold sunA1 sunE
    rw [hz, hb]
    have : (senseV X sun).sun 2 = qbackF X.Q sun 2 := rfl
    rw [this]
    by_cases h : 939524096 ≤ qbackF X.Q sun 2 <;> simp [h]
  rcases h with ⟨h20, h, hSA⟩ | ⟨k, ha, h⟩
  · cases ha : arrB S (senseV X sun) with
    | false =>
      have : i < 20 := by
        apply Classical.byContradiction; intro hc
        rw [h.a (by omega)] at ha; cases ha
      refine .inl ⟨by omega, h.step hs ha hA hT, fun j hj => ?_⟩
      show sunAx S (senseV X sun) j = 0
      unfold sunAx sunA sunB sunA1 sunE
      rw [ha]
      simp
    | true =>
      refine slew (h.fi ha) ha fun D2 A2 t e2 d2 hl h0 => ?_
      have r0 := h.r ha
      have m0 : ∀ i, i < 3 → momF X i = 0 := fun i hi => by
        obtain ⟨_, hm⟩ := momG_eq kb.q kb.v kb.t kb.s
        have h1 : momF X i = qbackF X.Q X.T i - sumW X.h i := (hm i hi).2
        rw [h1, tgt_sum X r0 hi]; omega
      have hr : zV (senseV X sun).rate = true := zV_of fun i hi => by show 4 * momF X i = 0; rw [m0 i hi]; rfl
      have hd : zV S.D = true := zV_of h.k.d
      have z1 : ∀ i, i < 3 → sunA1 S (senseV X sun) true i = 0 := fun i hi => by
        rw [A1 rfl]
        split
        · rfl
        · exact hSA i hi
      have zz := zV_of z1
      by_cases h3 : qbackF X.Q sun 2 < 805306368
      · have e3 : A2 = acrF (qbackF X.Q sun) := by
          rw [← e2]
          unfold sunAx sunA sunB
          rw [ha, zz, hd, hr, hz]
          have : (senseV X sun).sun = qbackF X.Q sun := rfl
          rw [this]
          simp [h3]
        rw [e3] at d2 ⊢
        exact Sn.begin h20 (Ax.of su) rfl h.k.d d2 hl
      · have e3 : A2 = sunA1 S (senseV X sun) true := by
          rw [← e2]
          unfold sunAx sunA sunB
          have : (senseV X sun).sun = qbackF X.Q sun := rfl
          rw [ha, this]
          simp [h3]
        exact Sn.none (by rw [e3]; exact z1) h.k.d (by omega) d2 h0
  · refine slew k ha fun D2 A2 t e2 d2 hl h0 => ?_
    have e3 : A2 = if 939524096 ≤ qbackF X.Q sun 2 then fun _ => 0 else S.A := by
      rw [← e2]
      unfold sunAx sunA
      have nb : sunB S (senseV X sun) (arrB S (senseV X sun)) = false := by
        unfold sunB
        rw [ha, A1 rfl]
        have e : (senseV X sun).sun = qbackF X.Q sun := rfl
        rw [e]
        rcases h.keeps.1 with hk | hk
        · by_cases h7 : 939524096 ≤ qbackF X.Q sun 2
          · have : ¬ qbackF X.Q sun 2 < 805306368 := by omega
            simp [this]
          · rw [if_neg h7, hk]; rfl
        · have : ¬ qbackF X.Q sun 2 < 805306368 := by omega
          simp [this]
      rw [nb, ha, A1 rfl]; rfl
    by_cases h7 : 939524096 ≤ qbackF X.Q sun 2
    · rw [if_pos h7] at e3
      rw [e3] at d2 ⊢
      exact .inr (.inr (.inr (off_step h h7 d2 hl h0)))
    · rw [if_neg h7] at e3
      rw [e3] at d2 ⊢
      exact h.go (by omega) d2 hl h0
theorem LSu.fin {i : Nat} {X : BSt} {S : SSt} {sun : Nat → Int} (h : LSu i X S sun) (hi : 301 ≤ i) : 805306368 ≤ qbackF X.Q sun 2 := by
  rcases h with ⟨h, _⟩ | ⟨_, _, h⟩
  · omega
  · exact h.keeps.2 hi
theorem LSu.start {X : BSt} {sun : Nat → Int} (k : RI X SSt.zero) : LSu 0 X SSt.zero sun := .inl ⟨by omega, Pre.start k, fun _ _ => rfl⟩
theorem tickSu_any {i : Nat} {X : BSt} {S : SSt} {sun : Nat → Int} (tq : Nat → Int) (h : LSu i X S sun) (h1 : ∀ i, i < 3 → -1073741824 ≤ sun i ∧ sun i ≤ 1073741824) (v1 : 1073741823 * 1073741823 ≤ vv sun) (v2 : vv sun ≤ 1073741828 * 1073741828) :
    ∃ X2 S2 v, LSu (i + 1) X2 S2 sun ∧ ∀ lo hi lb w, lop lo hi lb w (X, S, sun) → Calls Try.prog 31 #[.pointer (some ⟨lb, 0, none⟩), .int .i64 1, .agg (qfn tq)] w fun e w' => e = .returned (.tuple #[.agg (vfn v), .bool true]) ∧ lop lo hi lb w' (X2, S2, sun) ∧ Save lo hi w w' := by
  obtain ⟨kb, ks, kr⟩ := h.bs
  have hs := sense_ok kr h1 v2
  refine ⟨_, _, _, h.step hs h1 v1 v2, act_tick 1 X S _ sun tq _ kb ?_⟩
  exact .inr (.inl ⟨rfl, fun w sb g => (tsun_ok S (senseV X sun) sb w g hs ks.d fun i hi => by have := sunT_le ks (senseV X sun) i hi; omega).mono fun e w' ⟨he, hb, h⟩ => ⟨he, h.toRow g hb⟩⟩)
end Go.Proofs.Ytkmelddejdikgaa
namespace Go.Proofs.Ytkmelddejdikgaa
open Go.RowKit PM Dt
theorem RI.made {X : BSt} (hQ : ∀ i, i < 4 → I64 (X.Q i)) (h : newOk X = true) : RI X SSt.zero := by
  have k := newOk_BI hQ h
  simp only [newOk, Bool.and_eq_true] at h
  exact ⟨k, ⟨fun i hi => z0 (N := 4194304) (by decide), fun i hi => z0 (N := 1073741824) (by decide)⟩, (newB_SI h.1).2, fun i hi => rfl⟩
set_option maxRecDepth 100000 in
set_option maxHeartbeats 4000000 in
theorem made26_no (x : BSt) (sun : Nat → Int) (w : World) (hQ : ∀ i, i < 4 → I64 (x.Q i)) (hk : newOk x = false) : Calls Try.prog 29 #[.agg (rbc x), .agg (vfn sun)] w fun e w' => e = .returned (.tuple #[.pointer none, .bool false]) ∧ Below w.heap.size w w' := by
  have NB := Lib.hid (fun w => bnew_no x w hQ hk)
  clear hQ hk
  go_enter Try.func29, Try.ntmps29
  go_upto_region 1 with (fail)
  have v : blk ((w.alloc (.cells (rbc x) 76)).alloc (.cells (vfn sun) 31)) w.heap.size (rbc x) 76 := (blk.new _ _ _).alloc _
  have sn : blk ((w.alloc (.cells (rbc x) 76)).alloc (.cells (vfn sun) 31)) (w.heap.size + 1) (vfn sun) 31 := blk.new' (by simp)
  have hB : Below w.heap.size w ((w.alloc (.cells (rbc x) 76)).alloc (.cells (vfn sun) 31)) := by go_grown
  generalize ((w.alloc (.cells (rbc x) 76)).alloc (.cells (vfn sun) 31)) = w0 at *
  have lt_v := v.lt
  have lt_sn := sn.lt
  have hW0 : w.heap.size ≤ w0.heap.size := by simpa using hB.size
  apply wp_region_Q 14 [0, 1, 3, 7, 15, 31, 63, 127, 255, 511, 1023, 2047, 4095, 8191] [] [_, _, _, _, _, _, _, _, _, _, _, _, _, _] (fun p L w' => w0.heap.size ≤ w'.heap.size ∧ Below w.heap.size w w' ∧ blk w' w.heap.size (rbc x) 76 ∧ blk w' (w.heap.size + 1) (vfn sun) 31) _ [(0, 9), (1, 10), (2, 11), (3, 12), (4, 13), (5, 14), (6, 15), (7, 16), (8, 17), (9, 8), (10, 18), (11, 19), (12, 6), (13, 7)] [0, 1, 2, 3, 4, 5, 6, 7, 8, 9, 10, 11, 12, 13]
  case hn => rfl
  case hB => kernel_rfl
  case hds => kernel_rfl
  case hA => (intro p; simp only [putsD, Act.put, sIT, sCZ, sCS, gCZ, gCS]; exact rfl)
  case h0 => exact fun p => ⟨Nat.le_refl _, hB, v, sn⟩
  case hmore => exact fun p L w1 w2 ⟨hsz, hB, v, sn⟩ hm => ⟨Nat.le_trans hsz hm.size, hB.trans (hm.mono (Nat.le_trans hW0 hsz)), v.below hm v.lt, sn.below hm sn.lt⟩
  case hs =>
    intro more
    refine stepV _ rfl rfl (fun _ _ _ h => h) (by intros; go_simp; exact ⟨rfl, rfl⟩) ?_
    refine stepV 1 rfl rfl (fun _ _ _ h => h) ?_ ?_
    · rintro p L w1 ⟨hsz, hB, v, sn⟩ hk
      exact valR_part _ _ rfl _ 0 rfl _ _ v (qfn x.Q) (rb_q x) _ Try.underlying23 rfl (by rw [qfn_size]; kernel_rfl) rfl
    refine stepV _ rfl rfl (fun _ _ _ h => h) (by intros; go_simp; exact ⟨rfl, rfl⟩) ?_
    refine stepV 3 rfl rfl (fun _ _ _ h => h) ?_ ?_
    · rintro p L w1 ⟨hsz, hB, v, sn⟩ hk
      exact valR_part _ _ rfl _ 4 rfl _ _ v (vfn x.T) (rb_t x) _ Try.underlying31 rfl (by rw [vfn_size]; kernel_rfl) rfl
    refine stepV _ rfl rfl (fun _ _ _ h => h) (by intros; go_simp; exact ⟨rfl, rfl⟩) ?_
    refine stepV 5 rfl rfl (fun _ _ _ h => h) ?_ ?_
    · rintro p L w1 ⟨hsz, hB, v, sn⟩ hk
      exact valR_part _ _ rfl _ 7 rfl _ _ v (qfn x.h) (rb_h x) _ Try.underlying22 rfl (by rw [qfn_size]; kernel_rfl) rfl
    refine stepV _ rfl rfl (fun _ _ _ h => h) (by intros; go_simp; exact ⟨rfl, rfl⟩) ?_
    refine stepV 7 rfl rfl (fun _ _ _ h => h) ?_ ?_
    · rintro p L w1 ⟨hsz, hB, v, sn⟩ hk
      have hc : w1.cell? ⟨w.heap.size, 11, none⟩ = some (.int .i64 x.f) := v.cellIs rfl
      go_simp
      exact ⟨rfl, rfl⟩
    refine stepD 8 rfl (fun p => rfl) (fun _ _ _ h => h) more ?_ ?_
    · rintro p L w1 ⟨hsz, hB, v, sn⟩ hk
      go_simp
      refine (NB.out _).mono ?_
      rintro e w2 ⟨rfl, h2⟩
      first | exact ⟨rfl, h2⟩ | (subst h2; exact ⟨rfl, Below.refl _ _⟩)
    iterate 5 (refine stepV _ rfl rfl (fun _ _ _ h => h) (by intros; go_simp; exact ⟨rfl, rfl⟩) ?_)
    exact AllI.nil
  case hV0 => exact fun p q => AllI.nil
  case he =>
  clear hB v sn
  rintro p w0r ⟨hsz, hB, v, sn⟩
  clear lt_v lt_sn hsz hW0
  go_wp2_with (fail)
  go_ret2
  exact ⟨rfl, hB⟩
set_option maxRecDepth 100000 in
set_option maxHeartbeats 8000000 in
theorem made26_yes (x : BSt) (sun : Nat → Int) (w : World) (hQ : ∀ i, i < 4 → I64 (x.Q i)) (hk : newOk x = true) : Calls Try.prog 29 #[.agg (rbc x), .agg (vfn sun)] w fun e w' => ∃ lo hi b, e = .returned (.tuple #[.pointer (some ⟨b, 0, none⟩), .bool true]) ∧ w.heap.size ≤ lo ∧ lop lo hi b w' (x, SSt.zero, sun) ∧ Below w.heap.size w w' := by
  have NB := Lib.hid (fun w => bnew_yes x w hQ hk)
  have NW := Lib.hid (fun w => tnew_any w)
  clear hQ hk
  go_enter Try.func29, Try.ntmps29
  go_upto_region 1 with (fail)
  have v : blk ((w.alloc (.cells (rbc x) 76)).alloc (.cells (vfn sun) 31)) w.heap.size (rbc x) 76 := (blk.new _ _ _).alloc _
  have sn : blk ((w.alloc (.cells (rbc x) 76)).alloc (.cells (vfn sun) 31)) (w.heap.size + 1) (vfn sun) 31 := blk.new' (by simp)
  have hB : Below w.heap.size w ((w.alloc (.cells (rbc x) 76)).alloc (.cells (vfn sun) 31)) := by go_grown
  generalize ((w.alloc (.cells (rbc x) 76)).alloc (.cells (vfn sun) 31)) = w0 at *
  have cf : w0.cell? ⟨w.heap.size, 11, none⟩ = some (.int .i64 x.f) := v.cellIs rfl
  have hlo := hB.size
  go_upto_region 2 with (first | (refine wpList_load_part ?hw _ _ rfl _ 0 rfl _ _ v (qfn x.Q) (rb_q x) _ Try.underlying23 rfl ?hi ?_; (case hw => (first | rfl | (simp [Region.wanted, yielded]; done))); (case hi => (rw [qfn_size]; kernel_rfl))) | (refine wpList_load_part ?hw _ _ rfl _ 4 rfl _ _ v (vfn x.T) (rb_t x) _ Try.underlying31 rfl ?hi ?_; (case hw => (first | rfl | (simp [Region.wanted, yielded]; done))); (case hi => (rw [vfn_size]; kernel_rfl))) | (refine wpList_load_part ?hw _ _ rfl _ 7 rfl _ _ v (qfn x.h) (rb_h x) _ Try.underlying22 rfl ?hi ?_; (case hw => (first | rfl | (simp [Region.wanted, yielded]; done))); (case hi => (rw [qfn_size]; kernel_rfl))) | (go_at_call 83; with_reducible refine (NB.out _).mono ?_; rintro e w1 ⟨ob, rfl, o, hb⟩; replace hB := hB.trans (hb.mono hB.size); replace v := v.below hb v.lt; replace sn := sn.below hb sn.lt; clear hb))
  clear NB cf v
  go_upto_region 4 with (fail)
  have lt_sn := sn.lt
  have lt_o := o.lt
  have hW0 : w.heap.size ≤ w1.heap.size := by simpa using hB.size
  apply wp_region_I 7 [0, 0, 0, 7, 15, 31, 63] [1, 4] [_, (fun p => ((fun b => .pointer (some ⟨b, 0, none⟩))) (p 1)), _, _, (fun p => ((fun b => .pointer (some ⟨b, 0, none⟩))) (p 4)), _, _] (fun p L w' => w1.heap.size ≤ w'.heap.size ∧ Below w.heap.size w w' ∧ blk w' (w.heap.size + 1) (vfn sun) 31 ∧ bod w0.heap.size ob w' (x) ∧ (L 1 = true → w1.heap.size ≤ p 1 ∧ blk w' (p 1) (ssc SSt.zero) 205) ∧ (L 4 = true → w1.heap.size ≤ p 4 ∧ blk w' (p 4) (lpc (ob, p 1, sun)) 93) ∧ (L 1 = true → L 4 = true → p 1 ≠ p 4)) _ [(0, 22), (1, 23), (2, 24), (3, 25), (4, 26), (5, 4), (6, 5)] [0, 1, 2, 3, 4, 5, 6]
  case hn => rfl
  case hm => kernel_rfl
  case hB => kernel_rfl
  case hds => kernel_rfl
  case hA => (intro p; simp only [putsD, Act.put, sIT, sCZ, sCS, gCZ, gCS]; exact rfl)
  case h0 => exact fun p => ⟨Nat.le_refl _, hB.drew, sn.drew, o.drew, fun h => absurd h (by decide), fun h => absurd h (by decide), fun h => absurd h (by decide)⟩
  case hmore => exact fun p L w1 w2 ⟨hsz, hB, sn, o, h_st, h_l, hne_st_l⟩ hm => ⟨Nat.le_trans hsz hm.size, hB.trans (hm.mono (Nat.le_trans hW0 hsz)), sn.below hm sn.lt, o.below hm o.lt, fun hl => ⟨(h_st hl).1, (h_st hl).2.below hm (h_st hl).2.lt⟩, fun hl => ⟨(h_l hl).1, (h_l hl).2.below hm (h_l hl).2.lt⟩, hne_st_l⟩
  case hs =>
    intro more
    refine stepV _ rfl rfl (fun _ _ _ h => h) (by intros; go_simp; exact ⟨rfl, rfl⟩) ?_
    refine AllI.cons ?_ ?_
    · refine stepI_new 1 rfl (fun p => rfl) rfl ((fun b => .pointer (some ⟨b, 0, none⟩))) (ssc SSt.zero) 205 (fun p => rfl) ?_ ?_
      · rintro p L w1 ⟨hsz, hB, sn, o, h_st, h_l, hne_st_l⟩ hk
        go_simp
        refine (NW.out _).mono ?_
        rintro e w2 ⟨b, rfl, hb, hle, hm⟩
        exact ⟨_, rfl, b, rfl, hb, hle, hm⟩
      rintro p L w1 w2 b ⟨hsz, hB, sn, o, h_st, h_l, hne_st_l⟩ hk hb hle hm
      refine ⟨Nat.le_trans hsz hm.size, hB.trans (hm.mono (Nat.le_trans hW0 hsz)), sn.below hm sn.lt, o.below hm o.lt, fun _ => ⟨Nat.le_trans hsz hle, ?_⟩, fun hl => absurd hl (by rw [show upL L 1 4 = false from hk.2.2 4 rfl]; decide), fun _ hl => absurd hl (by rw [show upL L 1 4 = false from hk.2.2 4 rfl]; decide)⟩
      exact hb
    refine stepV 2 rfl rfl (fun _ _ _ h => h) ?_ ?_
    · rintro p L w1 ⟨hsz, hB, sn, o, h_st, h_l, hne_st_l⟩ hk
      first | exact valR_row _ _ rfl _ rfl _ _ sn _ Try.underlying31 rfl (by first | kernel_rfl | (rw [vfn_size]; kernel_rfl)) rfl | (have hc := sn.cellIs (vfn_get _ (show 0 < 3 by omega)); go_simp; exact ⟨rfl, rfl⟩)
    refine stepV 3 rfl rfl (fun _ _ _ h => h) ?_ ?_
    · intros; (try simp only [vfn, qfn]); go_simp; exact ⟨rfl, rfl⟩
    refine AllI.cons ?_ ?_
    · refine stepI_fresh 4 rfl (fun p => rfl) rfl ((fun b => .pointer (some ⟨b, 0, none⟩))) (fun p => (lpc (ob, p 1, sun))) 93 (fun p => rfl) ?_ ?_
      · intro p w1
        simp only [vfn, qfn]
        go_simp
        try rfl
      rintro p L w1 ⟨hsz, hB, sn, o, h_st, h_l, hne_st_l⟩ hk
      refine ⟨Nat.le_trans hsz (by simp), hB.alloc (Nat.le_trans (by first | exact hW0 | (have := hB.size; simp at this ⊢; omega)) hsz) _, sn.alloc _, o.alloc _, fun hl => ⟨(h_st hl).1, (h_st hl).2.alloc _⟩, fun _ => ⟨hsz, ?_⟩, fun hl _ => Nat.ne_of_lt (h_st hl).2.lt⟩
      exact blk.new _ _ _
    iterate 2 (refine stepV _ rfl rfl (fun _ _ _ h => h) (by intros; go_simp; exact ⟨rfl, rfl⟩) ?_)
    exact AllI.nil
  case hV0 =>
    intro p q
    refine AllI.cons ?_ ?_
    · skip
      iterate 7 (refine AllI.cons (by first | exact .inl rfl | (refine .inr ?_; simp only [gCZ, gCS]; done) | exact .inr rfl) ?_)
      exact AllI.nil
    refine AllI.cons ?_ ?_
    · skip
      iterate 7 (refine AllI.cons (by first | exact .inl rfl | (refine .inr ?_; simp only [gCZ, gCS]; done) | exact .inr rfl) ?_)
      exact AllI.nil
    exact AllI.nil
  case he =>
  clear hB sn o
  rintro p w1r ⟨hsz, hB, sn, o, h_st, h_l, hne_st_l⟩
  obtain ⟨le_st, st⟩ := h_st rfl
  clear h_st
  obtain ⟨le_l, l⟩ := h_l rfl
  clear h_l
  have ne_st_l : p 1 ≠ p 4 := hne_st_l rfl rfl
  clear hne_st_l
  replace st : blk w1r (p 1) (ssc SSt.zero) 205 := st
  replace l : blk w1r (p 4) (lpc (ob, p 1, sun)) 93 := l
  have ne_sn_st : (w.heap.size + 1) ≠ p 1 := Nat.ne_of_lt (Nat.lt_of_lt_of_le lt_sn le_st)
  have ne_o_st : ob ≠ p 1 := Nat.ne_of_lt (Nat.lt_of_lt_of_le lt_o le_st)
  have ge_st : w.heap.size ≤ p 1 := Nat.le_trans hW0 le_st
  have out_st : ob < p 1 := Nat.lt_of_lt_of_le lt_o le_st
  have ne_sn_l : (w.heap.size + 1) ≠ p 4 := Nat.ne_of_lt (Nat.lt_of_lt_of_le lt_sn le_l)
  have ne_o_l : ob ≠ p 4 := Nat.ne_of_lt (Nat.lt_of_lt_of_le lt_o le_l)
  have ge_l : w.heap.size ≤ p 4 := Nat.le_trans hW0 le_l
  have out_l : ob < p 4 := Nat.lt_of_lt_of_le lt_o le_l
  generalize p 1 = st_b at *
  generalize p 4 = l_b at *
  clear lt_sn lt_o hsz hW0
  go_wp2_with (fail)
  go_ret2
  have lt1 := st.lt
  have lt2 := l.lt
  exact ⟨_, _, _, rfl, hlo, ⟨ob, st_b, out_st, out_l, ne_st_l, Nat.le_sub_one_of_lt lt1, Nat.le_sub_one_of_lt lt2, by omega, o, st, l⟩, hB⟩
end Go.Proofs.Ytkmelddejdikgaa
namespace Go.Proofs.Ytkmelddejdikgaa
open Go.RowKit PM Dt
theorem vun_facts {f : Nat → Int} (h : vunE f = 0) : 1073741823 * 1073741823 ≤ vv (vunF f) ∧ vv (vunF f) ≤ 1073741828 * 1073741828 := by
  cases hk : okV f with
  | false => unfold vunE at h; rw [hk] at h; cases h
  | true =>
    cases hz : zV f with
    | true => unfold vunE at h; rw [hk, hz] at h; cases h
    | false =>
      obtain ⟨_, _, _, a, b⟩ := vun_core hk hz
      unfold vv; omega
theorem wpList_field {ops : Array Oper} {rest : List Oper} {o : Oper} {a : Act} {w : World} {P : Program} {Q : Exit → Act → World → Prop} (hw : Region.wanted o (yielded ops a.tmps) = true) (t : TypeId) (x : Operand) (n : Nat) (ho : o.op = .field t x n)
    (cs : Array Value) (hx : a.eval x = .agg cs) (v : Value) (h1 : ∀ w, (Instr.field t (.agg cs) n).run P w = .ok v w)
    (h : wpList P ops Q rest (a.put o.dst v) w) : wpList P ops Q (o :: rest) a w :=
  wpList_step fun K hK => by
    rw [if_pos hw]
    unfold Oper.wp execOp
    simp only [ho, hx, Sem.run_bind, h1, Result.andThen_ok, Sem.run_pure]
    exact hK _ _ h
theorem f85 (a0 a1 a2 b0 b1 b2 b3 f s0 s1 s2 q0 q1 q2 q3 : Int) (w : World) : (Instr.field 85 (.agg #[.int .i64 a0, .int .i64 a1, .int .i64 a2, .int .i64 b0, .int .i64 b1, .int .i64 b2, .int .i64 b3, .int .i64 f, .int .i64 s0, .int .i64 s1, .int .i64 s2, .int .i64 q0, .int .i64 q1, .int .i64 q2, .int .i64 q3]) 3).run Try.prog w = .ok (.agg #[.int .i64 s0, .int .i64 s1, .int .i64 s2]) w := by
  unfold Instr.field
  go_simp
  rfl
theorem i31 (s0 s1 s2 : Int) (w : World) : (Instr.index 31 (.agg #[.int .i64 s0, .int .i64 s1, .int .i64 s2]) (.int .i64 ((2 : Nat) : Int))).run Try.prog w = .ok (.int .i64 s2) w := by
  unfold Instr.index
  go_simp
set_option maxRecDepth 100000 in
set_option maxHeartbeats 8000000 in
theorem ssun_a (x : BSt) (sun : Nat → Int) (w : World) (hQ : ∀ i, i < 4 → I64 (x.Q i)) (hI : ∀ i, i < 3 → I64 (sun i)) (hk : newOk x = false) : Calls Try.prog 8 #[.agg (rbc x), .agg (vfn sun)] w fun e w' => e = .returned (.bool true) ∧ Below w.heap.size w w' := by
  have UN := Lib.hid (fun w => vunit_any sun w hI)
  have MD := Lib.hid (fun w => made26_no x (vunF sun) w hQ hk)
  clear hQ hk hI
  generalize vunF sun = u at *
  generalize vunE sun = ue at *
  have AW := Lib.hid (fun w => awake26_any w)
  go_enter Try.func8, Try.ntmps8
  go_upto_region 1 with (fail)
  have v : blk ((w.alloc (.cells (rbc x) 76)).alloc (.cells (vfn sun) 31)) w.heap.size (rbc x) 76 := (blk.new _ _ _).alloc _
  have sv : blk ((w.alloc (.cells (rbc x) 76)).alloc (.cells (vfn sun) 31)) (w.heap.size + 1) (vfn sun) 31 := blk.new' (by simp)
  have hB : Below w.heap.size w ((w.alloc (.cells (rbc x) 76)).alloc (.cells (vfn sun) 31)) := by go_grown
  generalize ((w.alloc (.cells (rbc x) 76)).alloc (.cells (vfn sun) 31)) = w0 at *
  have lt_v := v.lt
  have lt_sv := sv.lt
  have hW0 : w.heap.size ≤ w0.heap.size := by simpa using hB.size
  apply wp_region_Q 8 [0, 1, 3, 7, 15, 31, 63, 127] [5] [_, _, _, _, _, (fun p => .pointer (some ⟨p 5, 0, none⟩)), (fun _ => undef), _] (fun p L w' => w0.heap.size ≤ w'.heap.size ∧ Below w.heap.size w w' ∧ blk w' w.heap.size (rbc x) 76 ∧ blk w' (w.heap.size + 1) (vfn sun) 31 ∧ (L 5 = true → w0.heap.size ≤ p 5 ∧ blk w' (p 5) (bif L 6 then (vfn u) else (vfn fun _ => 0)) 31)) _ [(0, 13), (1, 14), (2, 12), (3, 15), (4, 16), (5, 5), (7, 6)] [0, 1, 2, 3, 4, 5, 6, 7]
  case hn => rfl
  case hB => kernel_rfl
  case hds => kernel_rfl
  case hA => (intro p; simp only [putsD, Act.put, sIT, sCZ, sCS, gCZ, gCS]; exact rfl)
  case h0 => exact fun p => ⟨Nat.le_refl _, hB, v, sv, fun h => absurd h (by decide)⟩
  case hmore => exact fun p L w1 w2 ⟨hsz, hB, v, sv, h_un⟩ hm => ⟨Nat.le_trans hsz hm.size, hB.trans (hm.mono (Nat.le_trans hW0 hsz)), v.below hm v.lt, sv.below hm sv.lt, fun hl => ⟨(h_un hl).1, (h_un hl).2.below hm (h_un hl).2.lt⟩⟩
  case hs =>
    intro more
    refine stepV 0 rfl rfl (fun _ _ _ h => h) ?_ ?_
    · rintro p L w1 ⟨hsz, hB, v, sv, h_un⟩ hk
      have L6 : L 6 = false := hk.2.2 6 rfl
      first | exact valR_row _ _ rfl _ rfl _ _ sv _ Try.underlying31 rfl (by first | kernel_rfl | (rw [vfn_size]; kernel_rfl)) rfl | (have hc := sv.cellIs (vfn_get _ (show 0 < 3 by omega)); go_simp; exact ⟨rfl, rfl⟩)
    refine stepD 1 rfl (fun p => rfl) (fun _ _ _ h => h) more ?_ ?_
    · rintro p L w1 ⟨hsz, hB, v, sv, h_un⟩ hk
      go_simp
      refine (UN.out _).mono ?_
      rintro e w2 ⟨rfl, h2⟩
      first | exact ⟨rfl, h2⟩ | (subst h2; exact ⟨rfl, Below.refl _ _⟩)
    iterate 3 (refine stepV _ rfl rfl (fun _ _ _ h => h) (by intros; go_simp; exact ⟨rfl, rfl⟩) ?_)
    refine AllI.cons ?_ ?_
    · refine stepI_alloc 5 rfl (fun p => rfl) rfl (vfn fun _ => 0) 31 (fun p => rfl) ?_ ?_
      · intro p w1
        go_simp
        first | done | rfl | rw [zero_vec]
      rintro p L w1 ⟨hsz, hB, v, sv, h_un⟩ hk
      have L6 : L 6 = false := hk.2.2 6 rfl
      refine ⟨Nat.le_trans hsz (by simp), hB.alloc (Nat.le_trans (by first | exact hW0 | (have := hB.size; simp at this ⊢; omega)) hsz) _, v.alloc _, sv.alloc _, fun _ => ⟨hsz, ?_⟩⟩
      rw [show upL L 5 6 = false from L6]
      exact blk.new _ _ _
    refine AllI.cons ?_ ?_
    · refine stepI_store 6 rfl (fun p => rfl) (fun p => rfl) _ _ _ rfl (fun p => p 5) 0 (fun p => rfl) (fun p => (vfn u)) (fun p => rfl) (fun p => (vfn fun _ => 0)) (fun p => (vfn u)) 31 (fun p => over_v _ _) (fun p => by first | (rw [vfn_size, vfn_size]; decide) | simp [vfn_size, vfn_size]) (fun p => by rw [vfn_size]; kernel_rfl) (fun p => vfn_one _) ?_ ?_
      · rintro p L w1 ⟨hsz, hB, v, sv, h_un⟩ hk
        have L6 : L 6 = false := hk.1
        have hh := (h_un (hk.2.1 5 rfl)).2
        rw [L6] at hh
        try simp only [cond_true, cond_false] at hh
        exact hh
      · rintro p L w1 ⟨hsz, hB, v, sv, h_un⟩ hk
        have L6 : L 6 = false := hk.1
        skip
        have hp := h_un (hk.2.1 5 rfl)
        refine ⟨(by simpa using hsz), Below.setRow hB (by first | exact Nat.le_trans hW0 hp.1 | exact ge_un | omega | (have := hB.size; simp at this ⊢; omega)) _, v.rowOther (by first | exact Nat.ne_of_lt (Nat.lt_of_lt_of_le lt_v hp.1) | omega) _, sv.rowOther (by first | exact Nat.ne_of_lt (Nat.lt_of_lt_of_le lt_sv hp.1) | omega) _, fun _ => ⟨hp.1, ?_⟩⟩
        rw [show upL L 6 6 = true from rfl]
        exact hp.2.row _
    refine stepV _ rfl rfl (fun _ _ _ h => h) (by intros; go_simp; exact ⟨rfl, rfl⟩) ?_
    exact AllI.nil
  case hV0 =>
    intro p q
    refine AllI.cons ?_ ?_
    · skip
      iterate 8 (refine AllI.cons (by first | exact .inl rfl | (refine .inr ?_; simp only [gCZ, gCS]; done) | exact .inr rfl) ?_)
      exact AllI.nil
    exact AllI.nil
  case he =>
  clear hB v sv
  rintro p w0r ⟨hsz, hB, v, sv, h_un⟩
  obtain ⟨le_un, un⟩ := h_un rfl
  clear h_un
  replace un : blk w0r (p 5) (vfn u) 31 := un
  have ne_v_un : w.heap.size ≠ p 5 := Nat.ne_of_lt (Nat.lt_of_lt_of_le lt_v le_un)
  have ne_sv_un : (w.heap.size + 1) ≠ p 5 := Nat.ne_of_lt (Nat.lt_of_lt_of_le lt_sv le_un)
  have ge_un : w.heap.size ≤ p 5 := Nat.le_trans hW0 le_un
  generalize p 5 = un_b at *
  clear lt_v lt_sv hsz hW0
  go_upto_region 2 with (fail)
  have lt_v := v.lt
  have lt_sv := sv.lt
  have lt_un := un.lt
  have hW0 : w.heap.size ≤ w0r.heap.size := by simpa using hB.size
  apply wp_region_Q 8 [0, 1, 3, 7, 15, 31, 63, 127] [] [_, _, _, _, _, _, _, _] (fun p L w' => w0r.heap.size ≤ w'.heap.size ∧ Below w.heap.size w w' ∧ blk w' w.heap.size (rbc x) 76 ∧ blk w' (w.heap.size + 1) (vfn sun) 31 ∧ blk w' un_b (vfn u) 31) _ [(0, 18), (1, 19), (2, 20), (3, 17), (4, 21), (5, 22), (6, 7), (7, 8)] [0, 1, 2, 3, 4, 5, 6, 7]
  case hn => rfl
  case hB => kernel_rfl
  case hds => kernel_rfl
  case hA => (intro p; simp only [putsD, Act.put, sIT, sCZ, sCS, gCZ, gCS]; exact rfl)
  case h0 => exact fun p => ⟨Nat.le_refl _, hB, v, sv, un⟩
  case hmore => exact fun p L w1 w2 ⟨hsz, hB, v, sv, un⟩ hm => ⟨Nat.le_trans hsz hm.size, hB.trans (hm.mono (Nat.le_trans hW0 hsz)), v.below hm v.lt, sv.below hm sv.lt, un.below hm un.lt⟩
  case hs =>
    intro more
    refine stepV 0 rfl rfl (fun _ _ _ h => h) ?_ ?_
    · rintro p L w1 ⟨hsz, hB, v, sv, un⟩ hk
      first | exact valR_row _ _ rfl _ rfl _ _ v _ Try.underlying76 rfl (by first | kernel_rfl | (rw [rbc_size]; kernel_rfl)) rfl | (have hc := v.cellIs (show _[0]? = some _ from rfl); go_simp; exact ⟨rfl, rfl⟩)
    refine stepV 1 rfl rfl (fun _ _ _ h => h) ?_ ?_
    · rintro p L w1 ⟨hsz, hB, v, sv, un⟩ hk
      first | exact valR_row _ _ rfl _ rfl _ _ un _ Try.underlying31 rfl (by first | kernel_rfl | (rw [vfn_size]; kernel_rfl)) rfl | (have hc := un.cellIs (vfn_get _ (show 0 < 3 by omega)); go_simp; exact ⟨rfl, rfl⟩)
    refine stepD 2 rfl (fun p => rfl) (fun _ _ _ h => h) more ?_ ?_
    · rintro p L w1 ⟨hsz, hB, v, sv, un⟩ hk
      go_simp
      refine (MD.out _).mono ?_
      rintro e w2 ⟨rfl, h2⟩
      first | exact ⟨rfl, h2⟩ | (subst h2; exact ⟨rfl, Below.refl _ _⟩)
    iterate 5 (refine stepV _ rfl rfl (fun _ _ _ h => h) (by intros; go_simp; exact ⟨rfl, rfl⟩) ?_)
    exact AllI.nil
  case hV0 => exact fun p q => AllI.nil
  case he =>
  clear hB v sv un
  rintro p w0rr ⟨hsz, hB, v, sv, un⟩
  clear lt_v lt_sv lt_un hsz hW0
  go_wp2_with (first
    | (go_at_call 30; with_reducible refine (AW.out _).mono ?_; rintro e w9 ⟨rfl, hb⟩; replace hB := hB.trans (hb.mono hB.size); replace v := v.below hb v.lt; replace sv := sv.below hb sv.lt; replace un := un.below hb un.lt; clear hb))
  go_ret
  exact ⟨rfl, hB⟩
set_option maxRecDepth 100000 in
set_option maxHeartbeats 12000000 in
theorem ssun_b (x : BSt) (sun : Nat → Int) (w : World) (hQ : ∀ i, i < 4 → I64 (x.Q i)) (hI : ∀ i, i < 3 → I64 (sun i)) (hk : newOk x = true) (hE : vunE sun = 2 ∨ vunE sun = 4) : Calls Try.prog 8 #[.agg (rbc x), .agg (vfn sun)] w fun e w' => e = .returned (.bool true) ∧ Below w.heap.size w w' := by
  have UN := Lib.hid (fun w => vunit_any sun w hI)
  have MD := Lib.hid (fun w => made26_yes x (vunF sun) w hQ hk)
  clear hQ hk hI
  generalize vunF sun = u at *
  have AW := Lib.hid (fun w => awake26_any w)
  rcases hE with hE | hE
  all_goals
    rw [hE] at UN
    clear hE
    go_enter Try.func8, Try.ntmps8
    go_upto_region 1 with (fail)
    have v : blk ((w.alloc (.cells (rbc x) 76)).alloc (.cells (vfn sun) 31)) w.heap.size (rbc x) 76 := (blk.new _ _ _).alloc _
    have sv : blk ((w.alloc (.cells (rbc x) 76)).alloc (.cells (vfn sun) 31)) (w.heap.size + 1) (vfn sun) 31 := blk.new' (by simp)
    have hB : Below w.heap.size w ((w.alloc (.cells (rbc x) 76)).alloc (.cells (vfn sun) 31)) := by go_grown
    generalize ((w.alloc (.cells (rbc x) 76)).alloc (.cells (vfn sun) 31)) = w0 at *
    have lt_v := v.lt
    have lt_sv := sv.lt
    have hW0 : w.heap.size ≤ w0.heap.size := by simpa using hB.size
    apply wp_region_Q 8 [0, 1, 3, 7, 15, 31, 63, 127] [5] [_, _, _, _, _, (fun p => .pointer (some ⟨p 5, 0, none⟩)), (fun _ => undef), _] (fun p L w' => w0.heap.size ≤ w'.heap.size ∧ Below w.heap.size w w' ∧ blk w' w.heap.size (rbc x) 76 ∧ blk w' (w.heap.size + 1) (vfn sun) 31 ∧ (L 5 = true → w0.heap.size ≤ p 5 ∧ blk w' (p 5) (bif L 6 then (vfn u) else (vfn fun _ => 0)) 31)) _ [(0, 13), (1, 14), (2, 12), (3, 15), (4, 16), (5, 5), (7, 6)] [0, 1, 2, 3, 4, 5, 6, 7]
    case hn => rfl
    case hB => kernel_rfl
    case hds => kernel_rfl
    case hA => (intro p; simp only [putsD, Act.put, sIT, sCZ, sCS, gCZ, gCS]; exact rfl)
    case h0 => exact fun p => ⟨Nat.le_refl _, hB, v, sv, fun h => absurd h (by decide)⟩
    case hmore => exact fun p L w1 w2 ⟨hsz, hB, v, sv, h_un⟩ hm => ⟨Nat.le_trans hsz hm.size, hB.trans (hm.mono (Nat.le_trans hW0 hsz)), v.below hm v.lt, sv.below hm sv.lt, fun hl => ⟨(h_un hl).1, (h_un hl).2.below hm (h_un hl).2.lt⟩⟩
    case hs =>
      intro more
      refine stepV 0 rfl rfl (fun _ _ _ h => h) ?_ ?_
      · rintro p L w1 ⟨hsz, hB, v, sv, h_un⟩ hk
        have L6 : L 6 = false := hk.2.2 6 rfl
        first | exact valR_row _ _ rfl _ rfl _ _ sv _ Try.underlying31 rfl (by first | kernel_rfl | (rw [vfn_size]; kernel_rfl)) rfl | (have hc := sv.cellIs (vfn_get _ (show 0 < 3 by omega)); go_simp; exact ⟨rfl, rfl⟩)
      refine stepD 1 rfl (fun p => rfl) (fun _ _ _ h => h) more ?_ ?_
      · rintro p L w1 ⟨hsz, hB, v, sv, h_un⟩ hk
        go_simp
        refine (UN.out _).mono ?_
        rintro e w2 ⟨rfl, h2⟩
        first | exact ⟨rfl, h2⟩ | (subst h2; exact ⟨rfl, Below.refl _ _⟩)
      iterate 3 (refine stepV _ rfl rfl (fun _ _ _ h => h) (by intros; go_simp; exact ⟨rfl, rfl⟩) ?_)
      refine AllI.cons ?_ ?_
      · refine stepI_alloc 5 rfl (fun p => rfl) rfl (vfn fun _ => 0) 31 (fun p => rfl) ?_ ?_
        · intro p w1
          go_simp
          first | done | rfl | rw [zero_vec]
        rintro p L w1 ⟨hsz, hB, v, sv, h_un⟩ hk
        have L6 : L 6 = false := hk.2.2 6 rfl
        refine ⟨Nat.le_trans hsz (by simp), hB.alloc (Nat.le_trans (by first | exact hW0 | (have := hB.size; simp at this ⊢; omega)) hsz) _, v.alloc _, sv.alloc _, fun _ => ⟨hsz, ?_⟩⟩
        rw [show upL L 5 6 = false from L6]
        exact blk.new _ _ _
      refine AllI.cons ?_ ?_
      · refine stepI_store 6 rfl (fun p => rfl) (fun p => rfl) _ _ _ rfl (fun p => p 5) 0 (fun p => rfl) (fun p => (vfn u)) (fun p => rfl) (fun p => (vfn fun _ => 0)) (fun p => (vfn u)) 31 (fun p => over_v _ _) (fun p => by first | (rw [vfn_size, vfn_size]; decide) | simp [vfn_size, vfn_size]) (fun p => by rw [vfn_size]; kernel_rfl) (fun p => vfn_one _) ?_ ?_
        · rintro p L w1 ⟨hsz, hB, v, sv, h_un⟩ hk
          have L6 : L 6 = false := hk.1
          have hh := (h_un (hk.2.1 5 rfl)).2
          rw [L6] at hh
          try simp only [cond_true, cond_false] at hh
          exact hh
        · rintro p L w1 ⟨hsz, hB, v, sv, h_un⟩ hk
          have L6 : L 6 = false := hk.1
          skip
          have hp := h_un (hk.2.1 5 rfl)
          refine ⟨(by simpa using hsz), Below.setRow hB (by first | exact Nat.le_trans hW0 hp.1 | exact ge_un | omega | (have := hB.size; simp at this ⊢; omega)) _, v.rowOther (by first | exact Nat.ne_of_lt (Nat.lt_of_lt_of_le lt_v hp.1) | omega) _, sv.rowOther (by first | exact Nat.ne_of_lt (Nat.lt_of_lt_of_le lt_sv hp.1) | omega) _, fun _ => ⟨hp.1, ?_⟩⟩
          rw [show upL L 6 6 = true from rfl]
          exact hp.2.row _
      refine stepV _ rfl rfl (fun _ _ _ h => h) (by intros; go_simp; exact ⟨rfl, rfl⟩) ?_
      exact AllI.nil
    case hV0 =>
      intro p q
      refine AllI.cons ?_ ?_
      · skip
        iterate 8 (refine AllI.cons (by first | exact .inl rfl | (refine .inr ?_; simp only [gCZ, gCS]; done) | exact .inr rfl) ?_)
        exact AllI.nil
      exact AllI.nil
    case he =>
    clear hB v sv
    rintro p w0r ⟨hsz, hB, v, sv, h_un⟩
    obtain ⟨le_un, un⟩ := h_un rfl
    clear h_un
    replace un : blk w0r (p 5) (vfn u) 31 := un
    have ne_v_un : w.heap.size ≠ p 5 := Nat.ne_of_lt (Nat.lt_of_lt_of_le lt_v le_un)
    have ne_sv_un : (w.heap.size + 1) ≠ p 5 := Nat.ne_of_lt (Nat.lt_of_lt_of_le lt_sv le_un)
    have ge_un : w.heap.size ≤ p 5 := Nat.le_trans hW0 le_un
    generalize p 5 = un_b at *
    clear lt_v lt_sv hsz hW0
    go_upto_region 2 with (fail)
    go_upto_region 3 with (first | (refine wpList_load_rowG ?hw _ _ rfl _ rfl _ _ _ _ v Try.underlying76 rfl ?hi ?_; (case hw => (first | rfl | (simp [Region.wanted, yielded]; done))); (case hi => (first | kernel_rfl | (rw [rbc_size]; kernel_rfl)))) | (refine wpList_load_rowG ?hw _ _ rfl _ rfl _ _ _ _ un Try.underlying31 rfl ?hi ?_; (case hw => (first | rfl | (simp [Region.wanted, yielded]; done))); (case hi => (first | kernel_rfl | (rw [vfn_size]; kernel_rfl)))) | (go_at_call 29; with_reducible refine (MD.out _).mono ?_; rintro e w1 ⟨lo, hi, lb, rfl, hle, l, hb⟩; replace hB := hB.trans (hb.mono hB.size); replace v := v.below hb v.lt; replace sv := sv.below hb sv.lt; replace un := un.below hb un.lt; clear hb))
    go_wp2_with (first
      | (go_at_call 30; with_reducible refine (AW.out _).mono ?_; rintro e w9 ⟨rfl, hb⟩; replace hB := hB.trans (hb.mono hB.size); replace v := v.below hb v.lt; replace sv := sv.below hb sv.lt; replace un := un.below hb un.lt; clear hb))
    go_ret
    exact ⟨rfl, hB⟩
set_option maxRecDepth 100000 in
set_option maxHeartbeats 20000000 in
theorem ssun_ok (x : BSt) (sun : Nat → Int) (w : World) (hQ : ∀ i, i < 4 → I64 (x.Q i)) (hI : ∀ i, i < 3 → I64 (sun i)) (hk : newOk x = true) (hE : vunE sun = 0) : Calls Try.prog 8 #[.agg (rbc x), .agg (vfn sun)] w fun e w' => e = .returned (.bool true) ∧ Below w.heap.size w w' := by
  have UN := Lib.hid (fun w => vunit_any sun w hI)
  have MD := Lib.hid (fun w => made26_yes x (vunF sun) w hQ hk)
  have b1 := vun_le (f := sun)
  obtain ⟨b2, b3⟩ := vun_facts hE
  have k0 : LSu 0 x SSt.zero (vunF sun) := LSu.start (RI.made hQ hk)
  rw [hE] at UN
  clear hQ hk hI hE
  generalize vunF sun = u at *
  have TK : Hid (∀ i X S, LSu i X S u → ∃ X2 S2 v, LSu (i + 1) X2 S2 u ∧ ∀ lo hi lb w, lop lo hi lb w (X, S, u) → Calls Try.prog 31 #[.pointer (some ⟨lb, 0, none⟩), .int .i64 1, .agg #[.int .i64 0, .int .i64 0, .int .i64 0, .int .i64 0]] w fun e w' => e = .returned (.tuple #[.agg (vfn v), .bool true]) ∧ lop lo hi lb w' (X2, S2, u) ∧ Save lo hi w w') := Lib.hid (fun i X S h => by
    rw [zero_quat]; exact tickSu_any _ h b1 b2 b3)
  have SE := Lib.hid (fun w X S lo hi lb (ho : lop lo hi lb w (X, S, u)) (k : BI X) => sense_any X S u lo hi lb w ho k)
  have QB := Lib.hid (fun (X : BSt) (k : BI X) => qback_wide k.q k.v b1 b3 (i := 2) (by omega))
  clear b1 b2 b3
  have AW := Lib.hid (fun w => awake26_any w)
  go_enter Try.func8, Try.ntmps8
  go_upto_region 1 with (fail)
  have v : blk ((w.alloc (.cells (rbc x) 76)).alloc (.cells (vfn sun) 31)) w.heap.size (rbc x) 76 := (blk.new _ _ _).alloc _
  have sv : blk ((w.alloc (.cells (rbc x) 76)).alloc (.cells (vfn sun) 31)) (w.heap.size + 1) (vfn sun) 31 := blk.new' (by simp)
  have hB : Below w.heap.size w ((w.alloc (.cells (rbc x) 76)).alloc (.cells (vfn sun) 31)) := by go_grown
  generalize ((w.alloc (.cells (rbc x) 76)).alloc (.cells (vfn sun) 31)) = w0 at *
  have lt_v := v.lt
  have lt_sv := sv.lt
  have hW0 : w.heap.size ≤ w0.heap.size := by simpa using hB.size
  apply wp_region_Q 8 [0, 1, 3, 7, 15, 31, 63, 127] [5] [_, _, _, _, _, (fun p => .pointer (some ⟨p 5, 0, none⟩)), (fun _ => undef), _] (fun p L w' => w0.heap.size ≤ w'.heap.size ∧ Below w.heap.size w w' ∧ blk w' w.heap.size (rbc x) 76 ∧ blk w' (w.heap.size + 1) (vfn sun) 31 ∧ (L 5 = true → w0.heap.size ≤ p 5 ∧ blk w' (p 5) (bif L 6 then (vfn u) else (vfn fun _ => 0)) 31)) _ [(0, 13), (1, 14), (2, 12), (3, 15), (4, 16), (5, 5), (7, 6)] [0, 1, 2, 3, 4, 5, 6, 7]
  case hn => rfl
  case hB => kernel_rfl
  case hds => kernel_rfl
  case hA => (intro p; simp only [putsD, Act.put, sIT, sCZ, sCS, gCZ, gCS]; exact rfl)
  case h0 => exact fun p => ⟨Nat.le_refl _, hB, v, sv, fun h => absurd h (by decide)⟩
  case hmore => exact fun p L w1 w2 ⟨hsz, hB, v, sv, h_un⟩ hm => ⟨Nat.le_trans hsz hm.size, hB.trans (hm.mono (Nat.le_trans hW0 hsz)), v.below hm v.lt, sv.below hm sv.lt, fun hl => ⟨(h_un hl).1, (h_un hl).2.below hm (h_un hl).2.lt⟩⟩
  case hs =>
    intro more
    refine stepV 0 rfl rfl (fun _ _ _ h => h) ?_ ?_
    · rintro p L w1 ⟨hsz, hB, v, sv, h_un⟩ hk
      have L6 : L 6 = false := hk.2.2 6 rfl
      first | exact valR_row _ _ rfl _ rfl _ _ sv _ Try.underlying31 rfl (by first | kernel_rfl | (rw [vfn_size]; kernel_rfl)) rfl | (have hc := sv.cellIs (vfn_get _ (show 0 < 3 by omega)); go_simp; exact ⟨rfl, rfl⟩)
    refine stepD 1 rfl (fun p => rfl) (fun _ _ _ h => h) more ?_ ?_
    · rintro p L w1 ⟨hsz, hB, v, sv, h_un⟩ hk
      go_simp
      refine (UN.out _).mono ?_
      rintro e w2 ⟨rfl, h2⟩
      first | exact ⟨rfl, h2⟩ | (subst h2; exact ⟨rfl, Below.refl _ _⟩)
    iterate 3 (refine stepV _ rfl rfl (fun _ _ _ h => h) (by intros; go_simp; exact ⟨rfl, rfl⟩) ?_)
    refine AllI.cons ?_ ?_
    · refine stepI_alloc 5 rfl (fun p => rfl) rfl (vfn fun _ => 0) 31 (fun p => rfl) ?_ ?_
      · intro p w1
        go_simp
        first | done | rfl | rw [zero_vec]
      rintro p L w1 ⟨hsz, hB, v, sv, h_un⟩ hk
      have L6 : L 6 = false := hk.2.2 6 rfl
      refine ⟨Nat.le_trans hsz (by simp), hB.alloc (Nat.le_trans (by first | exact hW0 | (have := hB.size; simp at this ⊢; omega)) hsz) _, v.alloc _, sv.alloc _, fun _ => ⟨hsz, ?_⟩⟩
      rw [show upL L 5 6 = false from L6]
      exact blk.new _ _ _
    refine AllI.cons ?_ ?_
    · refine stepI_store 6 rfl (fun p => rfl) (fun p => rfl) _ _ _ rfl (fun p => p 5) 0 (fun p => rfl) (fun p => (vfn u)) (fun p => rfl) (fun p => (vfn fun _ => 0)) (fun p => (vfn u)) 31 (fun p => over_v _ _) (fun p => by first | (rw [vfn_size, vfn_size]; decide) | simp [vfn_size, vfn_size]) (fun p => by rw [vfn_size]; kernel_rfl) (fun p => vfn_one _) ?_ ?_
      · rintro p L w1 ⟨hsz, hB, v, sv, h_un⟩ hk
        have L6 : L 6 = false := hk.1
        have hh := (h_un (hk.2.1 5 rfl)).2
        rw [L6] at hh
        try simp only [cond_true, cond_false] at hh
        exact hh
      · rintro p L w1 ⟨hsz, hB, v, sv, h_un⟩ hk
        have L6 : L 6 = false := hk.1
        skip
        have hp := h_un (hk.2.1 5 rfl)
        refine ⟨(by simpa using hsz), Below.setRow hB (by first | exact Nat.le_trans hW0 hp.1 | exact ge_un | omega | (have := hB.size; simp at this ⊢; omega)) _, v.rowOther (by first | exact Nat.ne_of_lt (Nat.lt_of_lt_of_le lt_v hp.1) | omega) _, sv.rowOther (by first | exact Nat.ne_of_lt (Nat.lt_of_lt_of_le lt_sv hp.1) | omega) _, fun _ => ⟨hp.1, ?_⟩⟩
        rw [show upL L 6 6 = true from rfl]
        exact hp.2.row _
    refine stepV _ rfl rfl (fun _ _ _ h => h) (by intros; go_simp; exact ⟨rfl, rfl⟩) ?_
    exact AllI.nil
  case hV0 =>
    intro p q
    refine AllI.cons ?_ ?_
    · skip
      iterate 8 (refine AllI.cons (by first | exact .inl rfl | (refine .inr ?_; simp only [gCZ, gCS]; done) | exact .inr rfl) ?_)
      exact AllI.nil
    exact AllI.nil
  case he =>
  clear hB v sv
  rintro p w0r ⟨hsz, hB, v, sv, h_un⟩
  obtain ⟨le_un, un⟩ := h_un rfl
  clear h_un
  replace un : blk w0r (p 5) (vfn u) 31 := un
  have ne_v_un : w.heap.size ≠ p 5 := Nat.ne_of_lt (Nat.lt_of_lt_of_le lt_v le_un)
  have ne_sv_un : (w.heap.size + 1) ≠ p 5 := Nat.ne_of_lt (Nat.lt_of_lt_of_le lt_sv le_un)
  have ge_un : w.heap.size ≤ p 5 := Nat.le_trans hW0 le_un
  generalize p 5 = un_b at *
  clear lt_v lt_sv hsz hW0
  go_upto_region 2 with (fail)
  have hlo := hB.size
  go_upto_region 3 with (first | (refine wpList_load_rowG ?hw _ _ rfl _ rfl _ _ _ _ v Try.underlying76 rfl ?hi ?_; (case hw => (first | rfl | (simp [Region.wanted, yielded]; done))); (case hi => (first | kernel_rfl | (rw [rbc_size]; kernel_rfl)))) | (refine wpList_load_rowG ?hw _ _ rfl _ rfl _ _ _ _ un Try.underlying31 rfl ?hi ?_; (case hw => (first | rfl | (simp [Region.wanted, yielded]; done))); (case hi => (first | kernel_rfl | (rw [vfn_size]; kernel_rfl)))) | (go_at_call 29; with_reducible refine (MD.out _).mono ?_; rintro e w1 ⟨lo, hi, lb, rfl, hle, l, hb⟩; replace hB := hB.trans (hb.mono hB.size); replace v := v.below hb v.lt; replace sv := sv.below hb sv.lt; replace un := un.below hb un.lt; clear hb))
  replace hlo : w.heap.size ≤ lo := Nat.le_trans hlo hle
  clear MD UN hle v un sv
  go_wp2_with (fail)
  go_loopg [9] 360 (fun g_ iv wr => ∃ (k : Nat) (X : BSt) (S : SSt), g_ + k = 360 ∧ iv = .int .i64 k ∧ LSu k X S u ∧ lop lo hi lb wr (X, S, u) ∧ Below w.heap.size w wr)
  case atStart => exact ⟨0, x, SSt.zero, rfl, rfl, k0, l, hB⟩
  case round =>
    clear l hB k0
    obtain ⟨k, X, S, hk, rfl, kL, l, hB⟩ := hrel
    by_cases hkn : k < 360
    · have hdk : decide ((k : Int) < 360) = true := decide_eq_true (by omega)
      have hdk' : decide (k < 360) = true := decide_eq_true (by omega)
      have hw3 : IntKind.i64.wrap ((k : Int) + 1) = ((k + 1 : Nat) : Int) := by rw [IntKind.wrap_i64]; omega
      obtain ⟨X2, S2, v, kL2, TK2⟩ := TK.out k X S kL
      replace TK2 := Lib.hid TK2
      clear kL
      go_upto_region 9 with (first | (go_at_call 31; with_reducible refine (TK2.out _ _ _ _ l).mono ?_; rintro e w5 ⟨rfl, l2, hS⟩; replace hB := hB.trans (hS.below hB.size hlo); clear hS) | (rw [zero_vec]; refine wpList_store_row rfl _ _ _ rfl _ rfl _ rfl _ _ (blk.new _ _ _) (by first | kernel_rfl | (rw [vfn_size]; kernel_rfl)) (by first | rfl | simp only [vfn_size]) (by first | exact vfn_one _ | rfl) ?_))
      clear l TK2
      replace l := l2
      clear l2
      have c := (blk.new w5 (vfn fun _ => 0) 31).row (vfn v)
      replace hB := Below.setRow (hB.alloc hB.size (.cells (vfn fun _ => 0) 31)) (g := w5.heap.size) hB.size (vfn v)
      have hne : ∀ x, x < w5.heap.size → x ≠ w5.heap.size := fun x hx => Nat.ne_of_lt hx
      have out_c : hi < w5.heap.size := l.lt
      replace l := (l.alloc (.cells (vfn fun _ => 0) 31)).rowOther (.inr l.lt) (vfn v)
      clear hne
      generalize (w5.alloc (.cells (vfn fun _ => 0) 31)).setRow w5.heap.size (vfn v) = w5x at *
      generalize w5.heap.size = c_b at *
      clear c
      by_cases h9 : k < 300
      · have hd9 : decide ((300 : Int) ≤ (k : Int)) = false := decide_eq_false (by omega)
        have hd9' : decide (300 ≤ k) = false := decide_eq_false (by omega)
        go_wp2_with (fail)
        go_roundg (360 - (k + 1))
        case rel =>
          exact ⟨k + 1, X2, S2, by omega, rfl, kL2, l, hB⟩
        case measure => omega
      · have hd9 : decide ((300 : Int) ≤ (k : Int)) = true := decide_eq_true (by omega)
        have hd9' : decide (300 ≤ k) = true := decide_eq_true (by omega)
        have e1 := kL2.fin (by omega)
        obtain ⟨kb, _, _⟩ := kL2.bs
        have e2 : qbackF X2.Q u 2 ≤ 2147483648 := by
          exact (QB.out X2 kb).2
        have hw4 : IntKind.i64.wrap (4 * qbackF X2.Q u 2) = 4 * qbackF X2.Q u 2 := by rw [IntKind.wrap_i64]; omega
        have hd4 : decide (4 * qbackF X2.Q u 2 < 3221225472) = false := decide_eq_false (by omega)
        have SE2 : Hid (∀ w, lop lo hi lb w (X2, S2, u) → Calls Try.prog 32 #[.pointer (some ⟨lb, 0, none⟩)] w fun e w' => e = .returned (.agg #[.int .i64 ((senseV X2 u).rate 0), .int .i64 ((senseV X2 u).rate 1), .int .i64 ((senseV X2 u).rate 2), .int .i64 ((senseV X2 u).sp 0), .int .i64 ((senseV X2 u).sp 1), .int .i64 ((senseV X2 u).sp 2), .int .i64 ((senseV X2 u).sp 3), .int .i64 (senseV X2 u).f, .int .i64 ((senseV X2 u).sun 0), .int .i64 ((senseV X2 u).sun 1), .int .i64 (qbackF X2.Q u 2), .int .i64 ((senseV X2 u).att 0), .int .i64 ((senseV X2 u).att 1), .int .i64 ((senseV X2 u).att 2), .int .i64 ((senseV X2 u).att 3)]) ∧ Below w.heap.size w w') := Lib.hid (fun w ho => SE.out w X2 S2 lo hi lb ho kb)
        have IL := Lib.hid (fun w => i31 ((senseV X2 u).sun 0) ((senseV X2 u).sun 1) (qbackF X2.Q u 2) w)
        have FL := Lib.hid (fun w => f85 ((senseV X2 u).rate 0) ((senseV X2 u).rate 1) ((senseV X2 u).rate 2) ((senseV X2 u).sp 0) ((senseV X2 u).sp 1) ((senseV X2 u).sp 2) ((senseV X2 u).sp 3) (senseV X2 u).f ((senseV X2 u).sun 0) ((senseV X2 u).sun 1) (qbackF X2.Q u 2) ((senseV X2 u).att 0) ((senseV X2 u).att 1) ((senseV X2 u).att 2) ((senseV X2 u).att 3) w)
        clear kb e1 e2
        generalize (senseV X2 u).rate = ra at *
        generalize (senseV X2 u).sp = sa at *
        generalize (senseV X2 u).f = fa at *
        generalize (senseV X2 u).sun = ua at *
        generalize (senseV X2 u).att = aa at *
        go_wp2_with (first | (go_at_call 32; with_reducible refine (SE2.out _ l).mono ?_; rintro e w6 ⟨rfl, hb⟩; replace hB := hB.trans (hb.mono hB.size); replace l := l.below hb l.lt; clear hb) | (refine wpList_field ?hw _ _ _ rfl _ rfl _ FL.out ?_; (case hw => (first | rfl | (simp [Region.wanted, yielded]; done)))) | (refine wpList_index ?hw _ _ _ rfl _ rfl 2 _ rfl rfl _ IL.out ?_; (case hw => (first | rfl | (simp [Region.wanted, yielded]; done)))))
        go_roundg (360 - (k + 1))
        case rel =>
          exact ⟨k + 1, X2, S2, by omega, rfl, kL2, l, hB⟩
        case measure => omega
    · obtain rfl : k = 360 := by omega
      go_wp2_with (first
        | (go_at_call 30; with_reducible refine (AW.out _).mono ?_; rintro e w9 ⟨rfl, hb⟩; replace hB := hB.trans (hb.mono hB.size); clear hb))
      go_ret
      exact ⟨rfl, hB⟩
theorem ssun_any (x : BSt) (sun : Nat → Int) (w : World) (hQ : ∀ i, i < 4 → I64 (x.Q i)) (hI : ∀ i, i < 3 → I64 (sun i)) : Calls Try.prog 8 #[.agg (rbc x), .agg (vfn sun)] w fun e w' => e = .returned (.bool true) ∧ Below w.heap.size w w' := by
  cases hk : newOk x with
  | false => exact ssun_a x sun w hQ hI hk
  | true =>
    have h : vunE sun = 2 ∨ vunE sun = 4 ∨ vunE sun = 0 := by unfold vunE; cases okV sun <;> cases zV sun <;> simp
    rcases h with h | h | h
    · exact ssun_b x sun w hQ hI hk (.inl h)
    · exact ssun_b x sun w hQ hI hk (.inr h)
    · exact ssun_ok x sun w hQ hI hk h
end Go.Proofs.Ytkmelddejdikgaa
