/-
  A turn of an attitude, seen from another one: what the error's components become. No program in sight. A turn of an attitude, and the rotation that is left to another one: the law, near and far. No program in sight. Shortened vectors are not farther apart than the vectors, but for rounding. No program in sight. How far what is left moves in a tick, and what is wanted. No program in sight. A tick of Point, plainly: what is left shrinks. No program in sight. Point, plainly: what is left shrinks, far and near. No program in sight. Point, plainly: ticks, one behind the other. No program in sight. Ticks of any act behind rest, plainly: the body has the momentum that is commanded. No program in sight. The loop from its beginning: acts that do nothing until the wheels are where they shall be, plainly; and a tick. Point: a tick of the loop, from its beginning. The loop: made. The statement on Point.
-/
import Derived.Test.YtkmelddejdikgaaBetM
import Derived.Test.YtkmelddejdikgaaBetV
import Derived.Test.YtkmelddejdikgaaLenN
import Derived.Test.YtkmelddejdikgaaKeep
import Derived.Test.YtkmelddejdikgaaStL
import Derived.Test.YtkmelddejdikgaaRstF
import Derived.Test.YtkmelddejdikgaaLpB
import Derived.Test.YtkmelddejdikgaaStF
import Derived.Test.YtkmelddejdikgaaStM
import Derived.Test.YtkmelddejdikgaaArg
set_option linter.unusedSimpArgs false
set_option linter.unusedVariables false
namespace Go.Proofs.Ytkmelddejdikgaa
open Go.RowKit PM Dt
theorem pe_cj_pe (Q R q : Nat → Int) (i : Nat) (hi : i < 4) : pe (cj (pe Q R)) q i = pe (cj R) (pe (cj Q) q) i := by
  have : i = 0 ∨ i = 1 ∨ i = 2 ∨ i = 3 := by omega
  rcases this with rfl | rfl | rfl | rfl <;> simp only [pe, cj] <;> grind
theorem pe_lin1 (x y q : Nat → Int) (a b : Int) (i : Nat) (hi : i < 4) : pe (cj fun j => a * x j + b * y j) q i = a * pe (cj x) q i + b * pe (cj y) q i := by
  have : i = 0 ∨ i = 1 ∨ i = 2 ∨ i = 3 := by omega
  rcases this with rfl | rfl | rfl | rfl <;> simp only [pe, cj] <;> grind
theorem pe_congr1 {x y q : Nat → Int} (h : ∀ j, j < 4 → x j = y j) (i : Nat) (hi : i < 4) : pe (cj x) q i = pe (cj y) q i := by
  have h0 := h 0 (by omega)
  have h1 := h 1 (by omega)
  have h2 := h 2 (by omega)
  have h3 := h 3 (by omega)
  have : i = 0 ∨ i = 1 ∨ i = 2 ∨ i = 3 := by omega
  rcases this with rfl | rfl | rfl | rfl <;> simp only [pe, cj] <;> rw [h0, h1, h2, h3]
def eD (Q q : Nat → Int) : Nat → Int := pe (cj Q) q
theorem eD_nn (Q q : Nat → Int) : nn (eD Q q) = nn Q * nn q := by unfold eD; rw [pe_nn, nn_cj]
theorem turn_eq {Q q h : Nat → Int} (hI : ∀ i, i < 4 → I64 (Q i)) (hQ : validQ Q = true) (hs : smallB h 1073741824 = true) :
    ∃ N P : Int, ∃ eta p : Nat → Int, 35184372088832 ≤ N ∧ 0 < P ∧ N * N ≤ P * P * nn p ∧ P * P * nn p < (N + 1) * (N + 1) ∧ (∀ j, j < 4 → ∃ e, 1073741824 * p j = pe Q (rq h) j + e ∧ -536870912 ≤ e ∧ e ≤ 536870912) ∧
      (∀ j, j < 4 → -(1152921504606846976 * P + 1073741824 * N) ≤ eta j ∧ eta j ≤ 1152921504606846976 * P + 1073741824 * N) ∧
      ∀ i, i < 4 → 2147483648 * N * eD (turnF Q h) q i = 2147483648 * P * pe (cj (rq h)) (eD Q q) i + pe (cj eta) q i := by
  obtain ⟨_, hT, hk, hz⟩ := turn_core hI hQ hs
  obtain ⟨kQ, _, _⟩ := valid_nn hI hQ
  obtain ⟨kR, _, _⟩ := rq_ok hs
  obtain ⟨_, _, ⟨N, P, hN, hP, h1, h2, hu⟩, _⟩ := qun_core hk hz
  have hpr : ∀ j, ∃ e, j < 4 → 1073741824 * qprodF Q (rq h) j = pe Q (rq h) j + e ∧ -536870912 ≤ e ∧ e ≤ 536870912 := fun j => by
    by_cases hj : j < 4
    · obtain ⟨e, he⟩ := prod_err kQ kR hj; exact ⟨e, fun _ => he⟩
    · exact ⟨0, fun h => absurd h hj⟩
  obtain ⟨e, he⟩ := Classical.skolem.1 hpr
  have hdd : ∀ j, ∃ d, j < 4 → 2 * (N * qunF (qprodF Q (rq h)) j) = 2 * (1073741824 * (P * qprodF Q (rq h) j)) + d ∧ -N ≤ d ∧ d ≤ N := fun j => by
    by_cases hj : j < 4
    · obtain ⟨d, hd⟩ := hu j hj; exact ⟨d, fun _ => hd⟩
    · exact ⟨0, fun h => absurd h hj⟩
  obtain ⟨d, hd⟩ := Classical.skolem.1 hdd
  refine ⟨N, P, fun j => 2147483648 * P * e j + 1073741824 * d j, qprodF Q (rq h), hN, hP, h1, h2, fun j hj => ⟨e j, he j hj⟩, fun j hj => ?_, fun i hi => ?_⟩
  · obtain ⟨_, e1, e2⟩ := he j hj
    obtain ⟨_, d1, d2⟩ := hd j hj
    have b1 : P * e j ≤ P * 536870912 := Int.mul_le_mul_of_nonneg_left e2 (by omega)
    have b2 : P * -536870912 ≤ P * e j := Int.mul_le_mul_of_nonneg_left e1 (by omega)
    have e3 : 2147483648 * P * e j = 2147483648 * (P * e j) := by rw [Int.mul_assoc]
    show _ ≤ 2147483648 * P * e j + 1073741824 * d j ∧ 2147483648 * P * e j + 1073741824 * d j ≤ _
    rw [e3]
    omega
  · have key : ∀ j, j < 4 → 2147483648 * N * turnF Q h j = 2147483648 * P * pe Q (rq h) j + 1 * (2147483648 * P * e j + 1073741824 * d j) := fun j hj => by
      rw [hT]
      obtain ⟨e0, _⟩ := he j hj
      obtain ⟨d0, _⟩ := hd j hj
      generalize qunF (qprodF Q (rq h)) j = t at *
      generalize qprodF Q (rq h) j = p at *
      have x1 : 2147483648 * N * t = 1073741824 * (2 * (N * t)) := by grind
      have x2 : 2147483648 * P * pe Q (rq h) j + 2147483648 * P * e j = 2147483648 * P * (1073741824 * p) := by rw [e0]; grind
      have x3 : 1073741824 * (2 * (1073741824 * (P * p))) = 2147483648 * P * (1073741824 * p) := by grind
      rw [x1, d0]
      omega
    have l1 := pe_lin1 (turnF Q h) (fun _ => 0) q (2147483648 * N) 0 i hi
    have l2 := pe_lin1 (pe Q (rq h)) (fun j => 2147483648 * P * e j + 1073741824 * d j) q (2147483648 * P) 1 i hi
    have l3 := pe_congr1 (q := q) (x := fun j => 2147483648 * N * turnF Q h j + 0 * (fun _ => (0 : Int)) j) (y := fun j => 2147483648 * P * pe Q (rq h) j + 1 * (2147483648 * P * e j + 1073741824 * d j)) (fun j hj => by
      have := key j hj
      show 2147483648 * N * turnF Q h j + 0 * 0 = _
      rw [this]; omega) i hi
    rw [l1, l2, pe_cj_pe Q (rq h) q i hi] at l3
    unfold eD
    have x1 : 0 * pe (cj fun _ => 0) q i = 0 := Int.zero_mul _
    omega
end Go.Proofs.Ytkmelddejdikgaa
namespace Go.Proofs.Ytkmelddejdikgaa
open Go.RowKit PM Dt
theorem pe_cjF {Q q : Nat → Int} (k1 : okQ Q = true) (j : Nat) (hj : j < 4) : pe (conjF Q) q j = eD Q q j :=
  pe_l (cj_eq k1 0 (by omega)) (cj_eq k1 1 (by omega)) (cj_eq k1 2 (by omega)) (cj_eq k1 3 (by omega)) j
theorem bet_cases {Q q : Nat → Int} (hI : ∀ i, i < 4 → I64 (Q i)) (hQ : validQ Q = true) (hJ : ∀ i, i < 4 → I64 (q i)) (hq : validQ q = true) :
    (-536870912 ≤ eD Q q 0 ∧ 0 ≤ betF Q q 0 ∧ ∀ j, j < 4 → -536870912 ≤ 1073741824 * betF Q q j - eD Q q j ∧ 1073741824 * betF Q q j - eD Q q j ≤ 536870912) ∨
    (eD Q q 0 ≤ 536870912 ∧ 0 ≤ betF Q q 0 ∧ ∀ j, j < 4 → -536870912 ≤ 1073741824 * betF Q q j + eD Q q j ∧ 1073741824 * betF Q q j + eD Q q j ≤ 536870912) := by
  obtain ⟨k1, _, _⟩ := valid_nn hI hQ
  obtain ⟨k2, _, _⟩ := valid_nn hJ hq
  have hp : ∀ j, j < 4 → ∃ e, 1073741824 * qprodF (conjF Q) q j = eD Q q j + e ∧ -536870912 ≤ e ∧ e ≤ 536870912 := fun j hj => by
    obtain ⟨e, he, l, u⟩ := prod_err (cj_ok k1) k2 hj
    rw [pe_cjF k1 j hj] at he
    exact ⟨e, he, l, u⟩
  have hb : betF Q q = betX Q q := by
    unfold betF
    rw [hQ, hq, Bool.and_self, if_pos rfl]
  rw [hb]
  unfold betX
  obtain ⟨e0, h0, l0, u0⟩ := hp 0 (by omega)
  generalize qprodF (conjF Q) q = p at *
  by_cases h : p 0 < 0
  · rw [if_pos h]
    refine .inr ⟨by omega, by unfold negF; omega, fun j hj => ?_⟩
    obtain ⟨e, he, l, u⟩ := hp j hj
    unfold negF
    omega
  · rw [if_neg h]
    refine .inl ⟨by omega, by omega, fun j hj => ?_⟩
    obtain ⟨e, he, l, u⟩ := hp j hj
    omega
theorem bet_some {Q q : Nat → Int} (hI : ∀ i, i < 4 → I64 (Q i)) (hQ : validQ Q = true) (hJ : ∀ i, i < 4 → I64 (q i)) (hq : validQ q = true) :
    0 ≤ betF Q q 0 ∧ ∃ s : Int, (s = 1 ∨ s = -1) ∧ ∃ e : Nat → Int, ∀ j, j < 4 → (-536870912 ≤ e j ∧ e j ≤ 536870912) ∧ 1073741824 * betF Q q j = s * eD Q q j + e j := by
  rcases bet_cases hI hQ hJ hq with ⟨_, h0, h⟩ | ⟨_, h0, h⟩
  · exact ⟨h0, 1, .inl rfl, fun j => 1073741824 * betF Q q j - eD Q q j, fun j hj => ⟨h j hj, by show _ = 1 * eD Q q j + (1073741824 * betF Q q j - eD Q q j); omega⟩⟩
  · exact ⟨h0, -1, .inr rfl, fun j => 1073741824 * betF Q q j + eD Q q j, fun j hj => ⟨h j hj, by show _ = -1 * eD Q q j + (1073741824 * betF Q q j + eD Q q j); omega⟩⟩
theorem bet_with {Q q : Nat → Int} {s : Int} (hI : ∀ i, i < 4 → I64 (Q i)) (hQ : validQ Q = true) (hJ : ∀ i, i < 4 → I64 (q i)) (hq : validQ q = true) (hs : s = 1 ∨ s = -1) (h0 : 536870912 < s * eD Q q 0) :
    ∀ j, j < 4 → -536870912 ≤ 1073741824 * betF Q q j - s * eD Q q j ∧ 1073741824 * betF Q q j - s * eD Q q j ≤ 536870912 := by
  rcases bet_cases hI hQ hJ hq with ⟨l, _, h⟩ | ⟨u, _, h⟩
  · rcases hs with rfl | rfl
    · intro j hj; have := h j hj; omega
    · omega
  · rcases hs with rfl | rfl
    · omega
    · intro j hj; have := h j hj; omega
theorem bet_nn {Q q : Nat → Int} (hI : ∀ i, i < 4 → I64 (Q i)) (hQ : validQ Q = true) (hJ : ∀ i, i < 4 → I64 (q i)) (hq : validQ q = true) :
    1073741814 * 1073741814 ≤ nn (betF Q q) ∧ nn (betF Q q) ≤ 1073741836 * 1073741836 := by
  obtain ⟨_, l1, u1⟩ := valid_nn hI hQ
  obtain ⟨_, l2, u2⟩ := valid_nn hJ hq
  obtain ⟨_, s, hs, e, he⟩ := bet_some hI hQ hJ hq
  have hn := eD_nn Q q
  have lo : 1073741820 * 1073741820 * (1073741820 * 1073741820) ≤ nn Q * nn q := Int.mul_le_mul l1 l2 (by decide) (by omega)
  have up : nn Q * nn q ≤ 1073741829 * 1073741829 * (1073741829 * 1073741829) := Int.mul_le_mul (by omega) (by omega) (nn_nonneg q) (by decide)
  rw [← hn] at lo up
  have hss : s * s = 1 := by rcases hs with rfl | rfl <;> rfl
  have hne : nn e ≤ 1073741824 * 1073741824 := nn_bd (B := 536870912) fun i hi => (he i hi).1
  have e1 : nn (sc s (eD Q q)) = nn (eD Q q) := by rw [nn_sc, hss]; omega
  have e2 : nn (sc 1073741824 (betF Q q)) = 1073741824 * 1073741824 * nn (betF Q q) := nn_sc _ _
  have e3 : nn (sc (-1) e) = nn e := by rw [nn_sc]; omega
  constructor
  · apply Classical.byContradiction; intro hc
    have t := tri4 (x := sc 1073741824 (betF Q q)) (y := sc (-1) e) (z := sc s (eD Q q)) (X := 1073741824 * 1073741814) (Y := 1073741824) (by decide) (by decide) (by rw [e2]; omega) (by rw [e3]; exact hne) (fun i hi => by
      have := (he i hi).2
      show s * eD Q q i = 1073741824 * betF Q q i + -1 * e i
      omega)
    rw [e1] at t
    omega
  · have t := tri4 (x := sc s (eD Q q)) (y := e) (z := sc 1073741824 (betF Q q)) (X := 1073741829 * 1073741829) (Y := 1073741824) (by decide) (by decide) (by rw [e1]; omega) hne (fun i hi => (he i hi).2)
    rw [e2] at t
    omega
theorem turn_scaleB {N P : Int} {Q h p : Nat → Int} (hQl : 1073741820 * 1073741820 ≤ nn Q) (hQu : nn Q < 1073741829 * 1073741829) (hh : h 0 * h 0 + h 1 * h 1 + h 2 * h 2 ≤ 70369817919488) (hN : 35184372088832 ≤ N) (hP : 0 < P) (h1 : N * N ≤ P * P * nn p) (h2 : P * P * nn p < (N + 1) * (N + 1))
    (hp : ∀ j, j < 4 → ∃ e, 1073741824 * p j = pe Q (rq h) j + e ∧ -536870912 ≤ e ∧ e ≤ 536870912) : P * 1073741818 ≤ N ∧ N ≤ P * 1073774599 := by
  have hex : ∀ j, ∃ e, j < 4 → 1073741824 * p j = pe Q (rq h) j + e ∧ -536870912 ≤ e ∧ e ≤ 536870912 := fun j => by
    by_cases hj : j < 4
    · obtain ⟨e, he⟩ := hp j hj; exact ⟨e, fun _ => he⟩
    · exact ⟨0, fun h => absurd h hj⟩
  obtain ⟨e, he⟩ := Classical.skolem.1 hex
  have hne : nn e ≤ 1073741824 * 1073741824 := nn_bd (B := 536870912) fun i hi => (he i hi).2
  have hR := rq_nn h
  have n0 := sq_nn (h 0)
  have n1 := sq_nn (h 1)
  have n2 := sq_nn (h 2)
  have Rl : 1073741824 * 1073741824 ≤ nn (rq h) := by omega
  have Ru : nn (rq h) ≤ 1073774592 * 1073774592 := by omega
  have eE : nn (pe Q (rq h)) = nn Q * nn (rq h) := pe_nn _ _
  have XU : nn Q * nn (rq h) ≤ 1073741829 * 1073741829 * (1073774592 * 1073774592) := Int.mul_le_mul (by omega) Ru (nn_nonneg _) (by decide)
  have XL : 1073741820 * 1073741820 * (1073741824 * 1073741824) ≤ nn Q * nn (rq h) := Int.mul_le_mul hQl Rl (by decide) (nn_nonneg _)
  have hPP : 0 ≤ P * P := Int.mul_nonneg (by omega) (by omega)
  constructor
  · have t := tri4 (x := sc (1073741824 * P) p) (y := sc (-P) e) (z := sc P (pe Q (rq h))) (X := 1073741824 * (N + 1)) (Y := 1073741824 * P) (by omega) (by omega) (by
      rw [nn_sc]
      have e1 : 1073741824 * P * (1073741824 * P) * nn p = 1073741824 * 1073741824 * (P * P * nn p) := by grind
      have e2 : 1073741824 * (N + 1) * (1073741824 * (N + 1)) = 1073741824 * 1073741824 * ((N + 1) * (N + 1)) := by grind
      rw [e1, e2]; omega) (by
      rw [nn_sc]
      have e1 : -P * -P * nn e = P * P * nn e := by grind
      have e2 : 1073741824 * P * (1073741824 * P) = P * P * (1073741824 * 1073741824) := by grind
      rw [e1, e2]
      exact Int.mul_le_mul_of_nonneg_left hne hPP) (fun i hi => by
      obtain ⟨e0, _⟩ := he i hi
      show P * pe Q (rq h) i = 1073741824 * P * p i + -P * e i
      have : pe Q (rq h) i = 1073741824 * p i - e i := by omega
      rw [this]; grind)
    rw [nn_sc, eE] at t
    have lo := Int.mul_le_mul_of_nonneg_left XL hPP
    have e3 : P * P * (1073741820 * 1073741820 * (1073741824 * 1073741824)) = (P * 1152921500311879680) * (P * 1152921500311879680) := by grind
    have := (abs_le_of_sq (x := P * 1152921500311879680) (p := 1073741824 * (N + 1) + 1073741824 * P) (by omega) (by rw [← e3]; exact Int.le_trans lo t)).2
    omega
  · have t := tri4 (x := sc P (pe Q (rq h))) (y := sc P e) (z := sc (1073741824 * P) p) (X := P * 1152956694347808768) (Y := 1073741824 * P) (by omega) (by omega) (by
      rw [nn_sc, eE]
      have := Int.mul_le_mul_of_nonneg_left XU hPP
      have e1 : (P * 1152956694347808768) * (P * 1152956694347808768) = P * P * (1152956694347808768 * 1152956694347808768) := by grind
      rw [e1]
      exact this) (by
      rw [nn_sc]
      have e2 : 1073741824 * P * (1073741824 * P) = P * P * (1073741824 * 1073741824) := by grind
      rw [e2]
      exact Int.mul_le_mul_of_nonneg_left hne hPP) (fun i hi => by
      obtain ⟨e0, _⟩ := he i hi
      show 1073741824 * P * p i = P * pe Q (rq h) i + P * e i
      have : pe Q (rq h) i = 1073741824 * p i - e i := by omega
      rw [this]; grind)
    rw [nn_sc] at t
    have lo := Int.mul_le_mul_of_nonneg_left h1 (show (0 : Int) ≤ 1073741824 * 1073741824 by decide)
    have e3 : 1073741824 * P * (1073741824 * P) * nn p = 1073741824 * 1073741824 * (P * P * nn p) := by grind
    have e4 : 1073741824 * 1073741824 * (N * N) = (1073741824 * N) * (1073741824 * N) := by grind
    have := (abs_le_of_sq (x := 1073741824 * N) (p := P * 1152956694347808768 + 1073741824 * P) (by omega) (by rw [← e4]; rw [e3] at t; exact Int.le_trans lo t)).2
    omega
theorem eta_bdB {eta q : Nat → Int} {N P : Int} (hP : 0 < P) (hN0 : 0 ≤ N) (hN2 : N ≤ P * 1073774599) (hq : nn q < 1073741829 * 1073741829) (he : ∀ j, j < 4 → -(1152921504606846976 * P + 1073741824 * N) ≤ eta j ∧ eta j ≤ 1152921504606846976 * P + 1073741824 * N) {i : Nat} (hi : i < 4) :
    -(P * 4951900000000000000000000000) ≤ pe (cj eta) q i ∧ pe (cj eta) q i ≤ P * 4951900000000000000000000000 := by
  have h1 := nn_bd he
  have hF : 1152921504606846976 * P + 1073741824 * N ≤ P * 2305878201101975552 := by omega
  have hF0 : 0 ≤ 1152921504606846976 * P + 1073741824 * N := by omega
  have h2 : nn (pe (cj eta) q) = nn eta * nn q := by rw [pe_nn, nn_cj]
  have h3 : nn eta ≤ (P * 4611756402203951104) * (P * 4611756402203951104) := Int.le_trans h1 (Int.mul_le_mul (by omega) (by omega) (by omega) (by omega))
  have h4 : nn eta * nn q ≤ (P * 4611756402203951104) * (P * 4611756402203951104) * (1073741829 * 1073741829) := Int.mul_le_mul h3 (by omega) (nn_nonneg q) (Int.mul_nonneg (by omega) (by omega))
  have h5 : (P * 4611756402203951104) * (P * 4611756402203951104) * (1073741829 * 1073741829) = (P * 4951835754204930089435529216) * (P * 4951835754204930089435529216) := by grind
  have := nn_comp (x := pe (cj eta) q) (X := P * 4951835754204930089435529216) (by omega) (by rw [h2, ← h5]; exact h4) hi
  omega
theorem turn_valid {Q h : Nat → Int} (hI : ∀ i, i < 4 → I64 (Q i)) (hQ : validQ Q = true) (hs : smallB h 1073741824 = true) : validQ (turnF Q h) = true ∧ ∀ i, i < 4 → I64 (turnF Q h i) := by
  obtain ⟨_, h1, h2, h3⟩ := turn_core hI hQ hs
  rw [h1]
  obtain ⟨_, h4, _⟩ := qun_core h2 h3
  exact ⟨(qun_valid h2 h3).1, fun i hi => by have := okQ_bd h4 hi; exact ⟨by omega, by omega⟩⟩
theorem turn_L {Q q h : Nat → Int} (hI : ∀ i, i < 4 → I64 (Q i)) (hQ : validQ Q = true) (hJ : ∀ i, i < 4 → I64 (q i)) (hq : validQ q = true) (hb : ∀ i, i < 3 → -8388608 ≤ h i ∧ h i ≤ 8388608) (hh : h 0 * h 0 + h 1 * h 1 + h 2 * h 2 ≤ 70368744177664)
    (h0 : 8589934592 ≤ pe (cj (rq h)) (betF Q q) 0) :
    ∃ N P : Int, 0 < P ∧ P * 1073741818 ≤ N ∧ N ≤ P * 1073774599 ∧ ∀ i, i < 4 → -(4 * N) ≤ N * betF (turnF Q h) q i - P * pe (cj (rq h)) (betF Q q) i ∧ N * betF (turnF Q h) q i - P * pe (cj (rq h)) (betF Q q) i ≤ 4 * N := by
  have hs : smallB h 1073741824 = true := (smallB_iff h _).2 fun i hi => (sb_iff _ _).2 (by have := hb i hi; omega)
  obtain ⟨_, l1, u1⟩ := valid_nn hI hQ
  obtain ⟨_, l2, u2⟩ := valid_nn hJ hq
  obtain ⟨N, P, eta, p, hN, hP, s1, s2, hp, het, hE⟩ := turn_eq (q := q) hI hQ hs
  obtain ⟨n1, n2⟩ := turn_scaleB l1 u1 (by omega) hN hP s1 s2 hp
  obtain ⟨vt, It⟩ := turn_valid hI hQ hs
  have heb := fun i (hi : i < 4) => eta_bdB hP (show 0 ≤ N by omega) n2 u2 het hi
  obtain ⟨_, s, hs1, e, he⟩ := bet_some hI hQ hJ hq
  have hss : s * s = 1 := by rcases hs1 with rfl | rfl <;> rfl
  have hR : nn (cj (rq h)) ≤ 1073774592 * 1073774592 := by
    rw [nn_cj, rq_nn]; omega
  have hne : nn e ≤ 1073741824 * 1073741824 := nn_bd (B := 536870912) fun i hi => (he i hi).1
  have hre : ∀ i, i < 4 → -1152956688979099648 - 1 ≤ pe (cj (rq h)) e i ∧ pe (cj (rq h)) e i ≤ 1152956688979099648 + 1 := fun i hi => by
    have := nn_comp (x := pe (cj (rq h)) e) (X := 1073774592 * 1073741824) (by decide) (by
      rw [pe_nn]
      have := Int.mul_le_mul hR hne (nn_nonneg e) (by decide)
      have e1 : (1073774592 * 1073774592 * (1073741824 * 1073741824) : Int) = 1073774592 * 1073741824 * (1073774592 * 1073741824) := by decide
      rw [e1] at this
      exact this) hi
    omega
  have lin : ∀ i, i < 4 → 1073741824 * pe (cj (rq h)) (betF Q q) i = s * pe (cj (rq h)) (eD Q q) i + pe (cj (rq h)) e i := fun i hi => by
    have a0 := (he 0 (by omega)).2
    have a1 := (he 1 (by omega)).2
    have a2 := (he 2 (by omega)).2
    have a3 := (he 3 (by omega)).2
    generalize cj (rq h) = r at *
    generalize betF Q q = L at *
    generalize eD Q q = D at *
    rcases (show i = 0 ∨ i = 1 ∨ i = 2 ∨ i = 3 by omega) with rfl | rfl | rfl | rfl <;> simp only [pe] <;> grind
  have main : ∀ i, i < 4 → -(P * 3460000000000000000) ≤ N * (s * eD (turnF Q h) q i) - P * (1073741824 * pe (cj (rq h)) (betF Q q) i) ∧ N * (s * eD (turnF Q h) q i) - P * (1073741824 * pe (cj (rq h)) (betF Q q) i) ≤ P * 3460000000000000000 := fun i hi => by
    have hEi := hE i hi
    have hl := lin i hi
    have hr := hre i hi
    have hb := heb i hi
    generalize eD (turnF Q h) q i = D' at *
    generalize pe (cj (rq h)) (eD Q q) i = R at *
    generalize pe (cj (rq h)) e i = re at *
    generalize pe (cj (rq h)) (betF Q q) i = rL at *
    generalize pe (cj eta) q i = pt at *
    have m1 : P * (1073741824 * rL) = s * (P * R) + P * re := by rw [hl]; grind
    have m2 : 2147483648 * (N * (s * D')) = s * (2147483648 * N * D') := by grind
    have m3 : s * (2147483648 * N * D') = 2147483648 * (s * (P * R)) + s * pt := by rw [hEi]; grind
    have m4 : -(P * 1152956688979099649) ≤ P * re ∧ P * re ≤ P * 1152956688979099649 := by
      have a := Int.mul_le_mul_of_nonneg_left hr.1 (show 0 ≤ P by omega)
      have b := Int.mul_le_mul_of_nonneg_left hr.2 (show 0 ≤ P by omega)
      have e1 : P * (-1152956688979099648 - 1) = -(P * 1152956688979099649) := by grind
      have e2 : P * (1152956688979099648 + 1) = P * 1152956688979099649 := by grind
      omega
    have m5 : -(P * 4951900000000000000000000000) ≤ s * pt ∧ s * pt ≤ P * 4951900000000000000000000000 := by
      rcases hs1 with rfl | rfl <;> omega
    omega
  have hpos : 536870912 < s * eD (turnF Q h) q 0 := by
    apply Classical.byContradiction; intro hc
    have m := (main 0 (by omega)).1
    have a := Int.mul_le_mul_of_nonneg_left h0 (show 0 ≤ P by omega)
    have b : N * (s * eD (turnF Q h) q 0) ≤ N * 536870912 := Int.mul_le_mul_of_nonneg_left (by omega) (by omega)
    have c : P * (1073741824 * pe (cj (rq h)) (betF Q q) 0) = 1073741824 * (P * pe (cj (rq h)) (betF Q q) 0) := by grind
    omega
  have hw := bet_with It vt hJ hq hs1 hpos
  refine ⟨N, P, hP, n1, n2, fun i hi => ?_⟩
  have m := main i hi
  have w := hw i hi
  generalize betF (turnF Q h) q i = B at *
  generalize s * eD (turnF Q h) q i = D' at *
  generalize pe (cj (rq h)) (betF Q q) i = R at *
  have c1 : P * (1073741824 * R) = 1073741824 * (P * R) := by grind
  have c2 : -(N * 536870912) ≤ N * (1073741824 * B - D') ∧ N * (1073741824 * B - D') ≤ N * 536870912 := by
    have a := Int.mul_le_mul_of_nonneg_left w.1 (show 0 ≤ N by omega)
    have b := Int.mul_le_mul_of_nonneg_left w.2 (show 0 ≤ N by omega)
    have e1 : N * -536870912 = -(N * 536870912) := by grind
    omega
  have c3 : N * (1073741824 * B - D') = 1073741824 * (N * B) - N * D' := by grind
  omega
end Go.Proofs.Ytkmelddejdikgaa
namespace Go.Proofs.Ytkmelddejdikgaa
open Go.RowKit PM Dt
theorem sq3_vv (f : Nat → Int) : ((sq3 f : Nat) : Int) = vv f := sqs3_i f
theorem tow_form {a : Int} {m n : Nat} (hn : 0 < n) : ∃ r : Int, (n : Int) * towV a m n = m * a - r ∧ -(n : Int) ≤ r ∧ r ≤ n := by
  have hd := Nat.div_add_mod (a.natAbs * m) n
  have hl := Nat.mod_lt (a.natAbs * m) hn
  unfold towV
  generalize a.natAbs * m / n = q at *
  generalize a.natAbs * m % n = t at *
  have hdi : (n : Int) * q + t = (a.natAbs : Int) * m := by exact_mod_cast hd
  split
  · have e : (a.natAbs : Int) * m = -(m * a) := by
      have : (a.natAbs : Int) = -a := by omega
      rw [this]; grind
    refine ⟨-(t : Int), ?_, by omega, by omega⟩
    have e2 : (n : Int) * -(q : Int) = -(n * q) := by grind
    omega
  · have e : (a.natAbs : Int) * m = m * a := by
      have : (a.natAbs : Int) = a := by omega
      rw [this]; grind
    exact ⟨t, by omega, by omega, by omega⟩
theorem lim_form {f : Nat → Int} {m : Int} (h : okL f m) : ∃ n : Int, n = lst f ∧ 0 ≤ n ∧ vv f ≤ n * n ∧ (0 < n → (n - 1) * (n - 1) < vv f) ∧
    ((n ≤ m ∧ limF f m = f) ∨ (m < n ∧ ∃ r : Nat → Int, ∀ i, i < 3 → n * limF f m i = m * f i - r i ∧ -n ≤ r i ∧ r i ≤ n)) := by
  obtain ⟨hk, h0, h1⟩ := h
  have hf : limF f m = if (lst f : Int) ≤ m then f else limX f m := by unfold limF; rw [if_pos ⟨hk, h0, h1⟩]
  have hL : ¬ lst f * lst f < sq3 f := fun hh => Nat.lt_irrefl _ ((lst_above hk _).2 hh)
  have hS := sq3_vv f
  refine ⟨lst f, rfl, by omega, ?_, fun hn => ?_, ?_⟩
  · rw [← hS]; exact_mod_cast Nat.not_lt.1 hL
  · have a := (lst_above hk (lst f - 1)).1 (by omega)
    have e : ((lst f - 1 : Nat) : Int) = (lst f : Int) - 1 := by omega
    rw [← hS, ← e]; exact_mod_cast a
  · by_cases hl : (lst f : Int) ≤ m
    · exact .inl ⟨hl, by rw [hf, if_pos hl]⟩
    · refine .inr ⟨by omega, ?_⟩
      rw [hf, if_neg hl]
      have hx : ∀ i, ∃ r : Int, (lst f : Int) * limX f m i = m * f i - r ∧ -(lst f : Int) ≤ r ∧ r ≤ lst f := fun i => by
        obtain ⟨r, h1, h2⟩ := tow_form (a := f i) (m := m.toNat) (n := lst f) (by omega)
        refine ⟨r, ?_, h2⟩
        unfold limX
        have : ((m.toNat : Nat) : Int) = m := by omega
        rw [h1, this]
      obtain ⟨r, hr⟩ := Classical.skolem.1 hx
      exact ⟨r, fun i _ => hr i⟩
theorem lim_le {f : Nat → Int} {m : Int} (h : okL f m) {i : Nat} (hi : i < 3) : (0 ≤ limF f m i ∧ limF f m i ≤ f i) ∨ (f i ≤ limF f m i ∧ limF f m i ≤ 0) := by
  have hf : limF f m = if (lst f : Int) ≤ m then f else limX f m := by unfold limF; rw [if_pos h]
  rw [hf]
  split
  · omega
  · have hq : (f i).natAbs * m.toNat / lst f ≤ (f i).natAbs := Nat.div_le_of_le_mul (by rw [Nat.mul_comm]; exact Nat.mul_le_mul (by omega) (Nat.le_refl _))
    unfold limX towV
    generalize (f i).natAbs * m.toNat / lst f = q at *
    split <;> omega
theorem proj_core {a b : Nat → Int} {n k : Int} (hk : 0 < k) (hn : k < n) (hA : (n - 1) * (n - 1) < vv a) (hB : vv b ≤ k * k) :
    vv (fun i => k * a i - n * b i) ≤ n * n * (vv (fun i => a i - b i) + 1) := by
  have h0 := sq_nn (k * a 0 - n * b 0)
  have h1 := sq_nn (k * a 1 - n * b 1)
  have h2 := sq_nn (k * a 2 - n * b 2)
  obtain ⟨S, hS⟩ : ∃ S, S = a 0 * b 0 + a 1 * b 1 + a 2 * b 2 := ⟨_, rfl⟩
  have e1 : vv (fun i => k * a i - n * b i) = k * k * vv a + n * n * vv b - 2 * n * k * S := by unfold vv; rw [hS]; grind
  have e2 : vv (fun i => a i - b i) = vv a + vv b - 2 * S := by unfold vv; rw [hS]; grind
  have p0 : 0 ≤ k * k * vv a + n * n * vv b - 2 * n * k * S := by rw [← e1]; unfold vv; show 0 ≤ (k * a 0 - n * b 0) * (k * a 0 - n * b 0) + (k * a 1 - n * b 1) * (k * a 1 - n * b 1) + (k * a 2 - n * b 2) * (k * a 2 - n * b 2); omega
  rw [e1, e2]
  generalize vv a = A at *
  generalize vv b = B at *
  have q1 : n * n * B ≤ n * n * (k * k) := Int.mul_le_mul_of_nonneg_left hB (sq_nn n)
  have q2 : k * (2 * n * S) ≤ k * (k * A + n * n * k) := by
    have x1 : k * (2 * n * S) = 2 * n * k * S := by grind
    have x2 : k * (k * A + n * n * k) = k * k * A + n * n * (k * k) := by grind
    omega
  have q3 : 2 * n * S ≤ k * A + n * n * k := Int.le_of_mul_le_mul_left q2 hk
  have q4 : 0 ≤ (n - k) * (k * A + n * n * k - 2 * n * S) := Int.mul_nonneg (by omega) (by omega)
  have q5 : -(n * n) ≤ n * (n - k) * (A - n * k) := by
    rcases (show n = k + 1 ∨ k + 2 ≤ n by omega) with rfl | h
    · have x1 : (k + 1) * (k + 1 - k) * (A - (k + 1) * k) = (k + 1) * (A - (k + 1) * k) := by grind
      have x2 : (k + 1) * -(k + 1) ≤ (k + 1) * (A - (k + 1) * k) := Int.mul_le_mul_of_nonneg_left (by
        have x3 : (k + 1) * k = k * k + k := by grind
        have x4 : (k + 1 - 1) * (k + 1 - 1) = k * k := by grind
        omega) (by omega)
      have x3 : (k + 1) * -(k + 1) = -((k + 1) * (k + 1)) := by grind
      omega
    · have x1 : 0 ≤ A - n * k := by
        have x2 : (n - 1) * (n - 1) = n * n - 2 * n + 1 := by grind
        have x3 : n * (k + 2) ≤ n * n := Int.mul_le_mul_of_nonneg_left h (by omega)
        have x4 : n * (k + 2) = n * k + 2 * n := by grind
        omega
      have x2 : 0 ≤ n * (n - k) * (A - n * k) := Int.mul_nonneg (Int.mul_nonneg (by omega) (by omega)) x1
      have := sq_nn n
      omega
  have id : n * n * (A + B - 2 * S + 1) - (k * k * A + n * n * B - 2 * n * k * S) = (n - k) * (k * A + n * n * k - 2 * n * S) + n * (n - k) * (A - n * k) + n * n := by grind
  omega
theorem sq_le' {a b : Int} (ha : 0 ≤ a) (h : a ≤ b) : a * a ≤ b * b := Int.mul_le_mul h h ha (by omega)
theorem lim_ne1 {a b : Nat → Int} {m X : Int} (ha : okL a m) (hb : okL b m) (hm : 0 < m) (hX : 0 ≤ X) (h : vv (fun i => a i - b i) ≤ X * X) (hl : lst b ≤ lst a) :
    vv (fun i => limF a m i - limF b m i) ≤ (X + 5) * (X + 5) := by
  obtain ⟨n, hn, n0, na, nb, hw⟩ := lim_form ha
  obtain ⟨k, hk, k0, ka, kb, hu⟩ := lim_form hb
  have hkn : k ≤ n := by omega
  clear hn hk hl
  have hX1 : X * X + 1 ≤ (X + 1) * (X + 1) := by
    have : (X + 1) * (X + 1) = X * X + 2 * X + 1 := by grind
    omega
  rcases hw with ⟨l1, ew⟩ | ⟨l1, r, hr⟩
  · rcases hu with ⟨l2, eu⟩ | ⟨l2, _⟩
    · rw [ew, eu]
      exact Int.le_trans h (sq_le' hX (by omega))
    · omega
  · have r0 := hr 0 (by omega)
    have r1 := hr 1 (by omega)
    have r2 := hr 2 (by omega)
    generalize limF a m = w at *
    have fin : ∀ (c Y Z : Int) (x y u : Nat → Int), 0 < c → 0 ≤ Y → 0 ≤ Z → vv x ≤ (c * Y) * (c * Y) → vv y ≤ (c * Z) * (c * Z) → (∀ i, i < 3 → c * (w i - u i) = x i + y i) → vv (fun i => w i - u i) ≤ (Y + Z) * (Y + Z) := fun c Y Z x y u hc hY hZ hx hy he => by
      have t := tri3 (X := c * Y) (Y := c * Z) (Int.mul_nonneg (by omega) hY) (Int.mul_nonneg (by omega) hZ) hx hy
      rw [← he 0 (by omega), ← he 1 (by omega), ← he 2 (by omega)] at t
      have e1 : c * (w 0 - u 0) * (c * (w 0 - u 0)) + c * (w 1 - u 1) * (c * (w 1 - u 1)) + c * (w 2 - u 2) * (c * (w 2 - u 2)) = c * c * vv (fun i => w i - u i) := by unfold vv; grind
      have e2 : (c * Y + c * Z) * (c * Y + c * Z) = c * c * ((Y + Z) * (Y + Z)) := by grind
      rw [e1, e2] at t
      exact Int.le_of_mul_le_mul_left t (Int.mul_pos hc hc)
    have rb : ∀ (R : Int) (y : Nat → Int), (∀ i, i < 3 → -R ≤ y i ∧ y i ≤ R) → vv y ≤ (2 * R) * (2 * R) := fun R y hy => by
      have b := fun i hi => (bmul (hy i hi).1 (hy i hi).2 (hy i hi).1 (hy i hi).2).2
      have b0 := b 0 (by omega)
      have b1 := b 1 (by omega)
      have b2 := b 2 (by omega)
      have e : 2 * R * (2 * R) = 4 * (R * R) := by grind
      have := sq_nn R
      unfold vv
      omega
    rcases hu with ⟨l2, eu⟩ | ⟨l2, t, ht⟩
    · rw [eu]
      have pc := proj_core hm l1 (nb (by omega)) (Int.le_trans ka (sq_le' k0 l2))
      have pc2 : n * n * (vv (fun i => a i - b i) + 1) ≤ n * n * ((X + 1) * (X + 1)) := Int.mul_le_mul_of_nonneg_left (by omega) (sq_nn n)
      have e2 : n * (X + 1) * (n * (X + 1)) = n * n * ((X + 1) * (X + 1)) := by grind
      have := fin n (X + 1) 2 (fun i => m * a i - n * b i) (fun i => -r i) b (by omega) (by omega) (by omega) (by rw [e2]; omega) (by
        have := rb n (fun i => -r i) (fun i hi => by have := (hr i hi).2; show -n ≤ -r i ∧ -r i ≤ n; omega)
        have e : n * 2 = 2 * n := by omega
        rw [e]; exact this) (fun i hi => by
        have := (hr i hi).1
        show n * (w i - b i) = (m * a i - n * b i) + -r i
        have e : n * (w i - b i) = n * w i - n * b i := by grind
        omega)
      exact Int.le_trans this (sq_le' (by omega) (by omega))
    · have pc : vv (fun i => k * a i - n * b i) ≤ n * n * ((X + 1) * (X + 1)) := by
        have pc2 : n * n * (vv (fun i => a i - b i) + 1) ≤ n * n * ((X + 1) * (X + 1)) := Int.mul_le_mul_of_nonneg_left (by omega) (sq_nn n)
        rcases (show k = n ∨ k < n by omega) with rfl | hlt
        · have e : vv (fun i => k * a i - k * b i) = k * k * vv (fun i => a i - b i) := by unfold vv; grind
          rw [e]
          have := Int.mul_le_mul_of_nonneg_left (show vv (fun i => a i - b i) ≤ (X + 1) * (X + 1) by omega) (sq_nn k)
          exact this
        · exact Int.le_trans (proj_core (by omega) hlt (nb (by omega)) ka) pc2
      have hp : m * m * vv (fun i => k * a i - n * b i) ≤ (n * k * (X + 1)) * (n * k * (X + 1)) := by
        have x1 := Int.mul_le_mul_of_nonneg_left pc (sq_nn m)
        have x2 : m * m * (n * n * ((X + 1) * (X + 1))) ≤ k * k * (n * n * ((X + 1) * (X + 1))) := Int.mul_le_mul_of_nonneg_right (sq_le' (by omega) (by omega)) (Int.mul_nonneg (sq_nn n) (sq_nn (X + 1)))
        have x3 : k * k * (n * n * ((X + 1) * (X + 1))) = (n * k * (X + 1)) * (n * k * (X + 1)) := by grind
        omega
      have := fin (n * k) (X + 1) 4 (fun i => m * (k * a i - n * b i)) (fun i => n * t i - k * r i) (limF b m) (Int.mul_pos (by omega) (by omega)) (by omega) (by omega) (by
        have e : vv (fun i => m * (k * a i - n * b i)) = m * m * vv (fun i => k * a i - n * b i) := by unfold vv; grind
        rw [e]; exact hp) (by
        have := rb (2 * (n * k)) (fun i => n * t i - k * r i) (fun i hi => by
          have c1 := (hr i hi).2
          have c2 := (ht i hi).2
          have d1 := bmul (show -n ≤ n by omega) (Int.le_refl n) c2.1 c2.2
          have d2 := bmul (show -k ≤ k by omega) (Int.le_refl k) c1.1 c1.2
          have e : k * n = n * k := Int.mul_comm _ _
          rw [e] at d2
          show -(2 * (n * k)) ≤ n * t i - k * r i ∧ n * t i - k * r i ≤ 2 * (n * k)
          omega)
        have e : 2 * (2 * (n * k)) = n * k * 4 := by omega
        rw [e] at this; exact this) (fun i hi => by
        have c1 := (hr i hi).1
        have c2 := (ht i hi).1
        show n * k * (w i - limF b m i) = m * (k * a i - n * b i) + (n * t i - k * r i)
        have e1 : n * k * (w i - limF b m i) = k * (n * w i) - n * (k * limF b m i) := by grind
        rw [e1, c1, c2]; grind)
      have e5 : X + 1 + 4 = X + 5 := by omega
      rw [e5] at this
      exact this
theorem lim_ne {a b : Nat → Int} {m X : Int} (ha : okL a m) (hb : okL b m) (hm : 0 < m) (hX : 0 ≤ X) (h : vv (fun i => a i - b i) ≤ X * X) :
    vv (fun i => limF a m i - limF b m i) ≤ (X + 5) * (X + 5) := by
  rcases Nat.le_total (lst b) (lst a) with hl | hl
  · exact lim_ne1 ha hb hm hX h hl
  · have e : ∀ f g : Nat → Int, vv (fun i => f i - g i) = vv (fun i => g i - f i) := fun f g => by unfold vv; grind
    rw [e]
    exact lim_ne1 hb ha hm hX (by rw [e]; exact h) hl
end Go.Proofs.Ytkmelddejdikgaa
namespace Go.Proofs.Ytkmelddejdikgaa
open Go.RowKit PM Dt
theorem rot_dot (L h : Nat → Int) : pe (cj (rq h)) L 0 * L 0 + pe (cj (rq h)) L 1 * L 1 + pe (cj (rq h)) L 2 * L 2 + pe (cj (rq h)) L 3 * L 3 = 1073741824 * nn L := by
  have r0 : cj (rq h) 0 = 1073741824 := rfl
  have r1 : cj (rq h) 1 = -h 0 := rfl
  have r2 : cj (rq h) 2 = -h 1 := rfl
  have r3 : cj (rq h) 3 = -h 2 := rfl
  simp only [pe]
  rw [r0, r1, r2, r3]
  unfold nn
  grind
theorem rot_diff (L h : Nat → Int) (N P : Int) : nn (fun i => P * pe (cj (rq h)) L i - N * L i) = nn L * ((N - P * 1073741824) * (N - P * 1073741824) + P * P * (h 0 * h 0 + h 1 * h 1 + h 2 * h 2)) := by
  have a := rot_dot L h
  have b : nn (pe (cj (rq h)) L) = (1152921504606846976 + h 0 * h 0 + h 1 * h 1 + h 2 * h 2) * nn L := by rw [pe_nn, nn_cj, rq_nn]
  have c : nn (fun i => P * pe (cj (rq h)) L i - N * L i) = P * P * nn (pe (cj (rq h)) L) - 2 * P * N * (pe (cj (rq h)) L 0 * L 0 + pe (cj (rq h)) L 1 * L 1 + pe (cj (rq h)) L 2 * L 2 + pe (cj (rq h)) L 3 * L 3) + N * N * nn L := by
    generalize pe (cj (rq h)) L = r
    unfold nn
    grind
  rw [c, a, b]
  grind
theorem turn_move {L L' h : Nat → Int} {N P Z : Int} (hP : 0 < P) (n1 : P * 1073741818 ≤ N) (n2 : N ≤ P * 1073774599) (law : ∀ i, i < 4 → -(4 * N) ≤ N * L' i - P * pe (cj (rq h)) L i ∧ N * L' i - P * pe (cj (rq h)) L i ≤ 4 * N)
    (hL : nn L ≤ 1073741836 * 1073741836) (hZ0 : 0 ≤ Z) (hZ : 1152921530376650896 * (1074200625 + (h 0 * h 0 + h 1 * h 1 + h 2 * h 2)) ≤ 1152921491721945124 * (Z * Z)) : nn (fun i => L' i - L i) ≤ (Z + 8) * (Z + 8) := by
  have hN : 0 < N := by omega
  have n0 := sq_nn (h 0)
  have n1' := sq_nn (h 1)
  have n2' := sq_nn (h 2)
  have d := rot_diff L h N P
  generalize hH : h 0 * h 0 + h 1 * h 1 + h 2 * h 2 = H at *
  have hPP : 0 ≤ P * P := sq_nn P
  have b1 : (N - P * 1073741824) * (N - P * 1073741824) ≤ P * P * 1074200625 := by
    have := (bmul (a := N - P * 1073741824) (b := N - P * 1073741824) (P := P * 32775) (R := P * 32775) (by omega) (by omega) (by omega) (by omega)).2
    have e : P * 32775 * (P * 32775) = P * P * 1074200625 := by grind
    omega
  have b2 : nn (fun i => P * pe (cj (rq h)) L i - N * L i) ≤ (N * Z) * (N * Z) := by
    rw [d]
    have x1 : (N - P * 1073741824) * (N - P * 1073741824) + P * P * H ≤ P * P * (1074200625 + H) := by
      have : P * P * (1074200625 + H) = P * P * 1074200625 + P * P * H := by grind
      omega
    have x2 : nn L * ((N - P * 1073741824) * (N - P * 1073741824) + P * P * H) ≤ 1073741836 * 1073741836 * (P * P * (1074200625 + H)) := Int.mul_le_mul hL x1 (Int.add_nonneg (sq_nn _) (Int.mul_nonneg hPP (by omega))) (by decide)
    have x3 := Int.mul_le_mul_of_nonneg_left hZ hPP
    have x4 : P * P * (1152921530376650896 * (1074200625 + H)) = 1073741836 * 1073741836 * (P * P * (1074200625 + H)) := by grind
    have x5 : P * P * (1152921491721945124 * (Z * Z)) = (P * 1073741818) * (P * 1073741818) * (Z * Z) := by grind
    have x6 : (P * 1073741818) * (P * 1073741818) * (Z * Z) ≤ N * N * (Z * Z) := Int.mul_le_mul_of_nonneg_right (Int.mul_le_mul n1 n1 (by omega) (by omega)) (sq_nn Z)
    have x7 : N * N * (Z * Z) = (N * Z) * (N * Z) := by grind
    omega
  have t := tri4 (x := fun i => P * pe (cj (rq h)) L i - N * L i) (y := fun i => N * L' i - P * pe (cj (rq h)) L i) (z := sc N (fun i => L' i - L i)) (X := N * Z) (Y := 2 * (4 * N)) (Int.mul_nonneg (by omega) hZ0) (by omega) b2 (nn_bd law) (fun i hi => by
    show N * (L' i - L i) = (P * pe (cj (rq h)) L i - N * L i) + (N * L' i - P * pe (cj (rq h)) L i)
    grind)
  rw [nn_sc] at t
  have e : (N * Z + 2 * (4 * N)) * (N * Z + 2 * (4 * N)) = N * N * ((Z + 8) * (Z + 8)) := by grind
  rw [e] at t
  exact Int.le_of_mul_le_mul_left t (Int.mul_pos hN hN)
def Bw (D W : Nat → Int) : Prop := ∀ i, i < 3 → (0 ≤ D i ∧ D i ≤ W i) ∨ (W i ≤ D i ∧ D i ≤ 0)
def Rw (m : Nat) (D W : Nat → Int) : Prop := ∀ i, i < 3 → D i = W i ∨ (D i = 262144 * m ∧ D i < W i) ∨ (D i = -(262144 * m) ∧ W i < D i)
theorem Rw.bw {m : Nat} {D W : Nat → Int} (h : Rw m D W) : Bw D W := fun i hi => by have := h i hi; omega
theorem Rw.start {D W : Nat → Int} (h : ∀ i, i < 3 → D i = 0) : Rw 0 D W := fun i hi => by have := h i hi; omega
theorem Rw.step {m : Nat} {D W W' : Nat → Int} (h : Rw m D W) (hd : ∀ i, i < 3 → -262144 ≤ W' i - W i ∧ W' i - W i ≤ 262144) : Rw (m + 1) (fun i => D i + clampV (W' i - D i) (-262144) 262144) W' := fun i hi => by
  have a := h i hi
  have b := hd i hi
  have c := clampR_two (W' i - D i)
  dsimp only
  generalize clampV (W' i - D i) (-262144) 262144 = v at *
  omega
theorem Rw.full {m : Nat} {D W : Nat → Int} (h : Rw m D W) (hm : 16 ≤ m) (hW : ∀ i, i < 3 → -4194304 ≤ W i ∧ W i ≤ 4194304) : ∀ i, i < 3 → D i = W i := fun i hi => by
  have a := h i hi
  have b := hW i hi
  omega
theorem Bw.sq {D W : Nat → Int} (h : Bw D W) : vv D ≤ vv W := by
  have key : ∀ i, i < 3 → D i * D i ≤ W i * W i := fun i hi => by
    rcases h i hi with ⟨a, b⟩ | ⟨a, b⟩
    · exact Int.mul_le_mul b b a (by omega)
    · have := Int.mul_le_mul (a := -D i) (b := -D i) (c := -W i) (d := -W i) (by omega) (by omega) (by omega) (by omega)
      rw [Int.neg_mul_neg, Int.neg_mul_neg] at this
      exact this
  have k0 := key 0 (by omega)
  have k1 := key 1 (by omega)
  have k2 := key 2 (by omega)
  unfold vv; omega
theorem pt_ok {L : Nat → Int} (h : ∀ i, i < 4 → -1099511627776 ≤ L i ∧ L i ≤ 1099511627776) : okL (ptV L) 4194304 := ⟨(okV_iff _).2 fun i hi => (vb_iff _).2 (by have := h (i + 1) (by omega); unfold ptV; omega), by decide, by decide⟩
theorem pt_gain {L D : Nat → Int} (h : ∀ i, i < 4 → -1099511627776 ≤ L i ∧ L i ≤ 1099511627776) (hb : Bw D (ptTo L)) {i : Nat} (hi : i < 3) : 32 * (D i * D i) - 16 * 4194304 ≤ D i * L (i + 1) := by
  obtain ⟨c1, c2, _⟩ := lim_core (pt_ok h)
  have c1 := c1 i hi
  have c2 := c2 i hi
  have b := hb i hi
  have hp : ptTo L i = limF (ptV L) 4194304 i := rfl
  have hv : ptV L i = (L (i + 1) + 16) / 32 := rfl
  have hle := lim_le (pt_ok h) hi
  rw [← hp] at c1 c2 hle
  generalize ptTo L i = W at *
  generalize ptV L i = a at *
  generalize L (i + 1) = l at *
  rcases b with ⟨b1, b2⟩ | ⟨b1, b2⟩
  · have h1 : 32 * D i - 16 ≤ l ∨ D i = 0 := by omega
    rcases h1 with h1 | h1
    · have x := Int.mul_le_mul_of_nonneg_left h1 b1
      have e : D i * (32 * D i - 16) = 32 * (D i * D i) - 16 * D i := by grind
      omega
    · rw [h1]; omega
  · have h1 : l ≤ 32 * D i + 16 ∨ D i = 0 := by omega
    rcases h1 with h1 | h1
    · have x := Int.mul_le_mul_of_nonneg_left (show -(32 * D i + 16) ≤ -l by omega) (show 0 ≤ -D i by omega)
      have e : -D i * -(32 * D i + 16) = 32 * (D i * D i) + 16 * D i := by grind
      have e2 : -D i * -l = D i * l := by grind
      omega
    · rw [h1]; omega
theorem rq_zero (L h : Nat → Int) : pe (cj (rq h)) L 0 = 1073741824 * L 0 + (h 0 * L 1 + h 1 * L 2 + h 2 * L 3) := by
  show 1073741824 * L 0 - -h 0 * L 1 - -h 1 * L 2 - -h 2 * L 3 = _
  grind
theorem vv_bd {y : Nat → Int} {R : Int} (hy : ∀ i, i < 3 → -R ≤ y i ∧ y i ≤ R) : vv y ≤ (2 * R) * (2 * R) := by
  have b := fun i hi => (bmul (hy i hi).1 (hy i hi).2 (hy i hi).1 (hy i hi).2).2
  have b0 := b 0 (by omega)
  have b1 := b 1 (by omega)
  have b2 := b 2 (by omega)
  have e : 2 * R * (2 * R) = 4 * (R * R) := by grind
  have := sq_nn R
  unfold vv
  omega
theorem bet_bd {L : Nat → Int} (hL : nn L ≤ 1073741836 * 1073741836) : ∀ i, i < 4 → -1073741836 ≤ L i ∧ L i ≤ 1073741836 := fun i hi => nn_comp (by decide) hL hi
theorem turn_wanted {L L' D : Nat → Int} {N P : Int} (hP : 0 < P) (n1 : P * 1073741818 ≤ N) (n2 : N ≤ P * 1073774599) (law : ∀ i, i < 4 → -(4 * N) ≤ N * L' i - P * pe (cj (rq fun i => 2 * D i)) L i ∧ N * L' i - P * pe (cj (rq fun i => 2 * D i)) L i ≤ 4 * N)
    (hL : nn L ≤ 1073741836 * 1073741836) (hL' : nn L' ≤ 1073741836 * 1073741836) (h0 : 0 ≤ L 0) (hb : Bw D (ptTo L)) : ∀ i, i < 3 → -262144 ≤ ptTo L' i - ptTo L i ∧ ptTo L' i - ptTo L i ≤ 262144 := by
  have cL := bet_bd hL
  have cL' := bet_bd hL'
  have okA := pt_ok (L := L) fun i hi => by have := cL i hi; omega
  have okB := pt_ok (L := L') fun i hi => by have := cL' i hi; omega
  have dd : vv D ≤ 17592186044416 := by
    have := (lim_core okA).2.2
    have h2 := hb.sq
    unfold vv at h2 ⊢
    have e : ∀ i, ptTo L i = limF (ptV L) 4194304 i := fun i => rfl
    rw [e, e, e] at h2
    omega
  have d0 := sq_nn (D 0)
  have d1 := sq_nn (D 1)
  have d2 := sq_nn (D 2)
  have hH : (fun i => 2 * D i) 0 * (fun i => 2 * D i) 0 + (fun i => 2 * D i) 1 * (fun i => 2 * D i) 1 + (fun i => 2 * D i) 2 * (fun i => 2 * D i) 2 = 4 * vv D := by
    show 2 * D 0 * (2 * D 0) + 2 * D 1 * (2 * D 1) + 2 * D 2 * (2 * D 2) = _
    unfold vv; grind
  have dv0 : 0 ≤ vv D := by unfold vv; omega
  have move : vv (fun i => L' (i + 1) - L (i + 1)) ≤ 8331000 * 8331000 := by
    have e3 : vv (fun i => L' (i + 1) - L (i + 1)) = nn (fun i => L' i - L i) - (L' 0 - L 0) * (L' 0 - L 0) := by unfold vv nn; grind
    have s0 := sq_nn (L' 0 - L 0)
    by_cases hd : vv D ≤ 17320000000000
    · have t := turn_move (Z := 8330900) hP n1 n2 law hL (by decide) (by rw [hH]; omega)
      omega
    · have t := turn_move (Z := 8388678) hP n1 n2 law hL (by decide) (by rw [hH]; omega)
      have g0 : 32 * (D 0 * D 0) - 16 * 4194304 ≤ D 0 * L 1 := pt_gain (L := L) (fun i hi => by have := cL i hi; omega) hb (i := 0) (by omega)
      have g1 : 32 * (D 1 * D 1) - 16 * 4194304 ≤ D 1 * L 2 := pt_gain (L := L) (fun i hi => by have := cL i hi; omega) hb (i := 1) (by omega)
      have g2 : 32 * (D 2 * D 2) - 16 * 4194304 ≤ D 2 * L 3 := pt_gain (L := L) (fun i hi => by have := cL i hi; omega) hb (i := 2) (by omega)
      have l0 := (law 0 (by omega)).1
      have z := rq_zero L (fun i => 2 * D i)
      have z2 : 2 * D 0 * L 1 + 2 * D 1 * L 2 + 2 * D 2 * L 3 = 2 * (D 0 * L 1 + D 1 * L 2 + D 2 * L 3) := by grind
      have hG : 64 * vv D - 402653184 ≤ 2 * D 0 * L 1 + 2 * D 1 * L 2 + 2 * D 2 * L 3 := by unfold vv; omega
      have z3 : pe (cj (rq fun i => 2 * D i)) L 0 = 1073741824 * L 0 + (2 * D 0 * L 1 + 2 * D 1 * L 2 + 2 * D 2 * L 3) := z
      have hG2 : 1073741824 * L 0 + 1108000000000000 ≤ pe (cj (rq fun i => 2 * D i)) L 0 := by omega
      have m := Int.mul_le_mul_of_nonneg_left hG2 (show 0 ≤ P by omega)
      have k1 : P * (1073741824 * L 0 + 1108000000000000) = 1073741824 * (P * L 0) + P * 1108000000000000 := by grind
      have b0 := cL 0 (by omega)
      have big : 990000 ≤ L' 0 - L 0 := by
        apply Classical.byContradiction; intro hc
        have x1 : N * L' 0 ≤ N * (L 0 + 989999) := Int.mul_le_mul_of_nonneg_left (by omega) (by omega)
        have x2 : N * (L 0 + 989999) = N * L 0 + N * 989999 := by grind
        have x3 : N * L 0 ≤ P * 1073774599 * L 0 := Int.mul_le_mul_of_nonneg_right n2 h0
        have x4 : P * 1073774599 * L 0 = 1073741824 * (P * L 0) + 32775 * (P * L 0) := by grind
        have x5 : P * L 0 ≤ P * 1073741836 := Int.mul_le_mul_of_nonneg_left b0.2 (by omega)
        omega
      have := (sq_le' (show (0 : Int) ≤ 990000 by decide) big)
      omega
  have movA : vv (fun i => ptV L' i - ptV L i) ≤ 260349 * 260349 := by
    have t := tri3 (x0 := L' 1 - L 1) (x1 := L' 2 - L 2) (x2 := L' 3 - L 3) (y0 := 32 * (ptV L' 0 - ptV L 0) - (L' 1 - L 1)) (y1 := 32 * (ptV L' 1 - ptV L 1) - (L' 2 - L 2)) (y2 := 32 * (ptV L' 2 - ptV L 2) - (L' 3 - L 3)) (X := 8331000) (Y := 2 * 31) (by decide) (by decide) move
      (vv_bd (y := fun i => 32 * (ptV L' i - ptV L i) - (L' (i + 1) - L (i + 1))) (R := 31) fun i hi => by
        show -31 ≤ 32 * ((L' (i + 1) + 16) / 32 - (L (i + 1) + 16) / 32) - (L' (i + 1) - L (i + 1)) ∧ 32 * ((L' (i + 1) + 16) / 32 - (L (i + 1) + 16) / 32) - (L' (i + 1) - L (i + 1)) ≤ 31
        omega)
    have e : ∀ a b : Int, a + (32 * b - a) = 32 * b := fun a b => by omega
    rw [e, e, e] at t
    have e2 : ∀ a b c : Int, 32 * a * (32 * a) + 32 * b * (32 * b) + 32 * c * (32 * c) = 1024 * (a * a + b * b + c * c) := fun a b c => by grind
    rw [e2] at t
    unfold vv
    dsimp only
    omega
  have ne := lim_ne okB okA (by decide) (by decide) movA
  intro i hi
  have := vv_comp (V := 260354) (by decide) ne hi
  have e1 : ptTo L' i = limF (ptV L') 4194304 i := rfl
  have e2 : ptTo L i = limF (ptV L) 4194304 i := rfl
  rw [e1, e2]
  omega
end Go.Proofs.Ytkmelddejdikgaa
namespace Go.Proofs.Ytkmelddejdikgaa
open Go.RowKit PM Dt
theorem att_L {Q q D : Nat → Int} (hI : ∀ i, i < 4 → I64 (Q i)) (hQ : validQ Q = true) (hJ : ∀ i, i < 4 → I64 (q i)) (hq : validQ q = true) (hb : ∀ i, i < 3 → -4194304 ≤ D i ∧ D i ≤ 4194304) (hh : vv D ≤ 17592186044416)
    (h0 : 8589934592 ≤ pe (cj (rq fun i => 2 * D i)) (betF Q q) 0 ∨ zV D = true) :
    ∃ N P : Int, 0 < P ∧ P * 1073741818 ≤ N ∧ N ≤ P * 1073774599 ∧ ∀ i, i < 4 → -(4 * N) ≤ N * betF (attG Q D) q i - P * pe (cj (rq fun i => 2 * D i)) (betF Q q) i ∧ N * betF (attG Q D) q i - P * pe (cj (rq fun i => 2 * D i)) (betF Q q) i ≤ 4 * N := by
  unfold attG
  cases hz : zV D with
  | true =>
    rw [if_pos rfl]
    have z : ∀ i, i < 3 → D i = 0 := fun i hi => by
      unfold zV at hz
      exact beq_iff_eq.1 (List.all_eq_true.1 hz i (List.mem_range.2 hi))
    refine ⟨1073741824, 1, by decide, by decide, by decide, fun i hi => ?_⟩
    have e : pe (cj (rq fun i => 2 * D i)) (betF Q q) i = 1073741824 * betF Q q i := by
      have r0 : cj (rq fun i => 2 * D i) 0 = 1073741824 := rfl
      have r1 : cj (rq fun i => 2 * D i) 1 = 0 := by show -(2 * D 0) = 0; rw [z 0 (by omega)]; rfl
      have r2 : cj (rq fun i => 2 * D i) 2 = 0 := by show -(2 * D 1) = 0; rw [z 1 (by omega)]; rfl
      have r3 : cj (rq fun i => 2 * D i) 3 = 0 := by show -(2 * D 2) = 0; rw [z 2 (by omega)]; rfl
      generalize cj (rq fun i => 2 * D i) = r at *
      generalize betF Q q = L at *
      rcases (show i = 0 ∨ i = 1 ∨ i = 2 ∨ i = 3 by omega) with rfl | rfl | rfl | rfl <;> simp only [pe] <;> rw [r0, r1, r2, r3] <;> omega
    rw [e]; omega
  | false =>
    rw [if_neg (by decide)]
    refine turn_L (h := mulF 2 D) hI hQ hJ hq (fun i hi => by have := hb i hi; show -8388608 ≤ 2 * D i ∧ 2 * D i ≤ 8388608; omega) ?_ ?_
    · show 2 * D 0 * (2 * D 0) + 2 * D 1 * (2 * D 1) + 2 * D 2 * (2 * D 2) ≤ _
      have : 2 * D 0 * (2 * D 0) + 2 * D 1 * (2 * D 1) + 2 * D 2 * (2 * D 2) = 4 * vv D := by unfold vv; grind
      omega
    · rcases h0 with h | h
      · exact h
      · rw [hz] at h; cases h
theorem vv_big {f : Nat → Int} {B : Int} (hB : 0 ≤ B) (h : 3 * (B * B) < vv f) : ∃ i, i < 3 ∧ (B < f i ∨ f i < -B) := by
  apply Classical.byContradiction; intro hc
  have k : ∀ i, i < 3 → f i * f i ≤ B * B := fun i hi => by
    have : -B ≤ f i ∧ f i ≤ B := by
      constructor
      · apply Classical.byContradiction; intro h; exact hc ⟨i, hi, .inr (by omega)⟩
      · apply Classical.byContradiction; intro h; exact hc ⟨i, hi, .inl (by omega)⟩
    exact (bmul this.1 this.2 this.1 this.2).2
  have k0 := k 0 (by omega)
  have k1 := k 1 (by omega)
  have k2 := k 2 (by omega)
  unfold vv at h
  omega
theorem pt_big {L : Nat → Int} (hl : 1073741814 * 1073741814 ≤ nn L) (hL : nn L ≤ 1073741836 * 1073741836) (h0 : 0 ≤ L 0 ∧ L 0 < 16) : ∃ i, i < 3 ∧ (262144 ≤ ptTo L i ∨ ptTo L i ≤ -262144) := by
  have cL := bet_bd hL
  have s0 : L 0 * L 0 ≤ 15 * 15 := sq_le' h0.1 (by omega)
  have e : nn L = L 0 * L 0 + vv (fun i => L (i + 1)) := by unfold nn vv; show _ = L 0 * L 0 + (L 1 * L 1 + L 2 * L 2 + L 3 * L 3); omega
  obtain ⟨i, hi, hb⟩ := vv_big (f := fun i => L (i + 1)) (B := 536870912) (by decide) (by omega)
  refine ⟨i, hi, ?_⟩
  have hb : 536870912 < L (i + 1) ∨ L (i + 1) < -536870912 := hb
  have hv : ptV L i = (L (i + 1) + 16) / 32 := rfl
  obtain ⟨n, _, n0, na, nb, hw⟩ := lim_form (pt_ok (L := L) fun i hi => by have := cL i hi; omega)
  have hp : ptTo L i = limF (ptV L) 4194304 i := rfl
  rw [hp]
  rcases hw with ⟨l, ew⟩ | ⟨l, r, hr⟩
  · rw [ew, hv]; omega
  · obtain ⟨h1, h2, h3⟩ := hr i hi
    rw [hv] at h1
    have hn : n ≤ 67108864 := by
      apply Classical.byContradiction; intro hc
      have x1 := nb (by omega)
      have x2 : (67108864 : Int) * 67108864 ≤ (n - 1) * (n - 1) := sq_le' (by decide) (by omega)
      have x3 := vv_bd (y := ptV L) (R := 33554434) fun i hi => by have := cL (i + 1) (by omega); unfold ptV; omega
      have x4 : vv (ptV L) ≤ 3 * (33554434 * 33554434) := by
        have b := fun i hi => (fun (h : -33554434 ≤ ptV L i ∧ ptV L i ≤ 33554434) => (bmul h.1 h.2 h.1 h.2).2) (by have := cL (i + 1) (by omega : i + 1 < 4); unfold ptV; omega)
        have b0 := b 0 (by omega)
        have b1 := b 1 (by omega)
        have b2 := b 2 (by omega)
        unfold vv; omega
      omega
    generalize limF (ptV L) 4194304 i = W at *
    apply Classical.byContradiction; intro hc
    have y := bmul (show -n ≤ n by omega) (Int.le_refl n) (show -262143 ≤ W by omega) (show W ≤ 262143 by omega)
    have y2 : n * 262143 ≤ 67108864 * 262143 := Int.mul_le_mul_of_nonneg_right hn (by decide)
    omega
theorem pt_sign {L D : Nat → Int} {m : Nat} (hl : 1073741814 * 1073741814 ≤ nn L) (hL : nn L ≤ 1073741836 * 1073741836) (h0 : 0 ≤ L 0) (hr : Rw (m + 1) D (ptTo L)) : 8589934592 ≤ pe (cj (rq fun i => 2 * D i)) L 0 := by
  have cL := bet_bd hL
  have hb := hr.bw
  have g0 : 32 * (D 0 * D 0) - 16 * 4194304 ≤ D 0 * L 1 := pt_gain (L := L) (fun i hi => by have := cL i hi; omega) hb (i := 0) (by omega)
  have g1 : 32 * (D 1 * D 1) - 16 * 4194304 ≤ D 1 * L 2 := pt_gain (L := L) (fun i hi => by have := cL i hi; omega) hb (i := 1) (by omega)
  have g2 : 32 * (D 2 * D 2) - 16 * 4194304 ≤ D 2 * L 3 := pt_gain (L := L) (fun i hi => by have := cL i hi; omega) hb (i := 2) (by omega)
  have d0 := sq_nn (D 0)
  have d1 := sq_nn (D 1)
  have d2 := sq_nn (D 2)
  have z := rq_zero L (fun i => 2 * D i)
  have z2 : 2 * D 0 * L 1 + 2 * D 1 * L 2 + 2 * D 2 * L 3 = 2 * (D 0 * L 1 + D 1 * L 2 + D 2 * L 3) := by grind
  have z3 : pe (cj (rq fun i => 2 * D i)) L 0 = 1073741824 * L 0 + (2 * D 0 * L 1 + 2 * D 1 * L 2 + 2 * D 2 * L 3) := z
  by_cases hs : L 0 < 16
  · obtain ⟨i, hi, hw⟩ := pt_big hl hL ⟨h0, hs⟩
    have hd : 262144 ≤ D i ∨ D i ≤ -262144 := by have := hr i hi; omega
    have hq : 262144 * 262144 ≤ D i * D i := by
      rcases hd with h | h
      · exact sq_le' (by decide) h
      · have := sq_le' (a := 262144) (b := -D i) (by decide) (by omega)
        rw [Int.neg_mul_neg] at this
        exact this
    rcases (show i = 0 ∨ i = 1 ∨ i = 2 by omega) with rfl | rfl | rfl <;> omega
  · omega
theorem pt_mono {L L' D : Nat → Int} {N P : Int} (hP : 0 < P) (n1 : P * 1073741818 ≤ N) (n2 : N ≤ P * 1073774599) (law : ∀ i, i < 4 → -(4 * N) ≤ N * L' i - P * pe (cj (rq fun i => 2 * D i)) L i ∧ N * L' i - P * pe (cj (rq fun i => 2 * D i)) L i ≤ 4 * N)
    (hL : nn L ≤ 1073741836 * 1073741836) (h0 : 0 ≤ L 0) {G inc : Int} (hG : G ≤ 2 * (D 0 * L 1 + D 1 * L 2 + D 2 * L 3)) (hi : 0 ≤ L 0 + inc + 3) (hg : 32775 * 1073741836 + 1073774599 * (inc + 3) < G) : L 0 + inc ≤ L' 0 := by
  have cL := bet_bd hL 0 (by omega)
  have z := rq_zero L (fun i => 2 * D i)
  have z2 : 2 * D 0 * L 1 + 2 * D 1 * L 2 + 2 * D 2 * L 3 = 2 * (D 0 * L 1 + D 1 * L 2 + D 2 * L 3) := by grind
  have z3 : pe (cj (rq fun i => 2 * D i)) L 0 = 1073741824 * L 0 + (2 * D 0 * L 1 + 2 * D 1 * L 2 + 2 * D 2 * L 3) := z
  have l0 := (law 0 (by omega)).1
  have m := Int.mul_le_mul_of_nonneg_left (show 1073741824 * L 0 + G ≤ pe (cj (rq fun i => 2 * D i)) L 0 by omega) (show 0 ≤ P by omega)
  apply Classical.byContradiction; intro hc
  have x1 : N * L' 0 ≤ N * (L 0 + inc - 1) := Int.mul_le_mul_of_nonneg_left (by omega) (by omega)
  have x2 : N * (L 0 + inc - 1) = N * (L 0 + inc + 3) - 4 * N := by grind
  have x3 : N * (L 0 + inc + 3) ≤ P * 1073774599 * (L 0 + inc + 3) := Int.mul_le_mul_of_nonneg_right n2 hi
  have x4 : P * 1073774599 * (L 0 + inc + 3) = P * (1073741824 * L 0 + 32775 * L 0 + 1073774599 * (inc + 3)) := by grind
  have x5 : P * (1073741824 * L 0 + 32775 * L 0 + 1073774599 * (inc + 3)) < P * (1073741824 * L 0 + G) := Int.mul_lt_mul_of_pos_left (by omega) hP
  omega
end Go.Proofs.Ytkmelddejdikgaa
namespace Go.Proofs.Ytkmelddejdikgaa
open Go.RowKit PM Dt
theorem pt_gainF {L D : Nat → Int} {K A g : Int} (hl : 1073741814 * 1073741814 ≤ nn L) (hL : nn L ≤ 1073741836 * 1073741836) (h0 : 0 ≤ L 0) (hK : L 0 ≤ K) (hD : ∀ i, i < 3 → D i = ptTo L i)
    (hA : 2 ≤ A) (h1 : (32 * A) * (32 * A) + K * K < 1073741814 * 1073741814) (h2 : g ≤ 4194304 * (A - 2) - 3 * A) (h3 : g ≤ (A - 1) * (A - 1)) : 64 * g - 402653184 ≤ 2 * (D 0 * L 1 + D 1 * L 2 + D 2 * L 3) := by
  have cL := bet_bd hL
  have ok := pt_ok (L := L) fun i hi => by have := cL i hi; omega
  obtain ⟨n, _, n0, na, nb, hw⟩ := lim_form ok
  have s0 : L 0 * L 0 ≤ K * K := sq_le' h0 hK
  have e : nn L = L 0 * L 0 + (L 1 * L 1 + L 2 * L 2 + L 3 * L 3) := by unfold nn; omega
  have hn : A ≤ n := by
    apply Classical.byContradiction; intro hc
    have x1 : vv (ptV L) ≤ (A - 1) * (A - 1) := Int.le_trans na (sq_le' n0 (by omega))
    have x2 : 32 * ptV L 0 * (32 * ptV L 0) + 32 * ptV L 1 * (32 * ptV L 1) + 32 * ptV L 2 * (32 * ptV L 2) ≤ (32 * (A - 1)) * (32 * (A - 1)) := by
      have y1 : 32 * ptV L 0 * (32 * ptV L 0) + 32 * ptV L 1 * (32 * ptV L 1) + 32 * ptV L 2 * (32 * ptV L 2) = 1024 * vv (ptV L) := by unfold vv; grind
      have y2 : (32 * (A - 1)) * (32 * (A - 1)) = 1024 * ((A - 1) * (A - 1)) := by grind
      omega
    have t := tri3 (X := 32 * (A - 1)) (Y := 2 * 16) (y0 := L 1 - 32 * ptV L 0) (y1 := L 2 - 32 * ptV L 1) (y2 := L 3 - 32 * ptV L 2) (by omega) (by decide) x2 (vv_bd (y := fun i => L (i + 1) - 32 * ptV L i) (R := 16) fun i hi => by
      show -16 ≤ L (i + 1) - 32 * ((L (i + 1) + 16) / 32) ∧ L (i + 1) - 32 * ((L (i + 1) + 16) / 32) ≤ 16
      omega)
    have y : ∀ a b : Int, 32 * a + (b - 32 * a) = b := fun a b => by omega
    rw [y, y, y] at t
    have y2 : 32 * (A - 1) + 2 * 16 = 32 * A := by omega
    rw [y2] at t
    omega
  have aW : g ≤ ptTo L 0 * ptV L 0 + ptTo L 1 * ptV L 1 + ptTo L 2 * ptV L 2 := by
    have hp : ∀ i, ptTo L i = limF (ptV L) 4194304 i := fun i => rfl
    rw [hp, hp, hp]
    have nb' := nb (by omega)
    rcases hw with ⟨l, ew⟩ | ⟨l, r, hr⟩
    · rw [ew]
      have : (A - 1) * (A - 1) ≤ (n - 1) * (n - 1) := sq_le' (by omega) (by omega)
      unfold vv at nb'
      omega
    · have va := fun i (hi : i < 3) => vv_comp n0 na hi
      have r0 := hr 0 (by omega)
      have r1 := hr 1 (by omega)
      have r2 := hr 2 (by omega)
      have p0 := (bmul r0.2.1 r0.2.2 (va 0 (by omega)).1 (va 0 (by omega)).2).2
      have p1 := (bmul r1.2.1 r1.2.2 (va 1 (by omega)).1 (va 1 (by omega)).2).2
      have p2 := (bmul r2.2.1 r2.2.2 (va 2 (by omega)).1 (va 2 (by omega)).2).2
      generalize limF (ptV L) 4194304 = w at *
      have q : n * (w 0 * ptV L 0 + w 1 * ptV L 1 + w 2 * ptV L 2) = 4194304 * vv (ptV L) - (r 0 * ptV L 0 + r 1 * ptV L 1 + r 2 * ptV L 2) := by
        have q0 : n * (w 0 * ptV L 0 + w 1 * ptV L 1 + w 2 * ptV L 2) = (n * w 0) * ptV L 0 + (n * w 1) * ptV L 1 + (n * w 2) * ptV L 2 := by grind
        rw [q0, r0.1, r1.1, r2.1]
        unfold vv; grind
      have q1 : n * (4194304 * (n - 2) - 3 * n) ≤ n * (w 0 * ptV L 0 + w 1 * ptV L 1 + w 2 * ptV L 2) := by
        have z1 : n * (4194304 * (n - 2) - 3 * n) = 4194304 * ((n - 1) * (n - 1)) - 4194304 - 3 * (n * n) := by grind
        omega
      have q2 := Int.le_of_mul_le_mul_left q1 (by omega)
      omega
  have c0 := hD 0 (by omega)
  have c1 := hD 1 (by omega)
  have c2 := hD 2 (by omega)
  rw [c0, c1, c2]
  have W := fun i (hi : i < 3) => ptTo_le L i hi
  have t : ∀ i, i < 3 → -67108864 ≤ ptTo L i * (32 * ptV L i - L (i + 1)) ∧ ptTo L i * (32 * ptV L i - L (i + 1)) ≤ 67108864 := fun i hi => by
    have := bmul (P := 4194304) (R := 16) (a := ptTo L i) (b := 32 * ptV L i - L (i + 1)) (W i hi).1 (W i hi).2 (by unfold ptV; omega) (by unfold ptV; omega)
    omega
  have t0 := (t 0 (by omega)).2
  have t1 := (t 1 (by omega)).2
  have t2 := (t 2 (by omega)).2
  have y : ∀ a b c : Int, a * (32 * b - c) = 32 * (a * b) - a * c := fun a b c => by grind
  rw [y] at t0 t1 t2
  have t0 : 32 * (ptTo L 0 * ptV L 0) - ptTo L 0 * L 1 ≤ 67108864 := t0
  have t1 : 32 * (ptTo L 1 * ptV L 1) - ptTo L 1 * L 2 ≤ 67108864 := t1
  have t2 : 32 * (ptTo L 2 * ptV L 2) - ptTo L 2 * L 3 ≤ 67108864 := t2
  omega
def fI (c : Int) : Int := if c < 652289877 then 6590407 else if c < 922953408 then 4197768 else if c < 1021430631 then 2491886 else if c < 1055782652 then 1431881 else if c < 1067598069 then 648297 else if c < 1071642633 then 200277 else 0
def fS : Nat → Int
  | 0 => 0
  | k + 1 => fS k + fI (fS k)
theorem fS_end : 1071642633 ≤ fS 263 := by decide +kernel
theorem fI_nn (c : Int) : 0 ≤ fI c := by unfold fI; repeat' split <;> try decide
theorem fS_nn : ∀ k, 0 ≤ fS k
  | 0 => by decide
  | k + 1 => by have := fS_nn k; have := fI_nn (fS k); show 0 ≤ fS k + fI (fS k); omega
theorem pt_far {L L' D : Nat → Int} {N P : Int} {k : Nat} (hP : 0 < P) (n1 : P * 1073741818 ≤ N) (n2 : N ≤ P * 1073774599) (law : ∀ i, i < 4 → -(4 * N) ≤ N * L' i - P * pe (cj (rq fun i => 2 * D i)) L i ∧ N * L' i - P * pe (cj (rq fun i => 2 * D i)) L i ≤ 4 * N)
    (hl : 1073741814 * 1073741814 ≤ nn L) (hL : nn L ≤ 1073741836 * 1073741836) (h0 : 0 ≤ L 0) (hD : ∀ i, i < 3 → D i = ptTo L i) (hk : fS k ≤ L 0) (hx : fS k < 1071642633) : fS (k + 1) ≤ L' 0 := by
  have cL := bet_bd hL
  have k0 := fS_nn k
  have hb : Bw D (ptTo L) := fun i hi => by have := hD i hi; omega
  have lowG : -402653184 ≤ 2 * (D 0 * L 1 + D 1 * L 2 + D 2 * L 3) := by
    have g0 : 32 * (D 0 * D 0) - 16 * 4194304 ≤ D 0 * L 1 := pt_gain (L := L) (fun i hi => by have := cL i hi; omega) hb (i := 0) (by omega)
    have g1 : 32 * (D 1 * D 1) - 16 * 4194304 ≤ D 1 * L 2 := pt_gain (L := L) (fun i hi => by have := cL i hi; omega) hb (i := 1) (by omega)
    have g2 : 32 * (D 2 * D 2) - 16 * 4194304 ≤ D 2 * L 3 := pt_gain (L := L) (fun i hi => by have := cL i hi; omega) hb (i := 2) (by omega)
    have d0 := sq_nn (D 0)
    have d1 := sq_nn (D 1)
    have d2 := sq_nn (D 2)
    omega
  have pc : ∀ K I A g Kp : Int, fS k < K → 0 ≤ I → K + I + 32780 ≤ Kp → 2 ≤ A → (32 * A) * (32 * A) + Kp * Kp < 1073741814 * 1073741814 → g ≤ 4194304 * (A - 2) - 3 * A → g ≤ (A - 1) * (A - 1) → 32775 * 1073741836 + 1073774599 * (I + 3) < 64 * g - 402653184 → fS k + I ≤ L' 0 := fun K I A g Kp a1 a2 a3 a4 a5 a6 a7 a8 => by
    by_cases hc : fS k + I + 32780 ≤ L 0
    · have := pt_mono hP n1 n2 law hL h0 (inc := -32780) lowG (by omega) (by decide)
      omega
    · have := pt_mono hP n1 n2 law hL h0 (pt_gainF (K := Kp) hl hL h0 (by omega) hD a4 a5 a6 a7) (by omega) a8
      omega
  show fS k + fI (fS k) ≤ L' 0
  unfold fI
  split
  · exact pc 652289877 6590407 26493569 111121994561661 658913064 (by assumption) (by decide) (by decide) (by decide) (by decide) (by decide) (by decide) (by decide)
  split
  · exact pc 922953408 4197768 16922715 70978952058607 927183956 (by assumption) (by decide) (by decide) (by decide) (by decide) (by decide) (by decide) (by decide)
  split
  · exact pc 1021430631 2491886 10098974 42358128358566 1023955297 (by assumption) (by decide) (by decide) (by decide) (by decide) (by decide) (by decide) (by decide)
  split
  · exact pc 1055782652 1431881 5858820 24573646196212 1057247313 (by assumption) (by decide) (by decide) (by decide) (by decide) (by decide) (by decide) (by decide)
  split
  · exact pc 1067598069 648297 3380370 11426894576161 1068279146 (by assumption) (by decide) (by decide) (by decide) (by decide) (by decide) (by decide) (by decide)
  exact pc 1071642633 200277 1977408 3910138443649 1071875690 (by assumption) (by decide) (by decide) (by decide) (by decide) (by decide) (by decide) (by decide)
theorem pt_near {L L' D : Nat → Int} {N P M : Int} (hP : 0 < P) (n1 : P * 1073741818 ≤ N) (law : ∀ i, i < 4 → -(4 * N) ≤ N * L' i - P * pe (cj (rq fun i => 2 * D i)) L i ∧ N * L' i - P * pe (cj (rq fun i => 2 * D i)) L i ≤ 4 * N)
    (hl : 1073741814 * 1073741814 ≤ nn L) (hL : nn L ≤ 1073741836 * 1073741836) (h0 : 0 ≤ L 0) (hD : ∀ i, i < 3 → D i = ptTo L i) (hM0 : 0 ≤ M) (hM : M ≤ 67108864) (hc : ∀ i, i < 3 → -M ≤ L (i + 1) ∧ L (i + 1) ≤ M) :
    ∀ i, i < 3 → -(938 * M / 1000 + 6) ≤ L' (i + 1) ∧ L' (i + 1) ≤ 938 * M / 1000 + 6 := by
  have cL := bet_bd hL
  have b := fun i hi => (bmul (hc i hi).1 (hc i hi).2 (hc i hi).1 (hc i hi).2).2
  have b0 : L 1 * L 1 ≤ M * M := b 0 (by omega)
  have b1 : L 2 * L 2 ≤ M * M := b 1 (by omega)
  have b2 : L 3 * L 3 ≤ M * M := b 2 (by omega)
  have bM : M * M ≤ 67108864 * 67108864 := sq_le' hM0 hM
  have e : nn L = L 0 * L 0 + (L 1 * L 1 + L 2 * L 2 + L 3 * L 3) := by unfold nn; omega
  have l0 : 1067000000 ≤ L 0 := by
    apply Classical.byContradiction; intro h
    have := sq_le' h0 (show L 0 ≤ 1067000000 by omega)
    omega
  obtain ⟨n, _, n0, na, nb, hw⟩ := lim_form (pt_ok (L := L) fun i hi => by have := cL i hi; omega)
  have wv : limF (ptV L) 4194304 = ptV L := by
    rcases hw with ⟨_, ew⟩ | ⟨l, _⟩
    · exact ew
    · have x1 := nb (by omega)
      have x2 : (4194304 : Int) * 4194304 ≤ (n - 1) * (n - 1) := sq_le' (by decide) (by omega)
      have x3 := vv_bd (y := ptV L) (R := 2097152) fun i hi => by have := hc i hi; unfold ptV; omega
      omega
  have hd : ∀ i, i < 3 → ∃ s, 32 * D i = L (i + 1) + s ∧ -16 ≤ s ∧ s ≤ 16 := fun i hi => by
    refine ⟨32 * D i - L (i + 1), by omega, ?_⟩
    have x : D i = (L (i + 1) + 16) / 32 := by rw [hD i hi]; show limF (ptV L) 4194304 i = _; rw [wv]; rfl
    rw [x]; omega
  obtain ⟨s0, d0, s0l, s0u⟩ := hd 0 (by omega)
  obtain ⟨s1, d1, s1l, s1u⟩ := hd 1 (by omega)
  obtain ⟨s2, d2, s2l, s2u⟩ := hd 2 (by omega)
  have d0 : 32 * D 0 = L 1 + s0 := d0
  have d1 : 32 * D 1 = L 2 + s1 := d1
  have d2 : 32 * D 2 = L 3 + s2 := d2
  have r1 : 16 * pe (cj (rq fun i => 2 * D i)) L 1 = (17179869184 - L 0) * L 1 + (s2 * L 2 - s1 * L 3 - s0 * L 0) := by
    have x : pe (cj (rq fun i => 2 * D i)) L 1 = 1073741824 * L 1 + -(2 * D 0) * L 0 + -(2 * D 1) * L 3 - -(2 * D 2) * L 2 := rfl
    have y : 16 * pe (cj (rq fun i => 2 * D i)) L 1 = 17179869184 * L 1 - (32 * D 0) * L 0 - (32 * D 1) * L 3 + (32 * D 2) * L 2 := by rw [x]; grind
    rw [y, d0, d1, d2]; grind
  have r2 : 16 * pe (cj (rq fun i => 2 * D i)) L 2 = (17179869184 - L 0) * L 2 + (s0 * L 3 - s2 * L 1 - s1 * L 0) := by
    have x : pe (cj (rq fun i => 2 * D i)) L 2 = 1073741824 * L 2 - -(2 * D 0) * L 3 + -(2 * D 1) * L 0 + -(2 * D 2) * L 1 := rfl
    have y : 16 * pe (cj (rq fun i => 2 * D i)) L 2 = 17179869184 * L 2 + (32 * D 0) * L 3 - (32 * D 1) * L 0 - (32 * D 2) * L 1 := by rw [x]; grind
    rw [y, d0, d1, d2]; grind
  have r3 : 16 * pe (cj (rq fun i => 2 * D i)) L 3 = (17179869184 - L 0) * L 3 + (s1 * L 1 - s0 * L 2 - s2 * L 0) := by
    have x : pe (cj (rq fun i => 2 * D i)) L 3 = 1073741824 * L 3 + -(2 * D 0) * L 2 - -(2 * D 1) * L 1 + -(2 * D 2) * L 0 := rfl
    have y : 16 * pe (cj (rq fun i => 2 * D i)) L 3 = 17179869184 * L 3 - (32 * D 0) * L 2 + (32 * D 1) * L 1 - (32 * D 2) * L 0 := by rw [x]; grind
    rw [y, d0, d1, d2]; grind
  have fin : ∀ l l' r a b c : Int, -M ≤ l → l ≤ M → 16 * r = (17179869184 - L 0) * l + (a - b - c) → -(16 * M) ≤ a → a ≤ 16 * M → -(16 * M) ≤ b → b ≤ 16 * M → -(16 * 1073741836) ≤ c → c ≤ 16 * 1073741836 → -(4 * N) ≤ N * l' - P * r → N * l' - P * r ≤ 4 * N → -(938 * M / 1000 + 6) ≤ l' ∧ l' ≤ 938 * M / 1000 + 6 := fun l l' r a b c h1 h2 hr a1 a2 b1 b2 c1 c2 q1 q2 => by
    have x := bmul (P := 16112869184) (R := M) (a := 17179869184 - L 0) (b := l) (by have := cL 0 (by omega); omega) (by omega) h1 h2
    have R := (show -(16112869216 * M + 17179869376) ≤ 16 * r ∧ 16 * r ≤ 16112869216 * M + 17179869376 by omega)
    have p1 := Int.mul_le_mul_of_nonneg_left R.1 (show 0 ≤ P by omega)
    have p2 := Int.mul_le_mul_of_nonneg_left R.2 (show 0 ≤ P by omega)
    have e1 : P * (16 * r) = 16 * (P * r) := by grind
    have e2 : P * -(16112869216 * M + 17179869376) = -(P * (16112869216 * M + 17179869376)) := by grind
    have key : ∀ V : Int, 938 * M / 1000 + 7 ≤ V → N * (16 * V - 64) ≤ P * (16112869216 * M + 17179869376) → False := fun V hV hh => by
      have x1 : P * 1073741818 * (16 * V - 64) ≤ N * (16 * V - 64) := Int.mul_le_mul_of_nonneg_right n1 (by omega)
      have x2 : P * 1073741818 * (16 * V - 64) = P * (1073741818 * (16 * V - 64)) := by grind
      have x3 : P * (1073741818 * (16 * V - 64)) ≤ P * (16112869216 * M + 17179869376) := by omega
      have := Int.le_of_mul_le_mul_left x3 hP
      omega
    constructor
    · apply Classical.byContradiction; intro hc
      refine key (-l') (by omega) ?_
      have : N * (16 * -l' - 64) = -(16 * (N * l')) - 64 * N := by grind
      omega
    · apply Classical.byContradiction; intro hc
      refine key l' (by omega) ?_
      have : N * (16 * l' - 64) = 16 * (N * l') - 64 * N := by grind
      omega
  have sm := fun (s : Int) (h1 : -16 ≤ s) (h2 : s ≤ 16) j (hj : j < 3) => bmul (P := 16) (R := M) h1 h2 (hc j hj).1 (hc j hj).2
  have sz := fun (s : Int) (h1 : -16 ≤ s) (h2 : s ≤ 16) => bmul (P := 16) (R := 1073741836) h1 h2 (cL 0 (by omega)).1 (cL 0 (by omega)).2
  intro i hi
  rcases (show i = 0 ∨ i = 1 ∨ i = 2 by omega) with rfl | rfl | rfl
  · exact fin _ _ _ _ _ _ (hc 0 hi).1 (hc 0 hi).2 r1 (sm s2 s2l s2u 1 (by omega)).1 (sm s2 s2l s2u 1 (by omega)).2 (sm s1 s1l s1u 2 (by omega)).1 (sm s1 s1l s1u 2 (by omega)).2 (sz s0 s0l s0u).1 (sz s0 s0l s0u).2 (law 1 (by omega)).1 (law 1 (by omega)).2
  · exact fin _ _ _ _ _ _ (hc 1 hi).1 (hc 1 hi).2 r2 (sm s0 s0l s0u 2 (by omega)).1 (sm s0 s0l s0u 2 (by omega)).2 (sm s2 s2l s2u 0 (by omega)).1 (sm s2 s2l s2u 0 (by omega)).2 (sz s1 s1l s1u).1 (sz s1 s1l s1u).2 (law 2 (by omega)).1 (law 2 (by omega)).2
  · exact fin _ _ _ _ _ _ (hc 2 hi).1 (hc 2 hi).2 r3 (sm s1 s1l s1u 0 (by omega)).1 (sm s1 s1l s1u 0 (by omega)).2 (sm s0 s0l s0u 1 (by omega)).1 (sm s0 s0l s0u 1 (by omega)).2 (sz s2 s2l s2u).1 (sz s2 s2l s2u).2 (law 3 (by omega)).1 (law 3 (by omega)).2
end Go.Proofs.Ytkmelddejdikgaa
namespace Go.Proofs.Ytkmelddejdikgaa
open Go.RowKit PM Dt
def nS : Nat → Int
  | 0 => 67108864
  | j + 1 => 938 * nS j / 1000 + 6
theorem nS_bd : ∀ j, 0 ≤ nS j ∧ nS j ≤ 67108864
  | 0 => by decide
  | j + 1 => by have := nS_bd j; show 0 ≤ 938 * nS j / 1000 + 6 ∧ 938 * nS j / 1000 + 6 ≤ 67108864; omega
theorem nS_185 : nS 185 ≤ 590 := by decide +kernel
theorem nS_end : ∀ j, nS (185 + j) ≤ 590
  | 0 => nS_185
  | j + 1 => by have := nS_end j; show 938 * nS (185 + j) / 1000 + 6 ≤ 590; omega
def PP (m : Nat) (L : Nat → Int) : Prop := m < 16 ∨ (∃ k, m = 16 + k ∧ k ≤ 263 ∧ fS k ≤ L 0) ∨ ∃ j, 16 ≤ m ∧ m ≤ 279 + j ∧ ∀ i, i < 3 → -nS j ≤ L (i + 1) ∧ L (i + 1) ≤ nS j
theorem PP.fin {m : Nat} {L : Nat → Int} (h : PP m L) (hm : 465 ≤ m) : ∀ i, i < 3 → -590 ≤ L (i + 1) ∧ L (i + 1) ≤ 590 := by
  rcases h with h | ⟨k, h1, h2, _⟩ | ⟨j, _, h2, h3⟩
  · omega
  · omega
  · intro i hi
    have := h3 i hi
    obtain ⟨d, rfl⟩ : ∃ d, j = 185 + d := ⟨j - 185, by omega⟩
    have := nS_end d
    omega
theorem pp_near {L : Nat → Int} (hL : nn L ≤ 1073741836 * 1073741836) (h : 1071642633 ≤ L 0) : ∀ i, i < 3 → -67108864 ≤ L (i + 1) ∧ L (i + 1) ≤ 67108864 := fun i hi => by
  have s0 := sq_le' (show (0 : Int) ≤ 1071642633 by decide) h
  have e : nn L = L 0 * L 0 + (L 1 * L 1 + L 2 * L 2 + L 3 * L 3) := by unfold nn; omega
  have n1 := sq_nn (L 1)
  have n2 := sq_nn (L 2)
  have n3 := sq_nn (L 3)
  refine abs_le_of_sq (by decide) ?_
  rcases (show i = 0 ∨ i = 1 ∨ i = 2 by omega) with rfl | rfl | rfl
  · show L 1 * L 1 ≤ _; omega
  · show L 2 * L 2 ≤ _; omega
  · show L 3 * L 3 ≤ _; omega
theorem PP.step {m : Nat} {L L' D : Nat → Int} {N P : Int} (h : PP m L) (hP : 0 < P) (n1 : P * 1073741818 ≤ N) (n2 : N ≤ P * 1073774599) (law : ∀ i, i < 4 → -(4 * N) ≤ N * L' i - P * pe (cj (rq fun i => 2 * D i)) L i ∧ N * L' i - P * pe (cj (rq fun i => 2 * D i)) L i ≤ 4 * N)
    (hl : 1073741814 * 1073741814 ≤ nn L) (hL : nn L ≤ 1073741836 * 1073741836) (h0 : 0 ≤ L 0) (h0' : 0 ≤ L' 0) (hr : Rw (m + 1) D (ptTo L)) : PP (m + 1) L' := by
  by_cases hm : m < 16
  · by_cases h15 : m < 15
    · exact .inl (by omega)
    · exact .inr (.inl ⟨0, by omega, by omega, h0'⟩)
  have hD := hr.full (by omega) (ptTo_le L)
  have near : ∀ j, m ≤ 279 + j → (∀ i, i < 3 → -nS j ≤ L (i + 1) ∧ L (i + 1) ≤ nS j) → PP (m + 1) L' := fun j h1 h2 => by
    have b := nS_bd j
    exact .inr (.inr ⟨j + 1, by omega, by omega, pt_near hP n1 law hl hL h0 hD b.1 b.2 h2⟩)
  rcases h with h | ⟨k, h1, h2, h3⟩ | ⟨j, _, h2, h3⟩
  · omega
  · by_cases hx : fS k < 1071642633
    · by_cases hk : k = 263
      · subst hk
        have := fS_end
        omega
      · exact .inr (.inl ⟨k + 1, by omega, by omega, pt_far hP n1 n2 law hl hL h0 hD h3 hx⟩)
    · exact near 0 (by omega) (pp_near hL (by omega))
  · exact near j h2 h3
def PtI (m : Nat) (Q q D : Nat → Int) : Prop := (∃ W, Rw m D W ∧ ∀ i, i < 3 → -262144 ≤ ptTo (betF Q q) i - W i ∧ ptTo (betF Q q) i - W i ≤ 262144) ∧ PP m (betF Q q)
theorem PtI.start {Q q D : Nat → Int} (h : ∀ i, i < 3 → D i = 0) : PtI 0 Q q D := ⟨⟨ptTo (betF Q q), Rw.start h, fun i hi => by omega⟩, .inl (by decide)⟩
def ptD (Q q D : Nat → Int) : Nat → Int := fun i => D i + clampV (ptTo (betF Q q) i - D i) (-262144) 262144
theorem PtI.step {m : Nat} {Q q D : Nat → Int} (h : PtI m Q q D) (hI : ∀ i, i < 4 → I64 (Q i)) (hQ : validQ Q = true) (hJ : ∀ i, i < 4 → I64 (q i)) (hq : validQ q = true) (hI' : ∀ i, i < 4 → I64 (attG Q (ptD Q q D) i)) (hQ' : validQ (attG Q (ptD Q q D)) = true) :
    PtI (m + 1) (attG Q (ptD Q q D)) q (ptD Q q D) := by
  obtain ⟨⟨W, hr, hd⟩, hp⟩ := h
  have hr' : Rw (m + 1) (ptD Q q D) (ptTo (betF Q q)) := hr.step hd
  obtain ⟨hl, hL⟩ := bet_nn hI hQ hJ hq
  obtain ⟨_, hL'⟩ := bet_nn hI' hQ' hJ hq
  obtain ⟨h0, _⟩ := bet_some hI hQ hJ hq
  obtain ⟨h0', _⟩ := bet_some hI' hQ' hJ hq
  have cL := bet_bd hL
  have dd : vv (ptD Q q D) ≤ 17592186044416 := by
    have := (lim_core (pt_ok (L := betF Q q) fun i hi => by have := cL i hi; omega)).2.2
    have h2 := hr'.bw.sq
    have e : ∀ i, ptTo (betF Q q) i = limF (ptV (betF Q q)) 4194304 i := fun i => rfl
    have e2 : vv (ptTo (betF Q q)) = ptTo (betF Q q) 0 * ptTo (betF Q q) 0 + ptTo (betF Q q) 1 * ptTo (betF Q q) 1 + ptTo (betF Q q) 2 * ptTo (betF Q q) 2 := rfl
    rw [e, e, e] at e2
    omega
  have db : ∀ i, i < 3 → -4194304 ≤ ptD Q q D i ∧ ptD Q q D i ≤ 4194304 := fun i hi => by
    have a := hr'.bw i hi
    have b := ptTo_le (betF Q q) i hi
    omega
  obtain ⟨N, P, hP, n1, n2, law⟩ := att_L hI hQ hJ hq db dd (.inl (pt_sign hl hL h0 hr'))
  exact ⟨⟨_, hr', turn_wanted hP n1 n2 law hL hL' h0 hr'.bw⟩, hp.step hP n1 n2 law hl hL h0 h0' hr'⟩
theorem PtI.fin {m : Nat} {Q q D : Nat → Int} (h : PtI m Q q D) (hm : 465 ≤ m) : normE (fun i => betF Q q (i + 1)) = 0 ∧ normV (fun i => betF Q q (i + 1)) ≤ 1024 := by
  have b := h.2.fin hm
  have ok : okV (fun i => betF Q q (i + 1)) = true := (okV_iff _).2 fun i hi => (vb_iff _).2 (by have := b i hi; show _ ≤ betF Q q (i + 1) ∧ betF Q q (i + 1) ≤ _; omega)
  obtain ⟨hE, N, hN, h1, _, _⟩ := norm_val ok
  refine ⟨hE, ?_⟩
  have s := fun i hi => (bmul (b i hi).1 (b i hi).2 (b i hi).1 (b i hi).2).2
  have s0 : betF Q q 1 * betF Q q 1 ≤ 590 * 590 := s 0 (by omega)
  have s1 : betF Q q 2 * betF Q q 2 ≤ 590 * 590 := s 1 (by omega)
  have s2 : betF Q q 3 * betF Q q 3 ≤ 590 * 590 := s 2 (by omega)
  have h1 : (N : Int) * N ≤ betF Q q 1 * betF Q q 1 + betF Q q 2 * betF Q q 2 + betF Q q 3 * betF Q q 3 := h1
  rw [hN]
  apply Classical.byContradiction; intro hc
  have := sq_le' (show (0 : Int) ≤ 1025 by decide) (show (1025 : Int) ≤ N by omega)
  omega
end Go.Proofs.Ytkmelddejdikgaa
namespace Go.Proofs.Ytkmelddejdikgaa
open Go.RowKit PM Dt
def tgD (X : BSt) (D : Nat → Int) : Nat → Int := allocF (fun i => qbackF X.Q X.T i - D i) X.f
structure FI (X : BSt) (S : SSt) : Prop where
  b : BI X
  s : SSI S
  z : ∀ i : Nat, i < 4 → (i : Int) = X.f → X.h i = 0
  n : ∀ i, i < 4 → -216001 ≤ X.h i - tgD X S.D i ∧ X.h i - tgD X S.D i ≤ 216001
theorem FI.ri {X : BSt} {S : SSt} (k : FI X S) : RI X SSt.zero :=
  ⟨k.b, ⟨fun i hi => z0 (N := 4194304) (by decide), fun i hi => z0 (N := 1073741824) (by decide)⟩, k.z, fun i hi => rfl⟩
theorem FI.w {X : BSt} {S : SSt} (k : FI X S) : isW X.f = true := k.ri.w
theorem FI.of {X : BSt} {S : SSt} (k : RI X S) {n : Nat} (hn : 19 ≤ n) (h : Stage n X) : FI X S := by
  have r : R0 X := by
    rcases h with ⟨h1, _⟩ | ⟨_, h2, _⟩ | ⟨_, h2, _⟩
    · omega
    · omega
    · exact h2
  have e : tgD X S.D = tgt X := allocF_congr (fun i hi => by show _ - _ = _; rw [k.d i hi]; omega) k.w
  exact ⟨k.b, k.s, k.z, fun i hi => by rw [e, r i hi]; omega⟩
theorem stp_reach {h P : Int} (hh : -16777216 ≤ h ∧ h ≤ 16777216) (hP : -16777216 ≤ P ∧ P ≤ 16777216) (hE : -1000000 ≤ P - h ∧ P - h ≤ 1000000) : stpX h (cmdX h P) = P := by
  have hf := frW_bd hh
  have hc : cmdX h P = P - h + frW h := by unfold cmdX; rw [clampW_id hP]
  unfold stpX
  rw [hc, clampT_id (by omega), show h - frW h + (P - h + frW h) = P by omega, clampW_id hP]
def folB (X : BSt) (c : Nat → Int) : BSt := tickX X c (fun _ => 0)
theorem fl_h (X : BSt) (c : Nat → Int) (i : Nat) : (folB X c).h i = if (i : Int) = X.f then X.h i else stpX (X.h i) (c i) := by
  unfold folB tickX
  rw [if_pos z_small]; rfl
theorem fl_f (X : BSt) (c : Nat → Int) : (folB X c).f = X.f := by unfold folB tickX; rw [if_pos z_small]
theorem fl_Q (X : BSt) (c : Nat → Int) : (folB X c).Q = attG X.Q (momG X.Q X.T (folB X c).h) := by unfold folB tickX; rw [if_pos z_small]; rfl
theorem fl_T {X : BSt} (k : BI X) (c : Nat → Int) : ∀ i, i < 3 → (folB X c).T i = X.T i := fun i hi => by
  have hD : ∀ i, i < 3 → tickD X c (fun _ => 0) i = 0 := fun i hi => by
    obtain ⟨qI, qv⟩ := k.att c
    obtain ⟨_, _, hb⟩ := valid_back qI qv (by decide) (by decide) (vv0 (v := fun _ => 0) (fun i hi => rfl))
    have := (hb i hi).2
    unfold tickD; omega
  have bT := fun i hi => (allB_bd k.t).1 i hi
  obtain ⟨_, hv⟩ := vadd_ok (f := X.T) (g := tickD X c (fun _ => 0)) (fun i hi => by have := bT i hi; omega) (fun i hi => by rw [hD i hi]; decide)
  unfold folB tickX
  rw [if_pos z_small]
  show (if allB (tickS X c fun _ => 0) = true then tickS X c (fun _ => 0) else X.T) i = X.T i
  split
  · show vaddF X.T (tickD X c fun _ => 0) i = _
    rw [hv i, hD i hi]; omega
  · rfl
theorem fol_P {X : BSt} (kb : BI X) (kw : isW X.f = true) (sun D : Nat → Int) (hb : ∀ i, i < 3 → -4194304 ≤ D i ∧ D i ≤ 4194304) : stP (senseV X sun) D = tgD X D := by
  obtain ⟨_, hm⟩ := momG_eq kb.q kb.v kb.t kb.s
  unfold stP allF tgD
  have hr : ∀ i, i < 3 → rstF (senseV X sun) D i = qbackF X.Q X.T i - D i := fun i hi => by
    have h1 := (hm i hi).2
    show sumW X.h i + ((4 * momF X i) / 4 - D i) = _
    have h3 : momF X i = qbackF X.Q X.T i - sumW X.h i := h1
    rw [h3]; omega
  have hok : okV (rstF (senseV X sun) D) = true := (okV_iff _).2 fun i hi => (vb_iff _).2 (by rw [hr i hi]; have := (hm i hi).1; have := hb i hi; omega)
  rw [hok, show isW (senseV X sun).f = true from kw]
  show allocF _ X.f = _
  rw [allocF_congr hr kw]
theorem fol_cmd {X : BSt} {S : SSt} (k : FI X S) (sun To : Nat → Int) (hb : ∀ i, i < 3 → -4194304 ≤ stD (arrB S (senseV X sun)) S To i ∧ stD (arrB S (senseV X sun)) S To i ≤ 4194304) :
    stC S (senseV X sun) To = cmdF X.h X.f (tgD X (stD (arrB S (senseV X sun)) S To)) := by
  unfold stC
  rw [fol_P k.b k.w sun _ hb]
  rfl
theorem fol_hit {X : BSt} {S S2 : SSt} (k : FI X S) (k2 : SSI S2) (hd : ∀ i, i < 3 → -262144 ≤ S2.D i - S.D i ∧ S2.D i - S.D i ≤ 262144) : ∀ i, i < 4 → (folB X (cmdF X.h X.f (tgD X S2.D))).h i = tgD X S2.D i := fun i hi => by
  obtain ⟨_, hm⟩ := momG_eq k.b.q k.b.v k.b.t k.b.s
  have hw := k.w
  have hn := allocF_near (d := fun i => qbackF X.Q X.T i - S2.D i) (e := fun i => qbackF X.Q X.T i - S.D i) (f := X.f) (D := 262144) (by decide) (fun i hi => by have := hd i hi; show _ ≤ (_ - _) - (_ - _) ∧ (_ - _) - (_ - _) ≤ _; omega) hw
  have hP := allocF_bd (d := fun i => qbackF X.Q X.T i - S2.D i) (f := X.f) (m := 5242880) (by decide) (fun i hi => by have := (hm i hi).1; have := k2.d i hi; show _ ≤ _ - _ ∧ _ - _ ≤ _; omega) hw
  rw [fl_h]
  split
  · rename_i e
    have t : tgD X S2.D i = 0 := allocF_failed hi e
    rw [k.z i hi e, t]
  · rename_i e
    have c : cmdF X.h X.f (tgD X S2.D) i = cmdX (X.h i) (tgD X S2.D i) := by unfold cmdF; rw [if_neg e]
    have a1 := k.n i hi
    have a2 := hn i
    have a3 := hP i
    rw [c]
    exact stp_reach (k.b.s.b i hi) (by unfold tgD; omega) (by unfold tgD at a1 ⊢; omega)
theorem fol_tick {X : BSt} {S S2 : SSt} (k : FI X S) (k2 : SSI S2) (hd : ∀ i, i < 3 → -262144 ≤ S2.D i - S.D i ∧ S2.D i - S.D i ≤ 262144) :
    FI (folB X (cmdF X.h X.f (tgD X S2.D))) S2 ∧ ∀ i, i < 3 → ownF X (folB X (cmdF X.h X.f (tgD X S2.D))).h i = S2.D i := by
  obtain ⟨_, hm⟩ := momG_eq k.b.q k.b.v k.b.t k.b.s
  have hw := k.w
  have hh := fol_hit k k2 hd
  have kb : BI (folB X (cmdF X.h X.f (tgD X S2.D))) := k.b.tick _ _
  have hS := kb.s
  rw [fl_f] at hS
  generalize hY : folB X (cmdF X.h X.f (tgD X S2.D)) = Y at *
  have yf : Y.f = X.f := by rw [← hY, fl_f]
  have yQ : Y.Q = attG X.Q (momG X.Q X.T Y.h) := by rw [← hY]; exact fl_Q _ _
  have yT : ∀ i, i < 3 → Y.T i = X.T i := by rw [← hY]; exact fl_T k.b _
  obtain ⟨_, hm2⟩ := momG_eq k.b.q k.b.v k.b.t hS
  have own : ∀ i, i < 3 → momG X.Q X.T Y.h i = S2.D i := fun i hi => by
    have a := (hm2 i hi).2
    have b := allocF_sum (fun i => qbackF X.Q X.T i - S2.D i) X.f hi
    have c : sumW Y.h i = sumW (allocF (fun i => qbackF X.Q X.T i - S2.D i) X.f) i := by
      unfold sumW
      rw [hh i (by omega), hh 3 (by omega)]; rfl
    rw [a, c, b]
    show _ - (_ - _) = _
    omega
  refine ⟨⟨kb, k2, fun i hi e => ?_, fun i hi => ?_⟩, own⟩
  · rw [yf] at e
    rw [hh i hi]; exact allocF_failed hi e
  · have hb : ∀ i, i < 3 → -108000 ≤ qbackF Y.Q Y.T i - qbackF X.Q X.T i ∧ qbackF Y.Q Y.T i - qbackF X.Q X.T i ≤ 108000 := fun i hi => by
      rw [qback_congr _ yT, yQ]
      exact back_near k.b.q k.b.v k.b.t (fun i hi => by rw [own i hi]; have := k2.d i hi; omega) hi
    have ht := allocF_near (d := fun i => qbackF Y.Q Y.T i - S2.D i) (e := fun i => qbackF X.Q X.T i - S2.D i) (f := X.f) (D := 108000) (by decide) (fun i hi => by have := hb i hi; show _ ≤ (_ - _) - (_ - _) ∧ (_ - _) - (_ - _) ≤ _; omega) hw i
    rw [hh i hi]
    have e1 : tgD Y S2.D i = allocF (fun i => qbackF Y.Q Y.T i - S2.D i) X.f i := by unfold tgD; rw [yf]
    rw [e1]
    unfold tgD
    omega
end Go.Proofs.Ytkmelddejdikgaa
namespace Go.Proofs.Ytkmelddejdikgaa
open Go.RowKit PM Dt
theorem zV_of0 {l : Nat → Int} (h : zV l = true) : ∀ i, i < 3 → l i = 0 := fun i hi => by
  unfold zV at h
  exact beq_iff_eq.1 (List.all_eq_true.1 h i (List.mem_range.2 hi))
theorem attG_congr {Q l l' : Nat → Int} (h : ∀ i, i < 3 → l i = l' i) : attG Q l = attG Q l' := by
  have hz : zV l = zV l' := Bool.eq_iff_iff.2 ⟨fun k => zV_of fun i hi => by rw [← h i hi]; exact zV_of0 k i hi, fun k => zV_of fun i hi => by rw [h i hi]; exact zV_of0 k i hi⟩
  have hr : rq (mulF 2 l) = rq (mulF 2 l') := by
    funext i
    unfold rq mulF
    rw [h 0 (by omega), h 1 (by omega), h 2 (by omega)]
  have hm : ∀ i, i < 3 → mulF 2 l i = mulF 2 l' i := fun i hi => by unfold mulF; rw [h i hi]
  have hs : smallB (mulF 2 l) 1073741824 = smallB (mulF 2 l') 1073741824 := Bool.eq_iff_iff.2 ⟨fun k => (smallB_iff _ _).2 fun i hi => by rw [← hm i hi]; exact (smallB_iff _ _).1 k i hi, fun k => (smallB_iff _ _).2 fun i hi => by rw [hm i hi]; exact (smallB_iff _ _).1 k i hi⟩
  unfold attG turnF turnOk
  rw [hz, hr, hs]
structure Pre (n : Nat) (X : BSt) (S : SSt) (sun : Nat → Int) : Prop where
  k : RI X S
  st : Stage n X
  r : arrB S (senseV X sun) = true → R0 X
  a : 20 ≤ n → arrB S (senseV X sun) = true
theorem Pre.start {X : BSt} {sun : Nat → Int} (k : RI X SSt.zero) : Pre 0 X SSt.zero sun := ⟨k, stage_zero k, fun h => (by cases h), fun h => by omega⟩
theorem tgD_zero {X : BSt} (kw : isW X.f = true) {D : Nat → Int} (h : ∀ i, i < 3 → D i = 0) : tgD X D = tgt X := allocF_congr (fun i hi => by show _ - _ = _; rw [h i hi]; omega) kw
theorem Pre.fi {n : Nat} {X : BSt} {S : SSt} {sun : Nat → Int} (h : Pre n X S sun) (ha : arrB S (senseV X sun) = true) : FI X S :=
  ⟨h.k.b, h.k.s, h.k.z, fun i hi => by rw [tgD_zero h.k.w h.k.d, h.r ha i hi]; omega⟩
theorem pre_P {X : BSt} {S : SSt} {sun : Nat → Int} (k : RI X S) (ha : arrB S (senseV X sun) = false) (To : Nat → Int) : stP (senseV X sun) (stD (arrB S (senseV X sun)) S To) = tgt X := by
  have hd : ∀ i, i < 3 → stD (arrB S (senseV X sun)) S To i = 0 := fun i hi => by rw [ha]; exact k.d i hi
  rw [fol_P k.b k.w sun _ fun i hi => by rw [hd i hi]; decide]
  exact tgD_zero k.w hd
theorem pre_rt {X : BSt} {S : SSt} {sun : Nat → Int} (k : RI X S) (hs : senseOk (senseV X sun) = true) (ha : arrB S (senseV X sun) = false) (To : Nat → Int) : folB X (stC S (senseV X sun) To) = rtB X S sun := by
  unfold stC
  rw [pre_P k ha]
  exact (rtB_eq k hs).symm
theorem spd_eq {a b : Nat → Int} (h : spdE a b = true) : ∀ j, j < 4 → a j = b j := fun j hj => by
  unfold spdE at h
  exact beq_iff_eq.1 (List.all_eq_true.1 h j (List.mem_range.2 hj))
theorem spd_of {a b : Nat → Int} (h : ∀ j, j < 4 → a j = b j) : spdE a b = true := by
  unfold spdE
  exact List.all_eq_true.2 fun j hj => beq_iff_eq.2 (h j (List.mem_range.1 hj))
theorem Pre.step {n : Nat} {X : BSt} {S : SSt} {sun A To : Nat → Int} (h : Pre n X S sun) (hs : senseOk (senseV X sun) = true) (ha : arrB S (senseV X sun) = false) (hA : ∀ i, i < 3 → -1073741824 ≤ A i ∧ A i ≤ 1073741824) (hT : ∀ i, i < 3 → -4194304 ≤ To i ∧ To i ≤ 4194304) :
    Pre (n + 1) (folB X (stC S (senseV X sun) To)) (stX S (senseV X sun) A To) sun := by
  rw [pre_rt h.k hs ha]
  have t := h.k.tick hs
  have kd : ∀ i, i < 3 → (stX S (senseV X sun) A To).D i = 0 := fun i hi => by show stD (arrB S (senseV X sun)) S To i = 0; rw [ha]; exact h.k.d i hi
  have hP : (stX S (senseV X sun) A To).P = tgt X := pre_P h.k ha To
  have hn : n < 20 := by
    apply Classical.byContradiction; intro hc
    rw [h.a (by omega)] at ha; cases ha
  refine ⟨⟨t.b, h.k.s.step _ hA hT, t.z, kd⟩, stage_step h.k hs h.st, fun hr => ?_, fun h20 => ?_⟩
  · have e : spdE (rtB X S sun).h (stX S (senseV X sun) A To).P = true := by
      unfold arrB at hr
      exact (Bool.and_eq_true _ _ |>.mp hr).2
    rw [hP] at e
    exact (reach h.k hs (spd_eq e)).1
  · have r : R0 X := by
      rcases h.st with ⟨h1, _⟩ | ⟨_, h2, _⟩ | ⟨_, h2, _⟩
      · omega
      · omega
      · exact h2
    have e : spdE (rtB X S sun).h (stX S (senseV X sun) A To).P = true := by
      rw [hP]; exact spd_of (rest_stays h.k hs r)
    unfold arrB
    exact Bool.and_eq_true _ _ |>.mpr ⟨rfl, e⟩
theorem fia_step {X : BSt} {S : SSt} {sun A To : Nat → Int} (k : FI X S) (ha : arrB S (senseV X sun) = true) (hA : ∀ i, i < 3 → -1073741824 ≤ A i ∧ A i ≤ 1073741824) (hT : ∀ i, i < 3 → -4194304 ≤ To i ∧ To i ≤ 4194304) :
    FI (folB X (stC S (senseV X sun) To)) (stX S (senseV X sun) A To) ∧ arrB (stX S (senseV X sun) A To) (senseV (folB X (stC S (senseV X sun) To)) sun) = true ∧
      (folB X (stC S (senseV X sun) To)).Q = attG X.Q (stX S (senseV X sun) A To).D := by
  have k2 : SSI (stX S (senseV X sun) A To) := k.s.step _ hA hT
  have hD := fun i hi => stD_bd k.s (arrB S (senseV X sun)) hT (i := i) hi
  have e1 : (stX S (senseV X sun) A To).D = stD (arrB S (senseV X sun)) S To := rfl
  have e2 := fol_cmd k sun To fun i hi => (hD i hi).1
  rw [← e1] at e2
  obtain ⟨kn, own⟩ := fol_tick k k2 (fun i hi => (hD i hi).2)
  have hit := fol_hit k k2 (fun i hi => (hD i hi).2)
  have hP : (stX S (senseV X sun) A To).P = tgD X (stX S (senseV X sun) A To).D := fol_P k.b k.w sun _ fun i hi => (hD i hi).1
  rw [← e2] at kn own hit
  refine ⟨kn, ?_, ?_⟩
  · have e : spdE (folB X (stC S (senseV X sun) To)).h (stX S (senseV X sun) A To).P = true := by rw [hP]; exact spd_of hit
    unfold arrB
    exact Bool.and_eq_true _ _ |>.mpr ⟨rfl, e⟩
  · rw [fl_Q]
    exact attG_congr own
theorem act_tick (what : Int) (X : BSt) (S Sn : SSt) (sun tq Cm : Nat → Int) (k : BI X) (act : Hid ((what = 0 ∧ Hid (∀ w sb, blk w sb (ssc S) 205 → Calls Try.prog 85 #[.pointer (some ⟨sb, 0, none⟩), .agg (sec (senseV X sun))] w fun e w' => e = .returned (.tuple #[.agg (qfn Cm), .int .i64 0]) ∧ Below w.heap.size (w.setRow sb (ssc Sn)) w')) ∨ (what = 1 ∧ Hid (∀ w sb, blk w sb (ssc S) 205 → Calls Try.prog 86 #[.pointer (some ⟨sb, 0, none⟩), .agg (sec (senseV X sun))] w fun e w' => e = .returned (.tuple #[.agg (qfn Cm), .int .i64 0]) ∧ Below w.heap.size (w.setRow sb (ssc Sn)) w')) ∨ (what = 2 ∧ Hid (∀ w sb, blk w sb (ssc S) 205 → Calls Try.prog 88 #[.pointer (some ⟨sb, 0, none⟩), .agg (sec (senseV X sun)), .agg (qfn tq)] w fun e w' => e = .returned (.tuple #[.agg (qfn Cm), .int .i64 0]) ∧ Below w.heap.size (w.setRow sb (ssc Sn)) w')))) :
    ∀ lo hi lb w, lop lo hi lb w (X, S, sun) → Calls Try.prog 31 #[.pointer (some ⟨lb, 0, none⟩), .int .i64 what, .agg (qfn tq)] w fun e w' => e = .returned (.tuple #[.agg (vfn (ownF X (folB X Cm).h)), .bool true]) ∧ lop lo hi lb w' (folB X Cm, Sn, sun) ∧ Save lo hi w w' := fun lo hi lb w ho => by
  have hS : SI (folB X Cm).h (folB X Cm).f := (k.tick Cm (fun _ => 0)).s
  have hS2 := hS
  rw [fl_f] at hS2
  obtain ⟨_, hm⟩ := momG_eq k.q k.v k.t hS2
  have hE : vsubE (qbackF X.Q X.T) (sumW (folB X Cm).h) = 0 := by
    have o1 : okV (qbackF X.Q X.T) = true := (okV_iff _).2 fun i hi => (vb_iff _).2 (by have a := (hm i hi).1; omega)
    have o2 : okV (sumW (folB X Cm).h) = true := (okV_iff _).2 fun i hi => (vb_iff _).2 (by have a := sumW_bd hS2 hi; omega)
    have o3 : okV (subF (qbackF X.Q X.T) (sumW (folB X Cm).h)) = true := (okV_iff _).2 fun i hi => (vb_iff _).2 (by
      have a := (hm i hi).1
      have b := sumW_bd hS2 hi
      show -1099511627776 ≤ qbackF X.Q X.T i - sumW (folB X Cm).h i ∧ qbackF X.Q X.T i - sumW (folB X Cm).h i ≤ 1099511627776
      omega)
    unfold vsubE resE
    rw [o1, o2, o3]; rfl
  exact tick_any what X S Sn sun tq Cm lo hi lb w ho k act hE hS
end Go.Proofs.Ytkmelddejdikgaa
namespace Go.Proofs.Ytkmelddejdikgaa
open Go.RowKit PM Dt
def LPt (i : Nat) (X : BSt) (S : SSt) (sun tq : Nat → Int) : Prop := (i ≤ 20 ∧ Pre i X S sun) ∨ ∃ m, i ≤ m + 20 ∧ FI X S ∧ arrB S (senseV X sun) = true ∧ PtI m X.Q tq S.D
theorem LPt.bs {i : Nat} {X : BSt} {S : SSt} {sun tq : Nat → Int} (h : LPt i X S sun tq) : BI X ∧ SSI S ∧ RI X SSt.zero := by
  rcases h with ⟨_, h⟩ | ⟨_, _, h, _⟩
  · exact ⟨h.k.b, h.k.s, h.k.b, ⟨fun i hi => z0 (N := 4194304) (by decide), fun i hi => z0 (N := 1073741824) (by decide)⟩, h.k.z, fun i hi => rfl⟩
  · exact ⟨h.b, h.s, h.ri⟩
theorem LPt.step {i : Nat} {X : BSt} {S : SSt} {sun tq : Nat → Int} (h : LPt i X S sun tq) (hs : senseOk (senseV X sun) = true) (hI : ∀ i, i < 4 → I64 (tq i)) (hv : validQ tq = true) :
    LPt (i + 1) (folB X (stC S (senseV X sun) (ptTo (betF X.Q tq)))) (stX S (senseV X sun) (fun _ => 0) (ptTo (betF X.Q tq))) sun tq := by
  have slew : ∀ m, i ≤ m + 20 → FI X S → arrB S (senseV X sun) = true → PtI m X.Q tq S.D → LPt (i + 1) (folB X (stC S (senseV X sun) (ptTo (betF X.Q tq)))) (stX S (senseV X sun) (fun _ => 0) (ptTo (betF X.Q tq))) sun tq := fun m hm k ha p => by
    obtain ⟨k2, a2, q2⟩ := fia_step (A := fun _ => 0) (To := ptTo (betF X.Q tq)) k ha z3 (ptTo_le _)
    refine .inr ⟨m + 1, by omega, k2, a2, ?_⟩
    have e : (stX S (senseV X sun) (fun _ => 0) (ptTo (betF X.Q tq))).D = ptD X.Q tq S.D := by
      show stD (arrB S (senseV X sun)) S (ptTo (betF X.Q tq)) = _
      rw [ha]; rfl
    have b := k2.b
    rw [e] at q2 ⊢
    rw [q2]
    refine p.step k.b.q k.b.v hI hv ?_ ?_
    · rw [← q2]; exact b.q
    · rw [← q2]; exact b.v
  rcases h with ⟨h20, h⟩ | ⟨m, hm, k, ha, p⟩
  · cases ha : arrB S (senseV X sun) with
    | false =>
      have : i < 20 := by
        apply Classical.byContradiction; intro hc
        rw [h.a (by omega)] at ha; cases ha
      exact .inl ⟨by omega, h.step hs ha z3 (ptTo_le _)⟩
    | true => exact slew 0 (by omega) (h.fi ha) ha (PtI.start h.k.d)
  · exact slew m hm k ha p
theorem LPt.fin {i : Nat} {X : BSt} {S : SSt} {sun tq : Nat → Int} (h : LPt i X S sun tq) (hi : 560 ≤ i) : normE (fun i => betF X.Q tq (i + 1)) = 0 ∧ normV (fun i => betF X.Q tq (i + 1)) ≤ 1024 := by
  rcases h with ⟨h, _⟩ | ⟨m, hm, _, _, p⟩
  · omega
  · exact p.fin (by omega)
theorem tickPt_any {i : Nat} {X : BSt} {S : SSt} {sun tq : Nat → Int} (h : LPt i X S sun tq) (h1 : ∀ i, i < 3 → -1073741824 ≤ sun i ∧ sun i ≤ 1073741824) (h2 : vv sun ≤ 1073741828 * 1073741828) (hI : ∀ i, i < 4 → I64 (tq i)) (hv : validQ tq = true) :
    ∃ X2 S2 v, LPt (i + 1) X2 S2 sun tq ∧ ∀ lo hi lb w, lop lo hi lb w (X, S, sun) → Calls Try.prog 31 #[.pointer (some ⟨lb, 0, none⟩), .int .i64 2, .agg (qfn tq)] w fun e w' => e = .returned (.tuple #[.agg (vfn v), .bool true]) ∧ lop lo hi lb w' (X2, S2, sun) ∧ Save lo hi w w' := by
  obtain ⟨kb, ks, kr⟩ := h.bs
  have hs := sense_ok kr h1 h2
  have hE : betE (senseV X sun).att tq = 0 := by
    unfold betE
    rw [if_pos (by rw [show validQ (senseV X sun).att = true from kb.v, hv]; rfl)]
  refine ⟨_, _, _, h.step hs hI hv, act_tick 2 X S _ sun tq _ kb ?_⟩
  exact .inr (.inr ⟨rfl, fun w sb g => (tpoint_ok S (senseV X sun) tq sb w g kb.q hI hs ks.d hE (bet_le kb.q hI) (fun i hi => by have := ptTo_le (betF (senseV X sun).att tq) i hi; omega)).mono fun e w' ⟨he, hb, h⟩ => ⟨he, h.toRow g hb⟩⟩)
end Go.Proofs.Ytkmelddejdikgaa
namespace Go.Proofs.Ytkmelddejdikgaa
open Go.RowKit PM Dt
theorem RI.made {X : BSt} (hQ : ∀ i, i < 4 → I64 (X.Q i)) (h : newOk X = true) : RI X SSt.zero := by
  have k := newOk_BI hQ h
  simp only [newOk, Bool.and_eq_true] at h
  exact ⟨k, ⟨fun i hi => z0 (N := 4194304) (by decide), fun i hi => z0 (N := 1073741824) (by decide)⟩, (newB_SI h.1).2, fun i hi => rfl⟩
set_option maxRecDepth 100000 in
set_option maxHeartbeats 4000000 in
theorem made26_no (x : BSt) (sun : Nat → Int) (w : World) (hQ : ∀ i, i < 4 → I64 (x.Q i)) (hk : newOk x = false) : Calls Try.prog 29 #[.agg (rbc x), .agg (vfn sun)] w fun e w' => e = .returned (.tuple #[.pointer none, .bool false]) ∧ Below w.heap.size w w' := by
  have NB := Lib.hid (fun w => bnew_no x w hQ hk)
  clear hQ hk
  go_enter Try.func29, Try.ntmps29
  go_upto_region 1 with (fail)
  have v : blk ((w.alloc (.cells (rbc x) 76)).alloc (.cells (vfn sun) 31)) w.heap.size (rbc x) 76 := (blk.new _ _ _).alloc _
  have sn : blk ((w.alloc (.cells (rbc x) 76)).alloc (.cells (vfn sun) 31)) (w.heap.size + 1) (vfn sun) 31 := blk.new' (by simp)
  have hB : Below w.heap.size w ((w.alloc (.cells (rbc x) 76)).alloc (.cells (vfn sun) 31)) := by go_grown
  generalize ((w.alloc (.cells (rbc x) 76)).alloc (.cells (vfn sun) 31)) = w0 at *
  have lt_v := v.lt
  have lt_sn := sn.lt
  have hW0 : w.heap.size ≤ w0.heap.size := by simpa using hB.size
  apply wp_region_Q 14 [0, 1, 3, 7, 15, 31, 63, 127, 255, 511, 1023, 2047, 4095, 8191] [] [_, _, _, _, _, _, _, _, _, _, _, _, _, _] (fun p L w' => w0.heap.size ≤ w'.heap.size ∧ Below w.heap.size w w' ∧ blk w' w.heap.size (rbc x) 76 ∧ blk w' (w.heap.size + 1) (vfn sun) 31) _ [(0, 9), (1, 10), (2, 11), (3, 12), (4, 13), (5, 14), (6, 15), (7, 16), (8, 17), (9, 8), (10, 18), (11, 19), (12, 6), (13, 7)] [0, 1, 2, 3, 4, 5, 6, 7, 8, 9, 10, 11, 12, 13]
  case hn => rfl
  case hB => kernel_rfl
  case hds => kernel_rfl
  case hA => (intro p; simp only [putsD, Act.put, sIT, sCZ, sCS, gCZ, gCS]; exact rfl)
  case h0 => exact fun p => ⟨Nat.le_refl _, hB, v, sn⟩
  case hmore => exact fun p L w1 w2 ⟨hsz, hB, v, sn⟩ hm => ⟨Nat.le_trans hsz hm.size, hB.trans (hm.mono (Nat.le_trans hW0 hsz)), v.below hm v.lt, sn.below hm sn.lt⟩
  case hs =>
    intro more
    refine stepV _ rfl rfl (fun _ _ _ h => h) (by intros; go_simp; exact ⟨rfl, rfl⟩) ?_
    refine stepV 1 rfl rfl (fun _ _ _ h => h) ?_ ?_
    · rintro p L w1 ⟨hsz, hB, v, sn⟩ hk
      exact valR_part _ _ rfl _ 0 rfl _ _ v (qfn x.Q) (rb_q x) _ Try.underlying23 rfl (by rw [qfn_size]; kernel_rfl) rfl
    refine stepV _ rfl rfl (fun _ _ _ h => h) (by intros; go_simp; exact ⟨rfl, rfl⟩) ?_
    refine stepV 3 rfl rfl (fun _ _ _ h => h) ?_ ?_
    · rintro p L w1 ⟨hsz, hB, v, sn⟩ hk
      exact valR_part _ _ rfl _ 4 rfl _ _ v (vfn x.T) (rb_t x) _ Try.underlying31 rfl (by rw [vfn_size]; kernel_rfl) rfl
    refine stepV _ rfl rfl (fun _ _ _ h => h) (by intros; go_simp; exact ⟨rfl, rfl⟩) ?_
    refine stepV 5 rfl rfl (fun _ _ _ h => h) ?_ ?_
    · rintro p L w1 ⟨hsz, hB, v, sn⟩ hk
      exact valR_part _ _ rfl _ 7 rfl _ _ v (qfn x.h) (rb_h x) _ Try.underlying22 rfl (by rw [qfn_size]; kernel_rfl) rfl
    refine stepV _ rfl rfl (fun _ _ _ h => h) (by intros; go_simp; exact ⟨rfl, rfl⟩) ?_
    refine stepV 7 rfl rfl (fun _ _ _ h => h) ?_ ?_
    · rintro p L w1 ⟨hsz, hB, v, sn⟩ hk
      have hc : w1.cell? ⟨w.heap.size, 11, none⟩ = some (.int .i64 x.f) := v.cellIs rfl
      go_simp
      exact ⟨rfl, rfl⟩
    refine stepD 8 rfl (fun p => rfl) (fun _ _ _ h => h) more ?_ ?_
    · rintro p L w1 ⟨hsz, hB, v, sn⟩ hk
      go_simp
      refine (NB.out _).mono ?_
      rintro e w2 ⟨rfl, h2⟩
      first | exact ⟨rfl, h2⟩ | (subst h2; exact ⟨rfl, Below.refl _ _⟩)
    iterate 5 (refine stepV _ rfl rfl (fun _ _ _ h => h) (by intros; go_simp; exact ⟨rfl, rfl⟩) ?_)
    exact AllI.nil
  case hV0 => exact fun p q => AllI.nil
  case he =>
  clear hB v sn
  rintro p w0r ⟨hsz, hB, v, sn⟩
  clear lt_v lt_sn hsz hW0
  go_wp2_with (fail)
  go_ret2
  exact ⟨rfl, hB⟩
set_option maxRecDepth 100000 in
set_option maxHeartbeats 8000000 in
theorem made26_yes (x : BSt) (sun : Nat → Int) (w : World) (hQ : ∀ i, i < 4 → I64 (x.Q i)) (hk : newOk x = true) : Calls Try.prog 29 #[.agg (rbc x), .agg (vfn sun)] w fun e w' => ∃ lo hi b, e = .returned (.tuple #[.pointer (some ⟨b, 0, none⟩), .bool true]) ∧ w.heap.size ≤ lo ∧ lop lo hi b w' (x, SSt.zero, sun) ∧ Below w.heap.size w w' := by
  have NB := Lib.hid (fun w => bnew_yes x w hQ hk)
  have NW := Lib.hid (fun w => tnew_any w)
  clear hQ hk
  go_enter Try.func29, Try.ntmps29
  go_upto_region 1 with (fail)
  have v : blk ((w.alloc (.cells (rbc x) 76)).alloc (.cells (vfn sun) 31)) w.heap.size (rbc x) 76 := (blk.new _ _ _).alloc _
  have sn : blk ((w.alloc (.cells (rbc x) 76)).alloc (.cells (vfn sun) 31)) (w.heap.size + 1) (vfn sun) 31 := blk.new' (by simp)
  have hB : Below w.heap.size w ((w.alloc (.cells (rbc x) 76)).alloc (.cells (vfn sun) 31)) := by go_grown
  generalize ((w.alloc (.cells (rbc x) 76)).alloc (.cells (vfn sun) 31)) = w0 at *
  have cf : w0.cell? ⟨w.heap.size, 11, none⟩ = some (.int .i64 x.f) := v.cellIs rfl
  have hlo := hB.size
  go_upto_region 2 with (first | (refine wpList_load_part ?hw _ _ rfl _ 0 rfl _ _ v (qfn x.Q) (rb_q x) _ Try.underlying23 rfl ?hi ?_; (case hw => (first | rfl | (simp [Region.wanted, yielded]; done))); (case hi => (rw [qfn_size]; kernel_rfl))) | (refine wpList_load_part ?hw _ _ rfl _ 4 rfl _ _ v (vfn x.T) (rb_t x) _ Try.underlying31 rfl ?hi ?_; (case hw => (first | rfl | (simp [Region.wanted, yielded]; done))); (case hi => (rw [vfn_size]; kernel_rfl))) | (refine wpList_load_part ?hw _ _ rfl _ 7 rfl _ _ v (qfn x.h) (rb_h x) _ Try.underlying22 rfl ?hi ?_; (case hw => (first | rfl | (simp [Region.wanted, yielded]; done))); (case hi => (rw [qfn_size]; kernel_rfl))) | (go_at_call 83; with_reducible refine (NB.out _).mono ?_; rintro e w1 ⟨ob, rfl, o, hb⟩; replace hB := hB.trans (hb.mono hB.size); replace v := v.below hb v.lt; replace sn := sn.below hb sn.lt; clear hb))
  clear NB cf v
  go_upto_region 4 with (fail)
  have lt_sn := sn.lt
  have lt_o := o.lt
  have hW0 : w.heap.size ≤ w1.heap.size := by simpa using hB.size
  apply wp_region_I 7 [0, 0, 0, 7, 15, 31, 63] [1, 4] [_, (fun p => ((fun b => .pointer (some ⟨b, 0, none⟩))) (p 1)), _, _, (fun p => ((fun b => .pointer (some ⟨b, 0, none⟩))) (p 4)), _, _] (fun p L w' => w1.heap.size ≤ w'.heap.size ∧ Below w.heap.size w w' ∧ blk w' (w.heap.size + 1) (vfn sun) 31 ∧ bod w0.heap.size ob w' (x) ∧ (L 1 = true → w1.heap.size ≤ p 1 ∧ blk w' (p 1) (ssc SSt.zero) 205) ∧ (L 4 = true → w1.heap.size ≤ p 4 ∧ blk w' (p 4) (lpc (ob, p 1, sun)) 93) ∧ (L 1 = true → L 4 = true → p 1 ≠ p 4)) _ [(0, 22), (1, 23), (2, 24), (3, 25), (4, 26), (5, 4), (6, 5)] [0, 1, 2, 3, 4, 5, 6]
  case hn => rfl
  case hm => kernel_rfl
  case hB => kernel_rfl
  case hds => kernel_rfl
  case hA => (intro p; simp only [putsD, Act.put, sIT, sCZ, sCS, gCZ, gCS]; exact rfl)
  case h0 => exact fun p => ⟨Nat.le_refl _, hB.drew, sn.drew, o.drew, fun h => absurd h (by decide), fun h => absurd h (by decide), fun h => absurd h (by decide)⟩
  case hmore => exact fun p L w1 w2 ⟨hsz, hB, sn, o, h_st, h_l, hne_st_l⟩ hm => ⟨Nat.le_trans hsz hm.size, hB.trans (hm.mono (Nat.le_trans hW0 hsz)), sn.below hm sn.lt, o.below hm o.lt, fun hl => ⟨(h_st hl).1, (h_st hl).2.below hm (h_st hl).2.lt⟩, fun hl => ⟨(h_l hl).1, (h_l hl).2.below hm (h_l hl).2.lt⟩, hne_st_l⟩
  case hs =>
    intro more
    refine stepV _ rfl rfl (fun _ _ _ h => h) (by intros; go_simp; exact ⟨rfl, rfl⟩) ?_
    refine AllI.cons ?_ ?_
    · refine stepI_new 1 rfl (fun p => rfl) rfl ((fun b => .pointer (some ⟨b, 0, none⟩))) (ssc SSt.zero) 205 (fun p => rfl) ?_ ?_
      · rintro p L w1 ⟨hsz, hB, sn, o, h_st, h_l, hne_st_l⟩ hk
        go_simp
        refine (NW.out _).mono ?_
        rintro e w2 ⟨b, rfl, hb, hle, hm⟩
        exact ⟨_, rfl, b, rfl, hb, hle, hm⟩
      rintro p L w1 w2 b ⟨hsz, hB, sn, o, h_st, h_l, hne_st_l⟩ hk hb hle hm
      refine ⟨Nat.le_trans hsz hm.size, hB.trans (hm.mono (Nat.le_trans hW0 hsz)), sn.below hm sn.lt, o.below hm o.lt, fun _ => ⟨Nat.le_trans hsz hle, ?_⟩, fun hl => absurd hl (by rw [show upL L 1 4 = false from hk.2.2 4 rfl]; decide), fun _ hl => absurd hl (by rw [show upL L 1 4 = false from hk.2.2 4 rfl]; decide)⟩
      exact hb
    refine stepV 2 rfl rfl (fun _ _ _ h => h) ?_ ?_
    · rintro p L w1 ⟨hsz, hB, sn, o, h_st, h_l, hne_st_l⟩ hk
      first | exact valR_row _ _ rfl _ rfl _ _ sn _ Try.underlying31 rfl (by first | kernel_rfl | (rw [vfn_size]; kernel_rfl)) rfl | (have hc := sn.cellIs (vfn_get _ (show 0 < 3 by omega)); go_simp; exact ⟨rfl, rfl⟩)
    refine stepV 3 rfl rfl (fun _ _ _ h => h) ?_ ?_
    · intros; (try simp only [vfn, qfn]); go_simp; exact ⟨rfl, rfl⟩
    refine AllI.cons ?_ ?_
    · refine stepI_fresh 4 rfl (fun p => rfl) rfl ((fun b => .pointer (some ⟨b, 0, none⟩))) (fun p => (lpc (ob, p 1, sun))) 93 (fun p => rfl) ?_ ?_
      · intro p w1
        simp only [vfn, qfn]
        go_simp
        try rfl
      rintro p L w1 ⟨hsz, hB, sn, o, h_st, h_l, hne_st_l⟩ hk
      refine ⟨Nat.le_trans hsz (by simp), hB.alloc (Nat.le_trans (by first | exact hW0 | (have := hB.size; simp at this ⊢; omega)) hsz) _, sn.alloc _, o.alloc _, fun hl => ⟨(h_st hl).1, (h_st hl).2.alloc _⟩, fun _ => ⟨hsz, ?_⟩, fun hl _ => Nat.ne_of_lt (h_st hl).2.lt⟩
      exact blk.new _ _ _
    iterate 2 (refine stepV _ rfl rfl (fun _ _ _ h => h) (by intros; go_simp; exact ⟨rfl, rfl⟩) ?_)
    exact AllI.nil
  case hV0 =>
    intro p q
    refine AllI.cons ?_ ?_
    · skip
      iterate 7 (refine AllI.cons (by first | exact .inl rfl | (refine .inr ?_; simp only [gCZ, gCS]; done) | exact .inr rfl) ?_)
      exact AllI.nil
    refine AllI.cons ?_ ?_
    · skip
      iterate 7 (refine AllI.cons (by first | exact .inl rfl | (refine .inr ?_; simp only [gCZ, gCS]; done) | exact .inr rfl) ?_)
      exact AllI.nil
    exact AllI.nil
  case he =>
  clear hB sn o
  rintro p w1r ⟨hsz, hB, sn, o, h_st, h_l, hne_st_l⟩
  obtain ⟨le_st, st⟩ := h_st rfl
  clear h_st
  obtain ⟨le_l, l⟩ := h_l rfl
  clear h_l
  have ne_st_l : p 1 ≠ p 4 := hne_st_l rfl rfl
  clear hne_st_l
  replace st : blk w1r (p 1) (ssc SSt.zero) 205 := st
  replace l : blk w1r (p 4) (lpc (ob, p 1, sun)) 93 := l
  have ne_sn_st : (w.heap.size + 1) ≠ p 1 := Nat.ne_of_lt (Nat.lt_of_lt_of_le lt_sn le_st)
  have ne_o_st : ob ≠ p 1 := Nat.ne_of_lt (Nat.lt_of_lt_of_le lt_o le_st)
  have ge_st : w.heap.size ≤ p 1 := Nat.le_trans hW0 le_st
  have out_st : ob < p 1 := Nat.lt_of_lt_of_le lt_o le_st
  have ne_sn_l : (w.heap.size + 1) ≠ p 4 := Nat.ne_of_lt (Nat.lt_of_lt_of_le lt_sn le_l)
  have ne_o_l : ob ≠ p 4 := Nat.ne_of_lt (Nat.lt_of_lt_of_le lt_o le_l)
  have ge_l : w.heap.size ≤ p 4 := Nat.le_trans hW0 le_l
  have out_l : ob < p 4 := Nat.lt_of_lt_of_le lt_o le_l
  generalize p 1 = st_b at *
  generalize p 4 = l_b at *
  clear lt_sn lt_o hsz hW0
  go_wp2_with (fail)
  go_ret2
  have lt1 := st.lt
  have lt2 := l.lt
  exact ⟨_, _, _, rfl, hlo, ⟨ob, st_b, out_st, out_l, ne_st_l, Nat.le_sub_one_of_lt lt1, Nat.le_sub_one_of_lt lt2, by omega, o, st, l⟩, hB⟩
end Go.Proofs.Ytkmelddejdikgaa
namespace Go.Proofs.Ytkmelddejdikgaa
open Go.RowKit PM Dt
theorem sunx_le : ∀ i, i < 3 → -1073741824 ≤ of3 1073741824 0 0 i ∧ of3 1073741824 0 0 i ≤ 1073741824 := by decide
theorem sunx_vv : vv (of3 1073741824 0 0) ≤ 1073741828 * 1073741828 := by decide
set_option maxRecDepth 100000 in
set_option maxHeartbeats 4000000 in
theorem spts_a (x : BSt) (tq : Nat → Int) (w : World) (hQ : ∀ i, i < 4 → I64 (x.Q i)) (hI : ∀ i, i < 4 → I64 (tq i)) (hk : newOk x = false) : Calls Try.prog 9 #[.agg (rbc x), .agg (qfn tq)] w fun e w' => e = .returned (.bool true) ∧ Below w.heap.size w w' := by
  have MD := Lib.hid (fun w => made26_no x (of3 1073741824 0 0) w hQ hk)
  rw [← of3_cells] at MD
  clear hQ hk hI
  have AW := Lib.hid (fun w => awake26_any w)
  go_enter Try.func9, Try.ntmps9
  go_upto_region 1 with (fail)
  have v : blk ((w.alloc (.cells (rbc x) 76)).alloc (.cells (qfn tq) 23)) w.heap.size (rbc x) 76 := (blk.new _ _ _).alloc _
  have q : blk ((w.alloc (.cells (rbc x) 76)).alloc (.cells (qfn tq) 23)) (w.heap.size + 1) (qfn tq) 23 := blk.new' (by simp)
  have hB : Below w.heap.size w ((w.alloc (.cells (rbc x) 76)).alloc (.cells (qfn tq) 23)) := by go_grown
  generalize ((w.alloc (.cells (rbc x) 76)).alloc (.cells (qfn tq) 23)) = w0 at *
  have lt_v := v.lt
  have lt_q := q.lt
  have hW0 : w.heap.size ≤ w0.heap.size := by simpa using hB.size
  apply wp_region_Q 8 [0, 1, 3, 7, 15, 31, 63, 127] [] [_, _, _, _, _, _, _, _] (fun p L w' => w0.heap.size ≤ w'.heap.size ∧ Below w.heap.size w w' ∧ blk w' w.heap.size (rbc x) 76 ∧ blk w' (w.heap.size + 1) (qfn tq) 23) _ [(0, 15), (1, 16), (2, 17), (3, 14), (4, 18), (5, 19), (6, 5), (7, 6)] [0, 1, 2, 3, 4, 5, 6, 7]
  case hn => rfl
  case hB => kernel_rfl
  case hds => kernel_rfl
  case hA => (intro p; simp only [putsD, Act.put, sIT, sCZ, sCS, gCZ, gCS]; exact rfl)
  case h0 => exact fun p => ⟨Nat.le_refl _, hB, v, q⟩
  case hmore => exact fun p L w1 w2 ⟨hsz, hB, v, q⟩ hm => ⟨Nat.le_trans hsz hm.size, hB.trans (hm.mono (Nat.le_trans hW0 hsz)), v.below hm v.lt, q.below hm q.lt⟩
  case hs =>
    intro more
    refine stepV 0 rfl rfl (fun _ _ _ h => h) ?_ ?_
    · rintro p L w1 ⟨hsz, hB, v, q⟩ hk
      first | exact valR_row _ _ rfl _ rfl _ _ v _ Try.underlying76 rfl (by first | kernel_rfl | (rw [rbc_size]; kernel_rfl)) rfl | (have hc := v.cellIs (show _[0]? = some _ from rfl); go_simp; exact ⟨rfl, rfl⟩)
    refine stepV 1 rfl rfl (fun _ _ _ h => h) ?_ ?_
    · intros; (try simp only [vfn, qfn]); go_simp; exact ⟨rfl, rfl⟩
    refine stepD 2 rfl (fun p => rfl) (fun _ _ _ h => h) more ?_ ?_
    · rintro p L w1 ⟨hsz, hB, v, q⟩ hk
      go_simp
      refine (MD.out _).mono ?_
      rintro e w2 ⟨rfl, h2⟩
      first | exact ⟨rfl, h2⟩ | (subst h2; exact ⟨rfl, Below.refl _ _⟩)
    iterate 5 (refine stepV _ rfl rfl (fun _ _ _ h => h) (by intros; go_simp; exact ⟨rfl, rfl⟩) ?_)
    exact AllI.nil
  case hV0 => exact fun p q => AllI.nil
  case he =>
  clear hB v q
  rintro p w0r ⟨hsz, hB, v, q⟩
  clear lt_v lt_q hsz hW0
  go_wp2_with (first
    | (go_at_call 30; with_reducible refine (AW.out _).mono ?_; rintro e w9 ⟨rfl, hb⟩; replace hB := hB.trans (hb.mono hB.size); replace v := v.below hb v.lt; replace q := q.below hb q.lt; clear hb))
  go_ret
  exact ⟨rfl, hB⟩
set_option maxRecDepth 100000 in
set_option maxHeartbeats 8000000 in
theorem spts_b (x : BSt) (tq : Nat → Int) (w : World) (hQ : ∀ i, i < 4 → I64 (x.Q i)) (hI : ∀ i, i < 4 → I64 (tq i)) (hk : newOk x = true) (hv : validQ tq = false) : Calls Try.prog 9 #[.agg (rbc x), .agg (qfn tq)] w fun e w' => e = .returned (.bool true) ∧ Below w.heap.size w w' := by
  have MD := Lib.hid (fun w => made26_yes x (of3 1073741824 0 0) w hQ hk)
  rw [← of3_cells] at MD
  have VA := Lib.hid (fun w => qvalid_any tq w hI)
  rw [hv] at VA
  clear hQ hk hI hv
  have AW := Lib.hid (fun w => awake26_any w)
  go_enter Try.func9, Try.ntmps9
  go_upto_region 1 with (fail)
  have v : blk ((w.alloc (.cells (rbc x) 76)).alloc (.cells (qfn tq) 23)) w.heap.size (rbc x) 76 := (blk.new _ _ _).alloc _
  have q : blk ((w.alloc (.cells (rbc x) 76)).alloc (.cells (qfn tq) 23)) (w.heap.size + 1) (qfn tq) 23 := blk.new' (by simp)
  have hB : Below w.heap.size w ((w.alloc (.cells (rbc x) 76)).alloc (.cells (qfn tq) 23)) := by go_grown
  generalize ((w.alloc (.cells (rbc x) 76)).alloc (.cells (qfn tq) 23)) = w0 at *
  go_upto_region 2 with (first | (refine wpList_load_rowG ?hw _ _ rfl _ rfl _ _ _ _ v Try.underlying76 rfl ?hi ?_; (case hw => (first | rfl | (simp [Region.wanted, yielded]; done))); (case hi => (first | kernel_rfl | (rw [rbc_size]; kernel_rfl)))) | (go_at_call 29; with_reducible refine (MD.out _).mono ?_; rintro e w1 ⟨lo, hi, lb, rfl, hle, l, hb⟩; replace hB := hB.trans (hb.mono hB.size); replace v := v.below hb v.lt; replace q := q.below hb q.lt; clear hb))
  clear MD hle v
  go_wp2_with (first
    | (refine wpList_load_rowG ?hw _ _ rfl _ rfl _ _ _ _ q Try.underlying23 rfl ?hi ?_; (case hw => (first | rfl | (simp [Region.wanted, yielded]; done))); (case hi => (first | kernel_rfl | (rw [qfn_size]; kernel_rfl))))
    | (go_at_call 33; with_reducible refine (VA.out _).mono ?_; rintro e w2 ⟨rfl, hb⟩; replace hB := hB.trans (hb.mono hB.size); replace q := q.below hb q.lt; clear hb)
    | (go_at_call 30; with_reducible refine (AW.out _).mono ?_; rintro e w9 ⟨rfl, hb⟩; replace hB := hB.trans (hb.mono hB.size); replace q := q.below hb q.lt; clear hb))
  go_ret
  exact ⟨rfl, hB⟩
set_option maxRecDepth 100000 in
set_option maxHeartbeats 20000000 in
theorem spts_ok (x : BSt) (tq : Nat → Int) (w : World) (hQ : ∀ i, i < 4 → I64 (x.Q i)) (hI : ∀ i, i < 4 → I64 (tq i)) (hk : newOk x = true) (hv : validQ tq = true) : Calls Try.prog 9 #[.agg (rbc x), .agg (qfn tq)] w fun e w' => e = .returned (.bool true) ∧ Below w.heap.size w w' := by
  have MD := Lib.hid (fun w => made26_yes x (of3 1073741824 0 0) w hQ hk)
  rw [← of3_cells] at MD
  have VA := Lib.hid (fun w => qvalid_any tq w hI)
  rw [hv] at VA
  have k0 : LPt 0 x SSt.zero (of3 1073741824 0 0) tq := .inl ⟨by omega, Pre.start (RI.made hQ hk)⟩
  have TK := Lib.hid (fun i X S (h : LPt i X S (of3 1073741824 0 0) tq) => tickPt_any h sunx_le sunx_vv hI hv)
  have BE := Lib.hid (fun w (Q : Nat → Int) (h : ∀ i, i < 4 → I64 (Q i)) (h2 : validQ Q = true) => between_any Q tq w h hI)
  have BZ := Lib.hid (fun (Q : Nat → Int) (h2 : validQ Q = true) => (show betE Q tq = 0 by
    unfold betE; rw [if_pos (by rw [h2, hv]; rfl)]))
  clear hQ hk hI hv
  have AW := Lib.hid (fun w => awake26_any w)
  go_enter Try.func9, Try.ntmps9
  go_upto_region 1 with (fail)
  have v : blk ((w.alloc (.cells (rbc x) 76)).alloc (.cells (qfn tq) 23)) w.heap.size (rbc x) 76 := (blk.new _ _ _).alloc _
  have q : blk ((w.alloc (.cells (rbc x) 76)).alloc (.cells (qfn tq) 23)) (w.heap.size + 1) (qfn tq) 23 := blk.new' (by simp)
  have hB : Below w.heap.size w ((w.alloc (.cells (rbc x) 76)).alloc (.cells (qfn tq) 23)) := by go_grown
  generalize ((w.alloc (.cells (rbc x) 76)).alloc (.cells (qfn tq) 23)) = w0 at *
  have hlo := hB.size
  have oq := q.lt
  go_upto_region 2 with (first | (refine wpList_load_rowG ?hw _ _ rfl _ rfl _ _ _ _ v Try.underlying76 rfl ?hi ?_; (case hw => (first | rfl | (simp [Region.wanted, yielded]; done))); (case hi => (first | kernel_rfl | (rw [rbc_size]; kernel_rfl)))) | (go_at_call 29; with_reducible refine (MD.out _).mono ?_; rintro e w1 ⟨lo, hi, lb, rfl, hle, l, hb⟩; replace hB := hB.trans (hb.mono hB.size); replace v := v.below hb v.lt; replace q := q.below hb q.lt; clear hb))
  replace hlo : w.heap.size ≤ lo := Nat.le_trans hlo hle
  have out_q := Nat.lt_of_lt_of_le oq hle
  clear MD hle v oq
  go_upto_region 4 with (first
    | (refine wpList_load_rowG ?hw _ _ rfl _ rfl _ _ _ _ q Try.underlying23 rfl ?hi ?_; (case hw => (first | rfl | (simp [Region.wanted, yielded]; done))); (case hi => (first | kernel_rfl | (rw [qfn_size]; kernel_rfl))))
    | (go_at_call 33; with_reducible refine (VA.out _).mono ?_; rintro e w2 ⟨rfl, hb⟩; replace hB := hB.trans (hb.mono hB.size); replace q := q.below hb q.lt; replace l := l.below hb l.lt; clear hb))
  generalize (w.heap.size + 1) = q_b at *
  clear VA
  go_wp2_with (fail)
  go_loopg [7] 600 (fun g_ iv wr => ∃ (k : Nat) (X : BSt) (S : SSt), g_ + k = 600 ∧ iv = .int .i64 k ∧ LPt k X S (of3 1073741824 0 0) tq ∧ lop lo hi lb wr (X, S, of3 1073741824 0 0) ∧ blk wr q_b (qfn tq) 23 ∧ Below w.heap.size w wr)
  case atStart => exact ⟨0, x, SSt.zero, rfl, rfl, k0, l, q, hB⟩
  case round =>
    clear l q hB k0
    obtain ⟨k, X, S, hk, rfl, kL, l, q, hB⟩ := hrel
    by_cases hkn : k < 600
    · have hdk : decide ((k : Int) < 600) = true := decide_eq_true (by omega)
      have hdk' : decide (k < 600) = true := decide_eq_true (by omega)
      have hw3 : IntKind.i64.wrap ((k : Int) + 1) = ((k + 1 : Nat) : Int) := by rw [IntKind.wrap_i64]; omega
      obtain ⟨X2, S2, v, kL2, TK2⟩ := TK.out k X S kL
      replace TK2 := Lib.hid TK2
      clear kL
      go_upto_region 10 with (first | (refine wpList_load_rowG ?hw _ _ rfl _ rfl _ _ _ _ q Try.underlying23 rfl ?hi ?_; (case hw => (first | rfl | (simp [Region.wanted, yielded]; done))); (case hi => (first | kernel_rfl | (rw [qfn_size]; kernel_rfl)))) | (go_at_call 31; with_reducible refine (TK2.out _ _ _ _ l).mono ?_; rintro e w5 ⟨rfl, l2, hS⟩; replace hB := hB.trans (hS.below hB.size hlo); replace q := q.save hS (.inl out_q); clear hS) | (rw [zero_vec]; refine wpList_store_row rfl _ _ _ rfl _ rfl _ rfl _ _ (blk.new _ _ _) (by first | kernel_rfl | (rw [vfn_size]; kernel_rfl)) (by first | rfl | simp only [vfn_size]) (by first | exact vfn_one _ | rfl) ?_))
      clear l TK2
      replace l := l2
      clear l2
      have c := (blk.new w5 (vfn fun _ => 0) 31).row (vfn v)
      replace hB := Below.setRow (hB.alloc hB.size (.cells (vfn fun _ => 0) 31)) (g := w5.heap.size) hB.size (vfn v)
      have hne : ∀ x, x < w5.heap.size → x ≠ w5.heap.size := fun x hx => Nat.ne_of_lt hx
      have out_c : hi < w5.heap.size := l.lt
      replace q := (q.alloc (.cells (vfn fun _ => 0) 31)).rowOther (hne _ q.lt) (vfn v)
      replace l := (l.alloc (.cells (vfn fun _ => 0) 31)).rowOther (.inr l.lt) (vfn v)
      clear hne
      generalize (w5.alloc (.cells (vfn fun _ => 0) 31)).setRow w5.heap.size (vfn v) = w5x at *
      generalize w5.heap.size = c_b at *
      clear c
      by_cases h9 : k < 559
      · have hd9 : decide ((k : Int) < 559) = true := decide_eq_true (by omega)
        have hd9' : decide (k < 559) = true := decide_eq_true h9
        go_wp2_with (fail)
        go_roundg (600 - (k + 1))
        case rel =>
          exact ⟨k + 1, X2, S2, by omega, rfl, kL2, l, q, hB⟩
        case measure => omega
      · have hd9 : decide ((k : Int) < 559) = false := decide_eq_false (by omega)
        have hd9' : decide (k < 559) = false := decide_eq_false h9
        obtain ⟨e1, e2⟩ := kL2.fin (by omega)
        obtain ⟨kb, _, _⟩ := kL2.bs
        have BE2 := Lib.hid (fun w => BE.out w X2.Q kb.q kb.v)
        rw [BZ.out X2.Q kb.v] at BE2
        have NO : Hid (∀ w, Calls Try.prog 36 #[.agg #[.int .i64 (betF X2.Q tq 1), .int .i64 (betF X2.Q tq 2), .int .i64 (betF X2.Q tq 3)]] w fun e w' => e = .returned (.tuple #[.int .i64 (normV fun i => betF X2.Q tq (i + 1)), .int .i64 0]) ∧ Below w.heap.size w w') := Lib.hid (fun w => by
          have h := vnorm_any (fun i => betF X2.Q tq (i + 1)) w
          rw [e1] at h
          have e : vfn (fun i => betF X2.Q tq (i + 1)) = #[.int .i64 (betF X2.Q tq 1), .int .i64 (betF X2.Q tq 2), .int .i64 (betF X2.Q tq 3)] := by unfold vfn; rfl
          rw [e] at h
          exact h)
        clear e1 kb
        replace kL2 := Lib.hid kL2
        generalize (normV fun i => betF X2.Q tq (i + 1)) = nv at *
        have hdn : decide ((1024 : Int) < nv) = false := decide_eq_false (by omega)
        generalize betF X2.Q tq = LF at *
        obtain ⟨ob, sb, l1, l2, l3, l4, l5, l6, o, st, g⟩ := l
        clear e2
        have AT := Lib.hid (fun w lo b (h : bod lo b w X2) => battitude_any X2 lo b w h)
        go_upto_region 11 with (fail)
        have lt_q := q.lt
        have lt_o := o.lt
        have lt_st := st.lt
        have lt_g := g.lt
        have hW0 : w.heap.size ≤ w5x.heap.size := by simpa using hB.size
        apply wp_region_I 13 [0, 1, 3, 7, 15, 0, 63, 127, 255, 255, 0, 1535, 4095] [10] [_, _, _, _, _, _, _, _, _, _, (fun p => .pointer (some ⟨p 10, 0, none⟩)), (fun _ => undef), _] (fun p L w' => w5x.heap.size ≤ w'.heap.size ∧ Below w.heap.size w w' ∧ blk w' q_b (qfn tq) 23 ∧ bod lo ob w' (X2) ∧ blk w' sb (ssc S2) 205 ∧ blk w' lb (lpc (ob, sb, of3 1073741824 0 0)) 93 ∧ (L 10 = true → w5x.heap.size ≤ p 10 ∧ blk w' (p 10) (bif L 11 then (qfn LF) else (qfn fun _ => 0)) 23)) _ [(0, 43), (1, 44), (2, 45), (3, 46), (4, 47), (5, 48), (6, 49), (7, 42), (8, 50), (9, 51), (10, 10), (12, 11)] [0, 1, 2, 3, 4, 5, 6, 7, 8, 9, 10, 11, 12]
        case hn => rfl
        case hm => kernel_rfl
        case hB => kernel_rfl
        case hds => kernel_rfl
        case hA => (intro p; simp only [putsD, Act.put, sIT, sCZ, sCS, gCZ, gCS]; exact rfl)
        case h0 => exact fun p => ⟨Nat.le_refl _, hB.drew, q.drew, o.drew, st.drew, g.drew, fun h => absurd h (by decide)⟩
        case hmore => exact fun p L w1 w2 ⟨hsz, hB, q, o, st, g, h_lf⟩ hm => ⟨Nat.le_trans hsz hm.size, hB.trans (hm.mono (Nat.le_trans hW0 hsz)), q.below hm q.lt, o.below hm o.lt, st.below hm st.lt, g.below hm g.lt, fun hl => ⟨(h_lf hl).1, (h_lf hl).2.below hm (h_lf hl).2.lt⟩⟩
        case hs =>
          intro more
          iterate 3 (refine stepV _ rfl rfl (fun _ _ _ h => h) (by intros; go_simp; exact ⟨rfl, rfl⟩) ?_)
          refine stepV 3 rfl rfl (fun _ _ _ h => h) ?_ ?_
          · rintro p L w1 ⟨hsz, hB, q, o, st, g, h_lf⟩ hk
            have L11 : L 11 = false := hk.2.2 11 rfl
            have hc : w1.cell? ⟨lb, 0, none⟩ = some (.pointer (some ⟨ob, 0, none⟩)) := g.cellIs rfl
            go_simp
            exact ⟨rfl, rfl⟩
          refine stepD 4 rfl (fun p => rfl) (fun _ _ _ h => h) more ?_ ?_
          · rintro p L w1 ⟨hsz, hB, q, o, st, g, h_lf⟩ hk
            have L11 : L 11 = false := hk.2.2 11 rfl
            go_simp
            refine (AT.out _ _ _ o).mono ?_
            rintro e w2 ⟨rfl, h2⟩
            first | exact ⟨rfl, h2⟩ | (subst h2; exact ⟨rfl, Below.refl _ _⟩)
          refine stepV 5 rfl rfl (fun _ _ _ h => h) ?_ ?_
          · rintro p L w1 ⟨hsz, hB, q, o, st, g, h_lf⟩ hk
            have L11 : L 11 = false := hk.2.2 11 rfl
            first | exact valR_row _ _ rfl _ rfl _ _ q _ Try.underlying23 rfl (by first | kernel_rfl | (rw [qfn_size]; kernel_rfl)) rfl | (have hc := q.cellIs (qfn_get _ (show 0 < 4 by omega)); go_simp; exact ⟨rfl, rfl⟩)
          refine stepD 6 rfl (fun p => rfl) (fun _ _ _ h => h) more ?_ ?_
          · rintro p L w1 ⟨hsz, hB, q, o, st, g, h_lf⟩ hk
            go_simp
            refine (BE2.out _).mono ?_
            rintro e w2 ⟨rfl, h2⟩
            first | exact ⟨rfl, h2⟩ | (subst h2; exact ⟨rfl, Below.refl _ _⟩)
          iterate 3 (refine stepV _ rfl rfl (fun _ _ _ h => h) (by intros; go_simp; exact ⟨rfl, rfl⟩) ?_)
          refine AllI.cons ?_ ?_
          · refine stepI_alloc 10 rfl (fun p => rfl) rfl (qfn fun _ => 0) 23 (fun p => rfl) ?_ ?_
            · intro p w1
              go_simp
              first | done | rfl | rw [zero_quat]
            rintro p L w1 ⟨hsz, hB, q, o, st, g, h_lf⟩ hk
            have L11 : L 11 = false := hk.2.2 11 rfl
            refine ⟨Nat.le_trans hsz (by simp), hB.alloc (Nat.le_trans (by first | exact hW0 | (have := hB.size; simp at this ⊢; omega)) hsz) _, q.alloc _, o.alloc _, st.alloc _, g.alloc _, fun _ => ⟨hsz, ?_⟩⟩
            rw [show upL L 10 11 = false from L11]
            exact blk.new _ _ _
          refine AllI.cons ?_ ?_
          · refine stepI_store 11 rfl (fun p => rfl) (fun p => rfl) _ _ _ rfl (fun p => p 10) 0 (fun p => rfl) (fun p => (qfn LF)) (fun p => rfl) (fun p => (qfn fun _ => 0)) (fun p => (qfn LF)) 23 (fun p => over_qq _ _) (fun p => by first | (rw [qfn_size, qfn_size]; decide) | simp [qfn_size, qfn_size]) (fun p => by rw [qfn_size]; kernel_rfl) (fun p => qfn_one _) ?_ ?_
            · rintro p L w1 ⟨hsz, hB, q, o, st, g, h_lf⟩ hk
              have L11 : L 11 = false := hk.1
              have hh := (h_lf (hk.2.1 10 rfl)).2
              rw [L11] at hh
              try simp only [cond_true, cond_false] at hh
              exact hh
            · rintro p L w1 ⟨hsz, hB, q, o, st, g, h_lf⟩ hk
              have L11 : L 11 = false := hk.1
              skip
              have hp := h_lf (hk.2.1 10 rfl)
              refine ⟨(by simpa using hsz), Below.setRow hB (by first | exact Nat.le_trans hW0 hp.1 | exact ge_lf | omega | (have := hB.size; simp at this ⊢; omega)) _, q.rowOther (by first | exact Nat.ne_of_lt (Nat.lt_of_lt_of_le lt_q hp.1) | omega) _, o.rowOther (.inr (Nat.lt_of_lt_of_le lt_o hp.1)) _, st.rowOther (by first | exact Nat.ne_of_lt (Nat.lt_of_lt_of_le lt_st hp.1) | omega) _, g.rowOther (by first | exact Nat.ne_of_lt (Nat.lt_of_lt_of_le lt_g hp.1) | omega) _, fun _ => ⟨hp.1, ?_⟩⟩
              rw [show upL L 11 11 = true from rfl]
              exact hp.2.row _
          refine stepV _ rfl rfl (fun _ _ _ h => h) (by intros; go_simp; exact ⟨rfl, rfl⟩) ?_
          exact AllI.nil
        case hV0 =>
          intro p q
          refine AllI.cons ?_ ?_
          · skip
            iterate 13 (refine AllI.cons (by first | exact .inl rfl | (refine .inr ?_; simp only [gCZ, gCS]; done) | exact .inr rfl) ?_)
            exact AllI.nil
          exact AllI.nil
        case he =>
        clear hB q o st g
        rintro p w5xr ⟨hsz, hB, q, o, st, g, h_lf⟩
        obtain ⟨le_lf, lf⟩ := h_lf rfl
        clear h_lf
        replace lf : blk w5xr (p 10) (qfn LF) 23 := lf
        have ne_q_lf : q_b ≠ p 10 := Nat.ne_of_lt (Nat.lt_of_lt_of_le lt_q le_lf)
        have ne_o_lf : ob ≠ p 10 := Nat.ne_of_lt (Nat.lt_of_lt_of_le lt_o le_lf)
        have ne_st_lf : sb ≠ p 10 := Nat.ne_of_lt (Nat.lt_of_lt_of_le lt_st le_lf)
        have ne_g_lf : lb ≠ p 10 := Nat.ne_of_lt (Nat.lt_of_lt_of_le lt_g le_lf)
        have ge_lf : w.heap.size ≤ p 10 := Nat.le_trans hW0 le_lf
        have out_lf : ob < p 10 := Nat.lt_of_lt_of_le lt_o le_lf
        generalize p 10 = lf_b at *
        clear lt_q lt_o lt_st lt_g hsz hW0
        have l : lop lo hi lb w5xr (X2, S2, of3 1073741824 0 0) := ⟨ob, sb, l1, l2, l3, l4, l5, Nat.lt_of_lt_of_le (Nat.lt_of_lt_of_le l6 le_lf) (Nat.le_of_lt lf.lt), o, st, g⟩
        clear o st g AT BE2
        have c1 : w5xr.cell? ⟨lf_b, 1, none⟩ = some (.int .i64 (LF 1)) := lf.cellIs (qfn_get _ (by omega))
        have c2 : w5xr.cell? ⟨lf_b, 2, none⟩ = some (.int .i64 (LF 2)) := lf.cellIs (qfn_get _ (by omega))
        have c3 : w5xr.cell? ⟨lf_b, 3, none⟩ = some (.int .i64 (LF 3)) := lf.cellIs (qfn_get _ (by omega))
        go_wp2_with (first
          | (go_at_call 36; with_reducible refine (NO.out _).mono ?_; rintro e w7 ⟨rfl, hb⟩; replace hB := hB.trans (hb.mono hB.size); replace q := q.below hb q.lt; replace lf := lf.below hb lf.lt; replace l := l.below hb l.lt; clear hb))
        go_roundg (600 - (k + 1))
        case rel =>
          exact ⟨k + 1, X2, S2, by omega, rfl, kL2.out, l, q, hB⟩
        case measure => omega
    · obtain rfl : k = 600 := by omega
      go_wp2_with (first
        | (go_at_call 30; with_reducible refine (AW.out _).mono ?_; rintro e w9 ⟨rfl, hb⟩; replace hB := hB.trans (hb.mono hB.size); clear hb))
      go_ret
      exact ⟨rfl, hB⟩
theorem spts_any (x : BSt) (tq : Nat → Int) (w : World) (hQ : ∀ i, i < 4 → I64 (x.Q i)) (hI : ∀ i, i < 4 → I64 (tq i)) : Calls Try.prog 9 #[.agg (rbc x), .agg (qfn tq)] w fun e w' => e = .returned (.bool true) ∧ Below w.heap.size w w' := by
  cases hk : newOk x with
  | false => exact spts_a x tq w hQ hI hk
  | true =>
    cases hv : validQ tq with
    | false => exact spts_b x tq w hQ hI hk hv
    | true => exact spts_ok x tq w hQ hI hk hv
end Go.Proofs.Ytkmelddejdikgaa
