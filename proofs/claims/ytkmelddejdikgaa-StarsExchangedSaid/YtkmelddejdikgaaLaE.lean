/-
  One squaring of a table, as the program reckons it: what it leaves.
-/
import Derived.Test.YtkmelddejdikgaaSkI
import Derived.Test.YtkmelddejdikgaaLaD
set_option linter.unusedSimpArgs false
set_option linter.unusedVariables false
namespace Go.Proofs.Ytkmelddejdikgaa.La
open Go.RowKit PM Dt
theorem sym_at {S : Nat → Int} (h : sym S) {i k : Nat} (hi : i < 4) (hk : k < 4) : S (i * 4 + k) = S (k * 4 + i) := by
  obtain ⟨h1, h2, h3, h4, h5, h6⟩ := h
  rcases (show i = 0 ∨ i = 1 ∨ i = 2 ∨ i = 3 by omega) with rfl | rfl | rfl | rfl <;> rcases (show k = 0 ∨ k = 1 ∨ k = 2 ∨ k = 3 by omega) with rfl | rfl | rfl | rfl <;> simp_all
theorem sym_of {S : Nat → Int} (h : ∀ i k, i < 4 → k < 4 → S (i * 4 + k) = S (k * 4 + i)) : sym S :=
  ⟨h 0 1 (by omega) (by omega), h 0 2 (by omega) (by omega), h 0 3 (by omega) (by omega), h 1 2 (by omega) (by omega), h 1 3 (by omega) (by omega), h 2 3 (by omega) (by omega)⟩
def rowq (S : Nat → Int) (i : Nat) : Int := S (i * 4) * S (i * 4) + S (i * 4 + 1) * S (i * 4 + 1) + S (i * 4 + 2) * S (i * 4 + 2) + S (i * 4 + 3) * S (i * 4 + 3)
theorem rowq_nn (S : Nat → Int) (i : Nat) : 0 ≤ rowq S i := by
  have a := sqn (S (i * 4)); have b := sqn (S (i * 4 + 1)); have c := sqn (S (i * 4 + 2)); have d := sqn (S (i * 4 + 3))
  unfold rowq; omega
theorem rowq_sum {S : Nat → Int} (h : sym S) : trq S = rowq S 0 + rowq S 1 + rowq S 2 + rowq S 3 := by
  rw [trq_eq h]; simp only [sm, rowq, Nat.zero_mul, Nat.zero_add, Nat.one_mul, Nat.reduceMul, Nat.reduceAdd]; omega
theorem rowq_le {S : Nat → Int} (h : sym S) {i : Nat} (hi : i < 4) : rowq S i ≤ trq S := by
  have a := rowq_nn S 0; have b := rowq_nn S 1; have c := rowq_nn S 2; have d := rowq_nn S 3
  rw [rowq_sum h]
  rcases (show i = 0 ∨ i = 1 ∨ i = 2 ∨ i = 3 by omega) with rfl | rfl | rfl | rfl <;> omega
theorem SQ_at {S : Nat → Int} (h : sym S) {i k : Nat} (hi : i < 4) (hk : k < 4) : SQ S (i * 4 + k) = S (i * 4) * S (k * 4) + S (i * 4 + 1) * S (k * 4 + 1) + S (i * 4 + 2) * S (k * 4 + 2) + S (i * 4 + 3) * S (k * 4 + 3) := by
  have e0 := sym_at h (i := 0) (k := k) (by omega) hk
  have e1 := sym_at h (i := 1) (k := k) (by omega) hk
  have e2 := sym_at h (i := 2) (k := k) (by omega) hk
  have e3 := sym_at h (i := 3) (k := k) (by omega) hk
  simp only [Nat.zero_mul, Nat.zero_add, Nat.one_mul, Nat.reduceMul, Nat.add_zero] at e0 e1 e2 e3
  unfold SQ
  rw [show (i * 4 + k) / 4 = i by omega, show (i * 4 + k) % 4 = k by omega, e0, e1, e2, e3]
theorem SQ_le {S : Nat → Int} (h : sym S) {i k : Nat} (hi : i < 4) (hk : k < 4) : -trq S ≤ SQ S (i * 4 + k) ∧ SQ S (i * 4 + k) ≤ trq S := by
  have a := rowq_le h hi
  have b := rowq_le h hk
  rw [SQ_at h hi hk]
  unfold rowq at a b
  generalize S (i * 4) = x0 at *; generalize S (i * 4 + 1) = x1 at *; generalize S (i * 4 + 2) = x2 at *; generalize S (i * 4 + 3) = x3 at *
  generalize S (k * 4) = y0 at *; generalize S (k * 4 + 1) = y1 at *; generalize S (k * 4 + 2) = y2 at *; generalize S (k * 4 + 3) = y3 at *
  have p : ∀ x y : Int, 2 * (x * y) ≤ x * x + y * y ∧ -(2 * (x * y)) ≤ x * x + y * y := fun x y => by
    have q1 := sqn (x - y)
    have q2 := sqn (x + y)
    have e1 : (x - y) * (x - y) = x * x - 2 * (x * y) + y * y := by grind
    have e2 : (x + y) * (x + y) = x * x + 2 * (x * y) + y * y := by grind
    omega
  have p0 := p x0 y0; have p1 := p x1 y1; have p2 := p x2 y2; have p3 := p x3 y3
  omega
theorem SQ_sym {S : Nat → Int} (h : sym S) : sym (SQ S) := sym_of fun i k hi hk => by
  rw [SQ_at h hi hk, SQ_at h hk hi]
  grind
theorem ij {j : Nat} (hj : j < 16) : ∃ i k, i < 4 ∧ k < 4 ∧ j = i * 4 + k := ⟨j / 4, j % 4, by omega, by omega, by omega⟩
theorem ent_bd {x y : Int} (hx : -2147483648 ≤ x ∧ x ≤ 2147483648) (hy : -2147483648 ≤ y ∧ y ≤ 2147483648) : -4611686018427387904 ≤ x * y ∧ x * y ≤ 4611686018427387904 := by
  have a1 := Int.mul_nonneg (show 0 ≤ 2147483648 - x by omega) (show 0 ≤ 2147483648 - y by omega)
  have a2 := Int.mul_nonneg (show 0 ≤ 2147483648 + x by omega) (show 0 ≤ 2147483648 + y by omega)
  have a3 := Int.mul_nonneg (show 0 ≤ 2147483648 + x by omega) (show 0 ≤ 2147483648 - y by omega)
  have a4 := Int.mul_nonneg (show 0 ≤ 2147483648 - x by omega) (show 0 ≤ 2147483648 + y by omega)
  have e1 : (2147483648 - x) * (2147483648 - y) = 4611686018427387904 - 2147483648 * x - 2147483648 * y + x * y := by grind
  have e2 : (2147483648 + x) * (2147483648 + y) = 4611686018427387904 + 2147483648 * x + 2147483648 * y + x * y := by grind
  have e3 : (2147483648 + x) * (2147483648 - y) = 4611686018427387904 + 2147483648 * x - 2147483648 * y - x * y := by grind
  have e4 : (2147483648 - x) * (2147483648 + y) = 4611686018427387904 - 2147483648 * x + 2147483648 * y - x * y := by grind
  rw [e1] at a1; rw [e2] at a2; rw [e3] at a3; rw [e4] at a4
  generalize x * y = t at *
  omega
def bnd (S : Nat → Int) : Prop := ∀ j, j < 16 → -2147483648 ≤ S j ∧ S j ≤ 2147483648
theorem prd_rnd {S : Nat → Int} (hb : bnd S) {j : Nat} (hj : j < 16) : prdF S j = rnd (SQ S j) := by
  have e : dotS [S (j / 4 * 4), S (j / 4 * 4 + 1), S (j / 4 * 4 + 2), S (j / 4 * 4 + 3)] [S (j % 4), S (4 + j % 4), S (8 + j % 4), S (12 + j % 4)] = SQ S j := by
    rw [dotS_cons, dotS_cons, dotS_cons, dotS_cons, dotS_nil]; unfold SQ; omega
  unfold prdF dotV
  rw [if_neg (by simp), e]
  have m0 := ent_bd (hb (j / 4 * 4) (by omega)) (hb (j % 4) (by omega))
  have m1 := ent_bd (hb (j / 4 * 4 + 1) (by omega)) (hb (4 + j % 4) (by omega))
  have m2 := ent_bd (hb (j / 4 * 4 + 2) (by omega)) (hb (8 + j % 4) (by omega))
  have m3 := ent_bd (hb (j / 4 * 4 + 3) (by omega)) (hb (12 + j % 4) (by omega))
  unfold fitV inI
  rw [if_pos]
  unfold SQ rnd
  simp only [Bool.and_eq_true, decide_eq_true_eq]
  omega
/-- One squaring, as it is reckoned. -/
theorem fixS {S : Nat → Int} (hb : bnd S) (sy : sym S) (ht : 144115188075855872 ≤ trq S) : ∃ s : Int, ∃ X : Nat → Int, 0 < s ∧ (∀ j, j < 16 → 2 * s * sqrF S j = 2 * SQ S j + X j) ∧ (∀ j, j < 16 → -(1073741824 + s) ≤ X j ∧ X j ≤ 1073741824 + s) ∧ 1073741824 * s ≤ trq S + 2147483648 ∧ bnd (sqrF S) ∧ sym (sqrF S) := by
  have hP : ∀ j, j < 16 → prdF S j = rnd (SQ S j) := fun j hj => prd_rnd hb hj
  have hPb : ∀ j, j < 16 → 1073741824 * prdF S j ≤ SQ S j + 536870912 ∧ SQ S j - 536870912 ≤ 1073741824 * prdF S j := fun j hj => by
    rw [hP j hj]; unfold rnd; omega
  have hle : ∀ j, j < 16 → -trq S ≤ SQ S j ∧ SQ S j ≤ trq S := fun j hj => by
    obtain ⟨i, k, hi, hk, rfl⟩ := ij hj
    exact SQ_le sy hi hk
  have htop : trq S ≤ 73786976294838206464 := by
    rw [trq_eq sy]
    refine Int.le_trans (sm_le (g := fun _ => 4611686018427387904) fun i hi => (ent_bd (hb i hi) (hb i hi)).2) ?_
    rw [sm_const]; omega
  have hsum : trcF (prdF S) = prdF S 0 + prdF S 5 + prdF S 10 + prdF S 15 := by
    have b0 := hPb 0 (by omega); have b1 := hPb 5 (by omega); have b2 := hPb 10 (by omega); have b3 := hPb 15 (by omega)
    have c0 := hle 0 (by omega); have c1 := hle 5 (by omega); have c2 := hle 10 (by omega); have c3 := hle 15 (by omega)
    unfold trcF wrap64
    omega
  have hs1 : trq S - 2147483648 ≤ 1073741824 * trcF (prdF S) ∧ 1073741824 * trcF (prdF S) ≤ trq S + 2147483648 := by
    rw [hsum]
    have b0 := hPb 0 (by omega); have b1 := hPb 5 (by omega); have b2 := hPb 10 (by omega); have b3 := hPb 15 (by omega)
    unfold trq
    omega
  generalize hσ : trcF (prdF S) = s at *
  have hs0 : 134217720 ≤ s := by omega
  have hq : ∀ j, j < 16 → sqrF S j = nearest (prdF S j * 1073741824) s ∧ 2 * s * sqrF S j - 2 * (prdF S j * 1073741824) ≤ s ∧ -s ≤ 2 * s * sqrF S j - 2 * (prdF S j * 1073741824) ∧ -2147483648 ≤ sqrF S j ∧ sqrF S j ≤ 2147483648 := fun j hj => by
    have hp := hPb j hj
    have hl := hle j hj
    have e0 : sqrF S j = fitV (nearest (prdF S j * 1073741824) s) := by
      show ratioV (prdF S j) 1073741824 (trcF (prdF S)) = _
      rw [hσ]; unfold ratioV ratioQ; rw [if_neg (by omega), if_neg (by omega)]
    have hpb : -(s + 2) ≤ prdF S j ∧ prdF S j ≤ s + 2 := by omega
    generalize prdF S j = P at *
    have n1 : 2 * s * nearest (P * 1073741824) s ≤ 2 * (P * 1073741824) + s := by unfold nearest; exact Int.mul_ediv_self_le (by omega)
    have n2 : 2 * (P * 1073741824) + s < 2 * s * nearest (P * 1073741824) s + 2 * s := by unfold nearest; exact Int.lt_mul_ediv_self_add (by omega)
    generalize nearest (P * 1073741824) s = q at *
    have q1 : q ≤ 2147483648 := by
      apply Int.not_lt.1; intro hc
      have : 2 * s * (2147483648 + 1) ≤ 2 * s * q := Int.mul_le_mul_of_nonneg_left (by omega) (by omega)
      omega
    have q2 : -2147483648 ≤ q := by
      apply Int.not_lt.1; intro hc
      have : 2 * s * q ≤ 2 * s * (-2147483648 - 1) := Int.mul_le_mul_of_nonneg_left (by omega) (by omega)
      omega
    have e1 : fitV q = q := by unfold fitV inI; rw [if_pos (by simp only [Bool.and_eq_true, decide_eq_true_eq]; omega)]
    rw [e0, e1]
    exact ⟨rfl, by omega, by omega, q2, q1⟩
  refine ⟨s, fun j => 2 * s * sqrF S j - 2 * SQ S j, by omega, fun j hj => by show _ = 2 * SQ S j + (2 * s * sqrF S j - 2 * SQ S j); omega, fun j hj => ?_, hs1.2, fun j hj => (hq j hj).2.2.2, sym_of fun i k hi hk => ?_⟩
  · have a := hq j hj
    have b := hPb j hj
    show -(1073741824 + s) ≤ 2 * s * sqrF S j - 2 * SQ S j ∧ 2 * s * sqrF S j - 2 * SQ S j ≤ 1073741824 + s
    omega
  · rw [(hq _ (by omega)).1, (hq _ (by omega)).1, hP _ (by omega), hP _ (by omega), sym_at (SQ_sym sy) hi hk]
/-- The lower bound of the sum of squares. -/
theorem trq_low {D L p b : Int} {S u : Nat → Int} (V : StV D L p b S u) (hL : 0 ≤ L) (hN : 0 < dt u u) : L * L ≤ trq S := by
  have e1 := Tn_F S u
  rw [← trq_eq V.sy] at e1
  have h0 : Tn S u 0 0 * Tn S u 0 0 ≤ sm 4 (fun a => sm 4 (fun b => Tn S u a b * Tn S u a b)) := by
    refine Int.le_trans (sm_one (f := fun b => Tn S u 0 b * Tn S u 0 b) (n := 4) (fun i _ => sqn _) (k := 0) (by omega)) ?_
    exact sm_one (f := fun a => sm 4 (fun b => Tn S u a b * Tn S u a b)) (n := 4) (fun i _ => sm_nn fun k _ => sqn _) (k := 0) (by omega)
  have l0 := V.l0
  generalize Tn S u 0 0 = l at *
  have a1 : (L * dt u u) * (L * dt u u) ≤ l * l := mulm (Int.mul_nonneg hL (by omega)) l0 (Int.mul_nonneg hL (by omega)) l0
  generalize dt u u = N at *
  apply le_cancel (Int.mul_pos hN hN)
  have e2 : N * N * (L * L) = L * N * (L * N) := by grind
  omega
end Go.Proofs.Ytkmelddejdikgaa.La
