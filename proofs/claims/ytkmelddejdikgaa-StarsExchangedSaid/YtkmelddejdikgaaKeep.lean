/-
  Norms of quaternions: unit quaternions, products, turned attitudes. No program in sight. Rotations keep norms, and Back undoes Rotate: arithmetic. No program in sight.
-/
import Derived.Test.YtkmelddejdikgaaUnitR
import Derived.Test.YtkmelddejdikgaaQEq
import Derived.Test.YtkmelddejdikgaaVecG
import Derived.Test.YtkmelddejdikgaaLenM
import Derived.Test.YtkmelddejdikgaaLenN
import Derived.Test.YtkmelddejdikgaaLawQ
set_option linter.unusedSimpArgs false
set_option linter.unusedVariables false
namespace Go.Proofs.Ytkmelddejdikgaa
open Go.RowKit PM Dt
/-- The square of the norm. -/
def nn (f : Nat → Int) : Int := f 0 * f 0 + f 1 * f 1 + f 2 * f 2 + f 3 * f 3
theorem sqs4_i (f : Nat → Int) : ((sqs [f 0, f 1, f 2, f 3] : Nat) : Int) = nn f := by
  unfold nn
  rw [sqs4]
  have e0 := Int.natAbs_mul_self' (f 0)
  have e1 := Int.natAbs_mul_self' (f 1)
  have e2 := Int.natAbs_mul_self' (f 2)
  have e3 := Int.natAbs_mul_self' (f 3)
  simp only [Int.natCast_add, Int.natCast_mul]
  omega
theorem okQ_bd {f : Nat → Int} (h : okQ f = true) {i : Nat} (hi : i < 4) : -1099511627776 ≤ f i ∧ f i ≤ 1099511627776 := (vb_iff _).1 ((okQ_iff f).1 h i hi)
theorem nn_le {f : Nat → Int} (h : okQ f = true) : nn f ≤ 4835703278458516698824704 := by
  have q : ∀ i, i < 4 → f i * f i ≤ 1208925819614629174706176 := fun i hi => by
    have hh := okQ_bd h hi
    exact (bmul (P := 1099511627776) (R := 1099511627776) hh.1 hh.2 hh.1 hh.2).2
  have q0 := q 0 (by omega)
  have q1 := q 1 (by omega)
  have q2 := q 2 (by omega)
  have q3 := q 3 (by omega)
  unfold nn; omega
/-- The norm of a bounded quaternion, by its square. -/
theorem nQ_val {f : Nat → Int} (h : okQ f = true) : fitE (nQ f) = 0 ∧ ∃ N : Nat, fitV (nQ f) = N ∧ (N : Int) * N ≤ nn f ∧ nn f < ((N : Int) + 1) * ((N : Int) + 1) := by
  obtain ⟨h1, h2⟩ := nQ_ok h
  have hS : sqs [f 0, f 1, f 2, f 3] < 4 ^ 200 := by
    have a := sqs4_i f
    have b := nn_le h
    exact Nat.lt_of_le_of_lt (show sqs [f 0, f 1, f 2, f 3] ≤ 4835703278458516698824704 by omega) (by decide)
  obtain ⟨i1, i2⟩ := isqrt_spec hS
  refine ⟨h1, isqrt (sqs [f 0, f 1, f 2, f 3]), h2, ?_, ?_⟩
  · rw [← sqs4_i]; exact_mod_cast i1
  · rw [← sqs4_i]; exact_mod_cast i2
theorem nQ_in {f : Nat → Int} (h : okQ f = true) {a b : Int} (ha : 0 ≤ a) (hb : 0 ≤ b) (h1 : a * a ≤ nn f) (h2 : nn f < (b + 1) * (b + 1)) : fitE (nQ f) = 0 ∧ a ≤ fitV (nQ f) ∧ fitV (nQ f) ≤ b := by
  obtain ⟨hE, N, hN, n1, n2⟩ := nQ_val h
  refine ⟨hE, ?_, ?_⟩
  · rw [hN]
    have := sq_lt_iff (a := a) (b := (N : Int) + 1) ha (by omega) (by omega)
    omega
  · rw [hN]
    have := sq_lt_iff (a := (N : Int)) (b := b + 1) (by omega) (by omega) (by omega)
    omega
theorem valid_of {f : Nat → Int} (h : okQ f = true) (h1 : 1073741820 * 1073741820 ≤ nn f) (h2 : nn f < 1073741829 * 1073741829) : validQ f = true := by
  obtain ⟨hE, l, u⟩ := nQ_in h (a := 1073741820) (b := 1073741828) (by decide) (by decide) h1 h2
  unfold validQ
  rw [hE, decide_eq_true l, decide_eq_true u]; rfl
theorem near_bd4 {F N : Int} (hN : 0 < N) (h1 : -N - 1 ≤ F) (h2 : F ≤ N + 1) (hb : 4294967296 ≤ N) : -1073741825 ≤ nearest (F * 1073741824) N ∧ nearest (F * 1073741824) N ≤ 1073741825 := by
  obtain ⟨d, h, l, u⟩ := near_err (F * 1073741824) hN
  generalize nearest (F * 1073741824) N = x at *
  constructor
  · apply Classical.byContradiction; intro hc
    have : N * x ≤ N * (-1073741826) := Int.mul_le_mul_of_nonneg_left (by omega) (by omega)
    omega
  · apply Classical.byContradiction; intro hc
    have : N * 1073741826 ≤ N * x := Int.mul_le_mul_of_nonneg_left (by omega) (by omega)
    omega
/-- A unit quaternion: each component's error; its size. -/
theorem qun_core {f : Nat → Int} (hk : okQ f = true) (hz : zQ f = false) :
    qunE f = 0 ∧ okQ (qunF f) = true ∧ (∃ N P : Int, 35184372088832 ≤ N ∧ 0 < P ∧ N * N ≤ P * P * nn f ∧ P * P * nn f < (N + 1) * (N + 1) ∧ ∀ i, i < 4 → ∃ d, 2 * (N * qunF f i) = 2 * (1073741824 * (P * f i)) + d ∧ -N ≤ d ∧ d ≤ N) ∧
    1073741822 * 1073741822 ≤ nn (qunF f) ∧ nn (qunF f) < 1073741826 * 1073741826 := by
  have hu : qunF f = uX f := by unfold qunF; rw [hk, hz]; rfl
  have hE : qunE f = 0 := by unfold qunE; rw [hk, hz]; rfl
  rw [hu]
  have HL := zQ_no hz
  have HU := ok_upb hk
  have hF := shft_upb 45 f HU
  have hb := shft_done 45 4 f HL
  obtain ⟨P, hP0, hP⟩ : ∃ P : Int, 0 < P ∧ ∀ i, shft 4 45 f i = P * f i := by
    have : ∀ (k : Nat) (f : Nat → Int), ∃ P : Int, 0 < P ∧ ∀ i, shft 4 k f i = P * f i := by
      intro k
      induction k with
      | zero => exact fun f => ⟨1, by decide, fun i => (Int.one_mul _).symm⟩
      | succ k ih =>
        intro f
        unfold shft
        split
        · obtain ⟨P, h0, h⟩ := ih (dbl f)
          exact ⟨P * 2, by omega, fun i => by rw [h i, Int.mul_assoc]; rfl⟩
        · exact ⟨1, by decide, fun i => (Int.one_mul _).symm⟩
    exact this 45 f
  have hnn : nn (shft 4 45 f) = P * P * nn f := by
    unfold nn
    rw [hP 0, hP 1, hP 2, hP 3]; grind
  unfold uX uN
  clear hu HL HU hk hz
  generalize shft 4 45 f = F at *
  have hS := sqs4_i F
  have q : ∀ i, i < 4 → F i * F i ≤ 4951760157141521099596496896 := fun i hi => by
    have hh := hF i hi
    exact (bmul (P := 70368744177664) (R := 70368744177664) hh.1 hh.2 hh.1 hh.2).2
  have q0 := q 0 (by omega)
  have q1 := q 1 (by omega)
  have q2 := q 2 (by omega)
  have q3 := q 3 (by omega)
  have n0 := sq_nn (F 0)
  have n1 := sq_nn (F 1)
  have n2 := sq_nn (F 2)
  have n3 := sq_nn (F 3)
  obtain ⟨j, hj, hs⟩ : ∃ j, j < 4 ∧ sm (F j) = false := by
    apply Classical.byContradiction; intro hn
    have : sml 4 F = true := (sml_iff 4 F).2 fun i hi => by
      cases hx : sm (F i) with
      | true => rfl
      | false => exact absurd ⟨i, hi, hx⟩ hn
    rw [hb] at this; cases this
  have big : 1237940039285380274899124224 ≤ F j * F j := by
    have : ¬ (-35184372088832 < F j ∧ F j < 35184372088832) := fun hc => by rw [(sm_iff _).2 hc] at hs; cases hs
    by_cases h : 35184372088832 ≤ F j
    · exact Int.mul_le_mul h h (by omega) (by omega)
    · have h2 : 35184372088832 ≤ -F j := by omega
      have := Int.mul_le_mul h2 h2 (by omega) (by omega : (0 : Int) ≤ -F j)
      rw [Int.neg_mul_neg] at this
      exact this
  have hSl : 1237940039285380274899124224 ≤ nn F := by
    unfold nn
    have : j = 0 ∨ j = 1 ∨ j = 2 ∨ j = 3 := by omega
    rcases this with rfl | rfl | rfl | rfl <;> omega
  have hSu : nn F ≤ 19807040628566084398385987584 := by unfold nn; omega
  obtain ⟨S, hSS⟩ : ∃ S, sqs [F 0, F 1, F 2, F 3] = S := ⟨_, rfl⟩
  rw [hSS] at hS
  have h4 : S < 4 ^ 200 := Nat.lt_of_le_of_lt (show S ≤ 19807040628566084398385987584 by omega) (by decide)
  obtain ⟨N, hN⟩ : ∃ N, isqrt S = N := ⟨_, rfl⟩
  have hr : N < 140737488355329 := by rw [← hN]; exact (isqrt_lt h4).2 (by omega)
  have hl : 35184372088832 ≤ N := by rw [← hN]; exact (isqrt_ge h4).2 (by omega)
  have hu1 : S < (N + 1) * (N + 1) := (isqrt_lt h4).1 (by omega)
  have hu2 : N * N ≤ S := (isqrt_ge h4).1 (by omega)
  have hn3 : fitV (nQ F) = (N : Int) := by
    unfold nQ hypQ
    rw [hSS, hN]
    exact (fit_of (q := (N : Int)) (by omega) (by omega)).1
  rw [hn3]
  have hS1 : (N : Int) * N ≤ nn F := by rw [← hS]; exact_mod_cast hu2
  have hS2 : nn F < ((N : Int) + 1) * ((N : Int) + 1) := by rw [← hS]; exact_mod_cast hu1
  have hFN : ∀ i, i < 4 → -(N : Int) - 1 ≤ F i ∧ F i ≤ N + 1 := fun i hi => by
    have hle : F i * F i ≤ nn F := by
      unfold nn
      have : i = 0 ∨ i = 1 ∨ i = 2 ∨ i = 3 := by omega
      rcases this with rfl | rfl | rfl | rfl <;> omega
    have := sqv_lt (a := F i) (b := (N : Int) + 1) (by omega) (by omega)
    omega
  have hnb : ∀ i, i < 4 → -1073741825 ≤ nearest (F i * 1073741824) N ∧ nearest (F i * 1073741824) N ≤ 1073741825 := fun i hi => near_bd4 (by omega) (hFN i hi).1 (hFN i hi).2 (by omega)
  have hval : ∀ i, i < 4 → ratioV (F i) 1073741824 (N : Int) = nearest (F i * 1073741824) (N : Int) := fun i hi => by
    have := hnb i hi
    unfold ratioV ratioQ
    rw [if_neg (by omega), if_neg (by omega)]
    exact (fit_of (by omega) (by omega)).1
  have herr : ∀ i, i < 4 → ∃ d, 2 * ((N : Int) * ratioV (F i) 1073741824 (N : Int)) = 2 * (1073741824 * F i) + d ∧ -(N : Int) ≤ d ∧ d ≤ N := fun i hi => by
    rw [hval i hi]
    obtain ⟨d, h1, h2⟩ := near_err (F i * 1073741824) (b := (N : Int)) (by omega)
    exact ⟨d, by rw [h1, Int.mul_comm (F i)], h2⟩
  obtain ⟨d0, e0, b0⟩ := herr 0 (by omega)
  obtain ⟨d1, e1, b1⟩ := herr 1 (by omega)
  obtain ⟨d2, e2, b2⟩ := herr 2 (by omega)
  obtain ⟨d3, e3, b3⟩ := herr 3 (by omega)
  have hA := four_sum (a0 := (F 0).natAbs) (a1 := (F 1).natAbs) (a2 := (F 2).natAbs) (a3 := (F 3).natAbs) (N := (N : Int)) (by omega) (by omega) (by omega) (by omega) (by omega) (by rw [abs_sq, abs_sq, abs_sq, abs_sq]; exact hS2)
  have core := unit_core (a0 := (F 0).natAbs) (a1 := (F 1).natAbs) (a2 := (F 2).natAbs) (a3 := (F 3).natAbs) (c := 9) (N := (N : Int)) (by omega) hS1 hS2 e0 e1 e2 e3 b0 b1 b2 b3 (by omega) (by omega) (by omega) (by omega) hA
  refine ⟨hE, (okQ_iff _).2 fun i hi => (vb_iff _).2 ?_, ⟨N, P, by omega, hP0, by rw [← hnn]; exact hS1, by rw [← hnn]; exact hS2, fun i hi => by rw [← hP i]; exact herr i hi⟩, ?_, ?_⟩
  · have := hnb i hi
    rw [hval i hi]; omega
  · unfold nn
    generalize ratioV (F 0) 1073741824 (N : Int) * ratioV (F 0) 1073741824 (N : Int) = x0 at *
    generalize ratioV (F 1) 1073741824 (N : Int) * ratioV (F 1) 1073741824 (N : Int) = x1 at *
    generalize ratioV (F 2) 1073741824 (N : Int) * ratioV (F 2) 1073741824 (N : Int) = x2 at *
    generalize ratioV (F 3) 1073741824 (N : Int) * ratioV (F 3) 1073741824 (N : Int) = x3 at *
    have := core.1
    omega
  · unfold nn
    generalize ratioV (F 0) 1073741824 (N : Int) * ratioV (F 0) 1073741824 (N : Int) = x0 at *
    generalize ratioV (F 1) 1073741824 (N : Int) * ratioV (F 1) 1073741824 (N : Int) = x1 at *
    generalize ratioV (F 2) 1073741824 (N : Int) * ratioV (F 2) 1073741824 (N : Int) = x2 at *
    generalize ratioV (F 3) 1073741824 (N : Int) * ratioV (F 3) 1073741824 (N : Int) = x3 at *
    have := core.2
    omega
theorem d4_eq (f g : Nat → Int) : d4 f g = f 0 * g 0 + f 1 * g 1 + f 2 * g 2 + f 3 * g 3 := by
  unfold d4; rw [dotS_cons, dotS_cons, dotS_cons, dotS_cons, dotS_nil]; omega
/-- The exact components of a product. -/
def pe (f g : Nat → Int) : Nat → Int
  | 0 => f 0 * g 0 - f 1 * g 1 - f 2 * g 2 - f 3 * g 3
  | 1 => f 0 * g 1 + f 1 * g 0 + f 2 * g 3 - f 3 * g 2
  | 2 => f 0 * g 2 - f 1 * g 3 + f 2 * g 0 + f 3 * g 1
  | _ => f 0 * g 3 + f 1 * g 2 - f 2 * g 1 + f 3 * g 0
theorem pr_pe (f g : Nat → Int) {i : Nat} (hi : i < 4) : d4 (prL f i) (prM g i) = pe f g i := by
  rw [d4_eq]
  have : i = 0 ∨ i = 1 ∨ i = 2 ∨ i = 3 := by omega
  rcases this with rfl | rfl | rfl | rfl
  · show f 0 * g 0 + -f 1 * g 1 + -f 2 * g 2 + -f 3 * g 3 = f 0 * g 0 - f 1 * g 1 - f 2 * g 2 - f 3 * g 3
    grind
  · show f 0 * g 1 + f 1 * g 0 + f 2 * g 3 + -f 3 * g 2 = f 0 * g 1 + f 1 * g 0 + f 2 * g 3 - f 3 * g 2
    grind
  · show f 0 * g 2 + -f 1 * g 3 + f 2 * g 0 + f 3 * g 1 = f 0 * g 2 - f 1 * g 3 + f 2 * g 0 + f 3 * g 1
    grind
  · show f 0 * g 3 + f 1 * g 2 + -f 2 * g 1 + f 3 * g 0 = f 0 * g 3 + f 1 * g 2 - f 2 * g 1 + f 3 * g 0
    grind
/-- A product: each component's error. -/
theorem prod_err {f g : Nat → Int} (hf : okQ f = true) (hg : okQ g = true) {i : Nat} (hi : i < 4) : ∃ e, 1073741824 * qprodF f g i = pe f g i + e ∧ -536870912 ≤ e ∧ e ≤ 536870912 := by
  unfold qprodF
  rw [hf, hg]
  show ∃ e, 1073741824 * rnd (d4 (prL f i) (prM g i)) = _ ∧ _
  rw [pr_pe f g hi]
  exact rnd_err _
end Go.Proofs.Ytkmelddejdikgaa
namespace Go.Proofs.Ytkmelddejdikgaa
open Go.RowKit PM Dt
/-- The triangle, for three components. -/
theorem abs_le_of_sq {x p : Int} (hp : 0 ≤ p) (h : x * x ≤ p * p) : -p ≤ x ∧ x ≤ p := by
  have := sqv_lt (a := x) (b := p + 1) (by omega) (by
    have e : (p + 1) * (p + 1) = p * p + 2 * p + 1 := by grind
    omega)
  omega
theorem cauchy3 (x0 x1 x2 y0 y1 y2 : Int) : (x0 * y0 + x1 * y1 + x2 * y2) * (x0 * y0 + x1 * y1 + x2 * y2) ≤ (x0 * x0 + x1 * x1 + x2 * x2) * (y0 * y0 + y1 * y1 + y2 * y2) := by
  have h1 := sq_nn (x0 * y1 - x1 * y0)
  have h2 := sq_nn (x0 * y2 - x2 * y0)
  have h3 := sq_nn (x1 * y2 - x2 * y1)
  have e : (x0 * x0 + x1 * x1 + x2 * x2) * (y0 * y0 + y1 * y1 + y2 * y2) = (x0 * y0 + x1 * y1 + x2 * y2) * (x0 * y0 + x1 * y1 + x2 * y2) + ((x0 * y1 - x1 * y0) * (x0 * y1 - x1 * y0) + (x0 * y2 - x2 * y0) * (x0 * y2 - x2 * y0) + (x1 * y2 - x2 * y1) * (x1 * y2 - x2 * y1)) := by grind
  omega
theorem tri3 {x0 x1 x2 y0 y1 y2 X Y : Int} (hX : 0 ≤ X) (hY : 0 ≤ Y) (hx : x0 * x0 + x1 * x1 + x2 * x2 ≤ X * X) (hy : y0 * y0 + y1 * y1 + y2 * y2 ≤ Y * Y) :
    (x0 + y0) * (x0 + y0) + (x1 + y1) * (x1 + y1) + (x2 + y2) * (x2 + y2) ≤ (X + Y) * (X + Y) := by
  have hc := cauchy3 x0 x1 x2 y0 y1 y2
  have n0 := sq_nn x0
  have n1 := sq_nn x1
  have n2 := sq_nn x2
  have m0 := sq_nn y0
  have m1 := sq_nn y1
  have m2 := sq_nn y2
  have hp : (x0 * x0 + x1 * x1 + x2 * x2) * (y0 * y0 + y1 * y1 + y2 * y2) ≤ (X * X) * (Y * Y) := Int.mul_le_mul hx hy (by omega) (sq_nn X)
  have e : (X * X) * (Y * Y) = (X * Y) * (X * Y) := by grind
  have hd := (abs_le_of_sq (x := x0 * y0 + x1 * y1 + x2 * y2) (p := X * Y) (Int.mul_nonneg hX hY) (by omega)).2
  have e1 : (x0 + y0) * (x0 + y0) + (x1 + y1) * (x1 + y1) + (x2 + y2) * (x2 + y2) = (x0 * x0 + x1 * x1 + x2 * x2) + (y0 * y0 + y1 * y1 + y2 * y2) + 2 * (x0 * y0 + x1 * y1 + x2 * y2) := by grind
  have e2 : (X + Y) * (X + Y) = X * X + Y * Y + 2 * (X * Y) := by grind
  omega
/-- The square of a vector's norm. -/
def vv (f : Nat → Int) : Int := f 0 * f 0 + f 1 * f 1 + f 2 * f 2
/-- The exact product of a matrix and a vector. -/
def ap (E : Nat → Int) (v : Nat → Int) (i : Nat) : Int := E (3 * i) * v 0 + E (3 * i + 1) * v 1 + E (3 * i + 2) * v 2
def tr (E : Nat → Int) : Nat → Int := fun j => E (3 * (j % 3) + j / 3)
theorem qent_orth' (f v : Nat → Int) : vv (ap (tr (qent f)) v) = nn f * nn f * vv v := by
  unfold vv ap nn tr
  show (qent f 0 * v 0 + qent f 3 * v 1 + qent f 6 * v 2) * (qent f 0 * v 0 + qent f 3 * v 1 + qent f 6 * v 2) + (qent f 1 * v 0 + qent f 4 * v 1 + qent f 7 * v 2) * (qent f 1 * v 0 + qent f 4 * v 1 + qent f 7 * v 2) + (qent f 2 * v 0 + qent f 5 * v 1 + qent f 8 * v 2) * (qent f 2 * v 0 + qent f 5 * v 1 + qent f 8 * v 2) = _
  unfold qent
  grind
/-- The sum of the absolute values, by the norm's floor. -/
theorem abs_sum3 {a0 a1 a2 n : Int} (hn : 0 ≤ n) (n0 : 0 ≤ a0) (n1 : 0 ≤ a1) (n2 : 0 ≤ a2) (h : a0 * a0 + a1 * a1 + a2 * a2 < (n + 1) * (n + 1)) : 4 * (a0 + a1 + a2) ≤ 7 * (n + 1) := by
  have h3 := three_sq a0 a1 a2
  apply Classical.byContradiction; intro hc
  have h2 : (7 * (n + 1)) * (7 * (n + 1)) ≤ (4 * (a0 + a1 + a2)) * (4 * (a0 + a1 + a2)) := sq_mono (by omega) (by omega)
  have e1 : (4 * (a0 + a1 + a2)) * (4 * (a0 + a1 + a2)) = 16 * ((a0 + a1 + a2) * (a0 + a1 + a2)) := by grind
  have e2 : (7 * (n + 1)) * (7 * (n + 1)) = 49 * ((n + 1) * (n + 1)) := by grind
  have hP : 0 ≤ (n + 1) * (n + 1) := sq_nn _
  have : (n + 1) * (n + 1) = n * n + 2 * n + 1 := by grind
  have : 0 ≤ n * n := sq_nn n
  omega
/-- The error of a rounded matrix at a vector. -/
theorem row_err {E M : Nat → Int} {v : Nat → Int} {n x : Int} (hM : ∀ j, j < 9 → ∃ d, 1073741824 * M j = E j + d ∧ -536870912 ≤ d ∧ d ≤ 536870912) {i : Nat} (hi : i < 3)
    (hx : ∃ e, 1073741824 * x = ap M v i + e ∧ -536870912 ≤ e ∧ e ≤ 536870912) (hn : 0 ≤ n) (hv : vv v < (n + 1) * (n + 1)) :
    ∃ D, 1152921504606846976 * x = ap E v i + D ∧ -(939524096 * (n + 1) + 576460752303423488) ≤ D ∧ D ≤ 939524096 * (n + 1) + 576460752303423488 := by
  obtain ⟨d0, h0, l0, u0⟩ := hM (3 * i) (by omega)
  obtain ⟨d1, h1, l1, u1⟩ := hM (3 * i + 1) (by omega)
  obtain ⟨d2, h2, l2, u2⟩ := hM (3 * i + 2) (by omega)
  obtain ⟨e, he, le, ue⟩ := hx
  have hs := abs_sum3 (a0 := (v 0).natAbs) (a1 := (v 1).natAbs) (a2 := (v 2).natAbs) hn (by omega) (by omega) (by omega) (by rw [abs_sq, abs_sq, abs_sq]; exact hv)
  have b0 := bmul (P := 536870912) (R := (v 0).natAbs) l0 u0 (b := v 0) (by omega) (by omega)
  have b1 := bmul (P := 536870912) (R := (v 1).natAbs) l1 u1 (b := v 1) (by omega) (by omega)
  have b2 := bmul (P := 536870912) (R := (v 2).natAbs) l2 u2 (b := v 2) (by omega) (by omega)
  refine ⟨d0 * v 0 + d1 * v 1 + d2 * v 2 + 1073741824 * e, ?_, by omega, by omega⟩
  have k : 1152921504606846976 * x = 1073741824 * (1073741824 * x) := by omega
  rw [k, he]
  unfold ap
  have k0 : 1073741824 * (M (3 * i) * v 0) = E (3 * i) * v 0 + d0 * v 0 := by rw [← Int.mul_assoc, h0, Int.add_mul]
  have k1 : 1073741824 * (M (3 * i + 1) * v 1) = E (3 * i + 1) * v 1 + d1 * v 1 := by rw [← Int.mul_assoc, h1, Int.add_mul]
  have k2 : 1073741824 * (M (3 * i + 2) * v 2) = E (3 * i + 2) * v 2 + d2 * v 2 := by rw [← Int.mul_assoc, h2, Int.add_mul]
  omega
theorem sq3_bd {d0 d1 d2 B : Int} (h0 : -B ≤ d0 ∧ d0 ≤ B) (h1 : -B ≤ d1 ∧ d1 ≤ B) (h2 : -B ≤ d2 ∧ d2 ≤ B) : d0 * d0 + d1 * d1 + d2 * d2 ≤ 3 * (B * B) := by
  have b0 := (bmul h0.1 h0.2 h0.1 h0.2).2
  have b1 := (bmul h1.1 h1.2 h1.1 h1.2).2
  have b2 := (bmul h2.1 h2.2 h2.1 h2.2).2
  omega
/-- The bound of a whole error. -/
def Dm (n : Int) : Int := 1644167168 * (n + 1) + 1008806316530991104
theorem dm_sq {d0 d1 d2 n : Int} (hn : 0 ≤ n) (h0 : -(939524096 * (n + 1) + 576460752303423488) ≤ d0 ∧ d0 ≤ 939524096 * (n + 1) + 576460752303423488) (h1 : -(939524096 * (n + 1) + 576460752303423488) ≤ d1 ∧ d1 ≤ 939524096 * (n + 1) + 576460752303423488)
    (h2 : -(939524096 * (n + 1) + 576460752303423488) ≤ d2 ∧ d2 ≤ 939524096 * (n + 1) + 576460752303423488) : d0 * d0 + d1 * d1 + d2 * d2 ≤ Dm n * Dm n := by
  have h := sq3_bd h0 h1 h2
  have hD : 4 * Dm n = 7 * (939524096 * (n + 1) + 576460752303423488) := by unfold Dm; omega
  generalize hB : 939524096 * (n + 1) + 576460752303423488 = B at *
  have e : 16 * (Dm n * Dm n) = 49 * (B * B) := by
    have : 16 * (Dm n * Dm n) = (4 * Dm n) * (4 * Dm n) := by grind
    rw [this, hD]; grind
  have := sq_nn B
  omega
/-- Norms under a rounded rotation. -/
theorem keep_norm {F v x D : Nat → Int} {Q n m : Int} (hn : 0 ≤ n) (hm : 0 ≤ m) (hv1 : n * n ≤ vv v) (hv2 : vv v < (n + 1) * (n + 1)) (hx1 : m * m ≤ vv x) (hx2 : vv x < (m + 1) * (m + 1))
    (hQ1 : 1073741822 * 1073741822 ≤ Q) (hQ2 : Q < 1073741826 * 1073741826) (hF : vv F = Q * Q * vv v)
    (hx : ∀ i, i < 3 → 1152921504606846976 * x i = F i + D i ∧ -(939524096 * (n + 1) + 576460752303423488) ≤ D i ∧ D i ≤ 939524096 * (n + 1) + 576460752303423488) :
    1152921504606846976 * m ≤ Q * (n + 1) + Dm n ∧ Q * n ≤ 1152921504606846976 * (m + 1) + Dm n := by
  obtain ⟨x0, l0, u0⟩ := hx 0 (by omega)
  obtain ⟨x1, l1, u1⟩ := hx 1 (by omega)
  obtain ⟨x2, l2, u2⟩ := hx 2 (by omega)
  have hD := dm_sq hn ⟨l0, u0⟩ ⟨l1, u1⟩ ⟨l2, u2⟩
  have hDn : 0 ≤ Dm n := by unfold Dm; omega
  have hQ0 : 0 ≤ Q := by omega
  have sx : (1152921504606846976 * x 0) * (1152921504606846976 * x 0) + (1152921504606846976 * x 1) * (1152921504606846976 * x 1) + (1152921504606846976 * x 2) * (1152921504606846976 * x 2) = 1152921504606846976 * 1152921504606846976 * vv x := by unfold vv; grind
  have sF : F 0 * F 0 + F 1 * F 1 + F 2 * F 2 = Q * Q * vv v := hF
  constructor
  · have t := tri3 (X := Q * (n + 1)) (Y := Dm n) (x0 := F 0) (x1 := F 1) (x2 := F 2) (y0 := D 0) (y1 := D 1) (y2 := D 2) (Int.mul_nonneg hQ0 (by omega)) hDn (by
      rw [sF]
      have := Int.mul_le_mul_of_nonneg_left (show vv v ≤ (n + 1) * (n + 1) by omega) (sq_nn Q)
      have e : Q * (n + 1) * (Q * (n + 1)) = Q * Q * ((n + 1) * (n + 1)) := by grind
      omega) hD
    rw [← x0, ← x1, ← x2, sx] at t
    have h2 : (1152921504606846976 * m) * (1152921504606846976 * m) ≤ (Q * (n + 1) + Dm n) * (Q * (n + 1) + Dm n) := by
      have e : (1152921504606846976 * m) * (1152921504606846976 * m) = 1152921504606846976 * 1152921504606846976 * (m * m) := by grind
      omega
    exact (abs_le_of_sq (Int.add_nonneg (Int.mul_nonneg hQ0 (by omega)) hDn) h2).2
  · have t := tri3 (X := 1152921504606846976 * (m + 1)) (Y := Dm n) (x0 := 1152921504606846976 * x 0) (x1 := 1152921504606846976 * x 1) (x2 := 1152921504606846976 * x 2) (y0 := -D 0) (y1 := -D 1) (y2 := -D 2) (by omega) hDn (by
      rw [sx]
      have e : 1152921504606846976 * (m + 1) * (1152921504606846976 * (m + 1)) = 1152921504606846976 * 1152921504606846976 * ((m + 1) * (m + 1)) := by grind
      omega) (by
      have e : -D 0 * -D 0 + -D 1 * -D 1 + -D 2 * -D 2 = D 0 * D 0 + D 1 * D 1 + D 2 * D 2 := by grind
      omega)
    have f0 : 1152921504606846976 * x 0 + -D 0 = F 0 := by omega
    have f1 : 1152921504606846976 * x 1 + -D 1 = F 1 := by omega
    have f2 : 1152921504606846976 * x 2 + -D 2 = F 2 := by omega
    rw [f0, f1, f2, sF] at t
    have h2 : (Q * n) * (Q * n) ≤ (1152921504606846976 * (m + 1) + Dm n) * (1152921504606846976 * (m + 1) + Dm n) := by
      have := Int.mul_le_mul_of_nonneg_left hv1 (sq_nn Q)
      have e : (Q * n) * (Q * n) = Q * Q * (n * n) := by grind
      omega
    exact (abs_le_of_sq (Int.add_nonneg (by omega) hDn) h2).2
/-- Within the bound of the document. -/
theorem keep_fin {Q n m : Int} (hn : 0 ≤ n) (hm : 0 ≤ m) (hQ1 : 1073741822 * 1073741822 ≤ Q) (hQ2 : Q < 1073741826 * 1073741826)
    (h1 : 1152921504606846976 * m ≤ Q * (n + 1) + Dm n) (h2 : Q * n ≤ 1152921504606846976 * (m + 1) + Dm n) : m ≤ n + (n / 67108864 + 2) ∧ n ≤ m + (n / 67108864 + 2) := by
  have k1 : Q * (n + 1) ≤ 1152921508901814275 * (n + 1) := Int.mul_le_mul_of_nonneg_right (by omega) (by omega)
  have k2 : 1152921500311879684 * n ≤ Q * n := Int.mul_le_mul_of_nonneg_right (by omega) hn
  unfold Dm at h1 h2
  generalize Q * (n + 1) = A at *
  generalize Q * n = B at *
  omega
end Go.Proofs.Ytkmelddejdikgaa
