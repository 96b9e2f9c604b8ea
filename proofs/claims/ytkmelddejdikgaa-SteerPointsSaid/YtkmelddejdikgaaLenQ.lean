/-
  Norms of quaternions: unit quaternions, products, turned attitudes. No program in sight.
-/
import Derived.Test.YtkmelddejdikgaaTurn
import Derived.Test.YtkmelddejdikgaaLenM
import Derived.Test.YtkmelddejdikgaaLenN
set_option linter.unusedSimpArgs false
set_option linter.unusedVariables false
namespace Go.Proofs.Ytkmelddejdikgaa
open Go.RowKit PM Dt
def nn (f : Nat → Int) : Int := f 0 * f 0 + f 1 * f 1 + f 2 * f 2 + f 3 * f 3
theorem sqs4_i (f : Nat → Int) : ((sqs [f 0, f 1, f 2, f 3] : Nat) : Int) = nn f := by
  unfold nn
  rw [sqs4]
  have e0 := Int.natAbs_mul_self' (f 0)
  have e1 := Int.natAbs_mul_self' (f 1)
  have e2 := Int.natAbs_mul_self' (f 2)
  have e3 := Int.natAbs_mul_self' (f 3)
  simp only [Int.natCast_add, Int.natCast_mul]
  omega
theorem nn_nonneg (f : Nat → Int) : 0 ≤ nn f := by
  have h0 := sq_nn (f 0)
  have h1 := sq_nn (f 1)
  have h2 := sq_nn (f 2)
  have h3 := sq_nn (f 3)
  unfold nn; omega
theorem okQ_bd {f : Nat → Int} (h : okQ f = true) {i : Nat} (hi : i < 4) : -1099511627776 ≤ f i ∧ f i ≤ 1099511627776 := (vb_iff _).1 ((okQ_iff f).1 h i hi)
theorem nn_le {f : Nat → Int} (h : okQ f = true) : nn f ≤ 4835703278458516698824704 := by
  have q : ∀ i, i < 4 → f i * f i ≤ 1208925819614629174706176 := fun i hi => by
    have hh := okQ_bd h hi
    exact (bmul (P := 1099511627776) (R := 1099511627776) hh.1 hh.2 hh.1 hh.2).2
  have q0 := q 0 (by omega)
  have q1 := q 1 (by omega)
  have q2 := q 2 (by omega)
  have q3 := q 3 (by omega)
  unfold nn; omega
theorem nQ_val {f : Nat → Int} (h : okQ f = true) : fitE (nQ f) = 0 ∧ ∃ N : Nat, fitV (nQ f) = N ∧ (N : Int) * N ≤ nn f ∧ nn f < ((N : Int) + 1) * ((N : Int) + 1) := by
  obtain ⟨h1, h2⟩ := nQ_ok h
  have hS : sqs [f 0, f 1, f 2, f 3] < 4 ^ 200 := by
    have a := sqs4_i f
    have b := nn_le h
    exact Nat.lt_of_le_of_lt (show sqs [f 0, f 1, f 2, f 3] ≤ 4835703278458516698824704 by omega) (by decide)
  obtain ⟨i1, i2⟩ := isqrt_spec hS
  refine ⟨h1, isqrt (sqs [f 0, f 1, f 2, f 3]), h2, ?_, ?_⟩
  · rw [← sqs4_i]; exact_mod_cast i1
  · rw [← sqs4_i]; exact_mod_cast i2
theorem nQ_in {f : Nat → Int} (h : okQ f = true) {a b : Int} (ha : 0 ≤ a) (hb : 0 ≤ b) (h1 : a * a ≤ nn f) (h2 : nn f < (b + 1) * (b + 1)) : fitE (nQ f) = 0 ∧ a ≤ fitV (nQ f) ∧ fitV (nQ f) ≤ b := by
  obtain ⟨hE, N, hN, n1, n2⟩ := nQ_val h
  refine ⟨hE, ?_, ?_⟩
  · rw [hN]
    have := sq_lt_iff (a := a) (b := (N : Int) + 1) ha (by omega) (by omega)
    omega
  · rw [hN]
    have := sq_lt_iff (a := (N : Int)) (b := b + 1) (by omega) (by omega) (by omega)
    omega
theorem valid_of {f : Nat → Int} (h : okQ f = true) (h1 : 1073741820 * 1073741820 ≤ nn f) (h2 : nn f < 1073741829 * 1073741829) : validQ f = true := by
  obtain ⟨hE, l, u⟩ := nQ_in h (a := 1073741820) (b := 1073741828) (by decide) (by decide) h1 h2
  unfold validQ
  rw [hE, decide_eq_true l, decide_eq_true u]; rfl
theorem valid_nn {f : Nat → Int} (hI : ∀ i, i < 4 → I64 (f i)) (h : validQ f = true) : okQ f = true ∧ 1073741820 * 1073741820 ≤ nn f ∧ nn f < 1073741829 * 1073741829 := by
  have hk := validQ_ok hI h
  obtain ⟨hE, N, hN, n1, n2⟩ := nQ_val hk
  unfold validQ at h
  rw [hE, hN] at h
  simp only [Bool.and_eq_true, decide_eq_true_eq] at h
  refine ⟨hk, ?_, ?_⟩
  · have := sq_mono (a := 1073741820) (b := (N : Int)) (by decide) h.2.1
    omega
  · have := sq_mono (a := (N : Int) + 1) (b := 1073741829) (by omega) (by omega)
    omega
theorem near_bd4 {F N : Int} (hN : 0 < N) (h1 : -N - 1 ≤ F) (h2 : F ≤ N + 1) (hb : 4294967296 ≤ N) : -1073741825 ≤ nearest (F * 1073741824) N ∧ nearest (F * 1073741824) N ≤ 1073741825 := by
  obtain ⟨d, h, l, u⟩ := near_err (F * 1073741824) hN
  generalize nearest (F * 1073741824) N = x at *
  constructor
  · apply Classical.byContradiction; intro hc
    have : N * x ≤ N * (-1073741826) := Int.mul_le_mul_of_nonneg_left (by omega) (by omega)
    omega
  · apply Classical.byContradiction; intro hc
    have : N * 1073741826 ≤ N * x := Int.mul_le_mul_of_nonneg_left (by omega) (by omega)
    omega
theorem qun_core {f : Nat → Int} (hk : okQ f = true) (hz : zQ f = false) :
    qunE f = 0 ∧ okQ (qunF f) = true ∧ (∃ N P : Int, 35184372088832 ≤ N ∧ 0 < P ∧ N * N ≤ P * P * nn f ∧ P * P * nn f < (N + 1) * (N + 1) ∧ ∀ i, i < 4 → ∃ d, 2 * (N * qunF f i) = 2 * (1073741824 * (P * f i)) + d ∧ -N ≤ d ∧ d ≤ N) ∧
    1073741822 * 1073741822 ≤ nn (qunF f) ∧ nn (qunF f) < 1073741826 * 1073741826 := by
  have hu : qunF f = uX f := by unfold qunF; rw [hk, hz]; rfl
  have hE : qunE f = 0 := by unfold qunE; rw [hk, hz]; rfl
  rw [hu]
  have HL := zQ_no hz
  have HU := ok_upb hk
  have hF := shft_upb 45 f HU
  have hb := shft_done 45 4 f HL
  obtain ⟨P, hP0, hP⟩ : ∃ P : Int, 0 < P ∧ ∀ i, shft 4 45 f i = P * f i := by
    have : ∀ (k : Nat) (f : Nat → Int), ∃ P : Int, 0 < P ∧ ∀ i, shft 4 k f i = P * f i := by
      intro k
      induction k with
      | zero => exact fun f => ⟨1, by decide, fun i => (Int.one_mul _).symm⟩
      | succ k ih =>
        intro f
        unfold shft
        split
        · obtain ⟨P, h0, h⟩ := ih (dbl f)
          exact ⟨P * 2, by omega, fun i => by rw [h i, Int.mul_assoc]; rfl⟩
        · exact ⟨1, by decide, fun i => (Int.one_mul _).symm⟩
    exact this 45 f
  have hnn : nn (shft 4 45 f) = P * P * nn f := by
    unfold nn
    rw [hP 0, hP 1, hP 2, hP 3]; grind
  unfold uX uN
  clear hu HL HU hk hz
  generalize shft 4 45 f = F at *
  have hS := sqs4_i F
  have q : ∀ i, i < 4 → F i * F i ≤ 4951760157141521099596496896 := fun i hi => by
    have hh := hF i hi
    exact (bmul (P := 70368744177664) (R := 70368744177664) hh.1 hh.2 hh.1 hh.2).2
  have q0 := q 0 (by omega)
  have q1 := q 1 (by omega)
  have q2 := q 2 (by omega)
  have q3 := q 3 (by omega)
  have n0 := sq_nn (F 0)
  have n1 := sq_nn (F 1)
  have n2 := sq_nn (F 2)
  have n3 := sq_nn (F 3)
  obtain ⟨j, hj, hs⟩ : ∃ j, j < 4 ∧ sm (F j) = false := by
    apply Classical.byContradiction; intro hn
    have : sml 4 F = true := (sml_iff 4 F).2 fun i hi => by
      cases hx : sm (F i) with
      | true => rfl
      | false => exact absurd ⟨i, hi, hx⟩ hn
    rw [hb] at this; cases this
  have big : 1237940039285380274899124224 ≤ F j * F j := by
    have : ¬ (-35184372088832 < F j ∧ F j < 35184372088832) := fun hc => by rw [(sm_iff _).2 hc] at hs; cases hs
    by_cases h : 35184372088832 ≤ F j
    · exact Int.mul_le_mul h h (by omega) (by omega)
    · have h2 : 35184372088832 ≤ -F j := by omega
      have := Int.mul_le_mul h2 h2 (by omega) (by omega : (0 : Int) ≤ -F j)
      rw [Int.neg_mul_neg] at this
      exact this
  have hSl : 1237940039285380274899124224 ≤ nn F := by
    unfold nn
    have : j = 0 ∨ j = 1 ∨ j = 2 ∨ j = 3 := by omega
    rcases this with rfl | rfl | rfl | rfl <;> omega
  have hSu : nn F ≤ 19807040628566084398385987584 := by unfold nn; omega
  obtain ⟨S, hSS⟩ : ∃ S, sqs [F 0, F 1, F 2, F 3] = S := ⟨_, rfl⟩
  rw [hSS] at hS
  have h4 : S < 4 ^ 200 := Nat.lt_of_le_of_lt (show S ≤ 19807040628566084398385987584 by omega) (by decide)
  obtain ⟨N, hN⟩ : ∃ N, isqrt S = N := ⟨_, rfl⟩
  have hr : N < 140737488355329 := by rw [← hN]; exact (isqrt_lt h4).2 (by omega)
  have hl : 35184372088832 ≤ N := by rw [← hN]; exact (isqrt_ge h4).2 (by omega)
  have hu1 : S < (N + 1) * (N + 1) := (isqrt_lt h4).1 (by omega)
  have hu2 : N * N ≤ S := (isqrt_ge h4).1 (by omega)
  have hn3 : fitV (nQ F) = (N : Int) := by
    unfold nQ hypQ
    rw [hSS, hN]
    exact (fit_of (q := (N : Int)) (by omega) (by omega)).1
  rw [hn3]
  have hS1 : (N : Int) * N ≤ nn F := by rw [← hS]; exact_mod_cast hu2
  have hS2 : nn F < ((N : Int) + 1) * ((N : Int) + 1) := by rw [← hS]; exact_mod_cast hu1
  have hFN : ∀ i, i < 4 → -(N : Int) - 1 ≤ F i ∧ F i ≤ N + 1 := fun i hi => by
    have hle : F i * F i ≤ nn F := by
      unfold nn
      have : i = 0 ∨ i = 1 ∨ i = 2 ∨ i = 3 := by omega
      rcases this with rfl | rfl | rfl | rfl <;> omega
    have := sqv_lt (a := F i) (b := (N : Int) + 1) (by omega) (by omega)
    omega
  have hnb : ∀ i, i < 4 → -1073741825 ≤ nearest (F i * 1073741824) N ∧ nearest (F i * 1073741824) N ≤ 1073741825 := fun i hi => near_bd4 (by omega) (hFN i hi).1 (hFN i hi).2 (by omega)
  have hval : ∀ i, i < 4 → ratioV (F i) 1073741824 (N : Int) = nearest (F i * 1073741824) (N : Int) := fun i hi => by
    have := hnb i hi
    unfold ratioV ratioQ
    rw [if_neg (by omega), if_neg (by omega)]
    exact (fit_of (by omega) (by omega)).1
  have herr : ∀ i, i < 4 → ∃ d, 2 * ((N : Int) * ratioV (F i) 1073741824 (N : Int)) = 2 * (1073741824 * F i) + d ∧ -(N : Int) ≤ d ∧ d ≤ N := fun i hi => by
    rw [hval i hi]
    obtain ⟨d, h1, h2⟩ := near_err (F i * 1073741824) (b := (N : Int)) (by omega)
    exact ⟨d, by rw [h1, Int.mul_comm (F i)], h2⟩
  obtain ⟨d0, e0, b0⟩ := herr 0 (by omega)
  obtain ⟨d1, e1, b1⟩ := herr 1 (by omega)
  obtain ⟨d2, e2, b2⟩ := herr 2 (by omega)
  obtain ⟨d3, e3, b3⟩ := herr 3 (by omega)
  have hA := four_sum (a0 := (F 0).natAbs) (a1 := (F 1).natAbs) (a2 := (F 2).natAbs) (a3 := (F 3).natAbs) (N := (N : Int)) (by omega) (by omega) (by omega) (by omega) (by omega) (by rw [abs_sq, abs_sq, abs_sq, abs_sq]; exact hS2)
  have core := unit_core (a0 := (F 0).natAbs) (a1 := (F 1).natAbs) (a2 := (F 2).natAbs) (a3 := (F 3).natAbs) (c := 9) (N := (N : Int)) (by omega) hS1 hS2 e0 e1 e2 e3 b0 b1 b2 b3 (by omega) (by omega) (by omega) (by omega) hA
  refine ⟨hE, (okQ_iff _).2 fun i hi => (vb_iff _).2 ?_, ⟨N, P, by omega, hP0, by rw [← hnn]; exact hS1, by rw [← hnn]; exact hS2, fun i hi => by rw [← hP i]; exact herr i hi⟩, ?_, ?_⟩
  · have := hnb i hi
    rw [hval i hi]; omega
  · unfold nn
    generalize ratioV (F 0) 1073741824 (N : Int) * ratioV (F 0) 1073741824 (N : Int) = x0 at *
    generalize ratioV (F 1) 1073741824 (N : Int) * ratioV (F 1) 1073741824 (N : Int) = x1 at *
    generalize ratioV (F 2) 1073741824 (N : Int) * ratioV (F 2) 1073741824 (N : Int) = x2 at *
    generalize ratioV (F 3) 1073741824 (N : Int) * ratioV (F 3) 1073741824 (N : Int) = x3 at *
    have := core.1
    omega
  · unfold nn
    generalize ratioV (F 0) 1073741824 (N : Int) * ratioV (F 0) 1073741824 (N : Int) = x0 at *
    generalize ratioV (F 1) 1073741824 (N : Int) * ratioV (F 1) 1073741824 (N : Int) = x1 at *
    generalize ratioV (F 2) 1073741824 (N : Int) * ratioV (F 2) 1073741824 (N : Int) = x2 at *
    generalize ratioV (F 3) 1073741824 (N : Int) * ratioV (F 3) 1073741824 (N : Int) = x3 at *
    have := core.2
    omega
theorem qun_valid {f : Nat → Int} (hk : okQ f = true) (hz : zQ f = false) : validQ (qunF f) = true ∧ fitE (nQ (qunF f)) = 0 ∧ 1073741822 ≤ fitV (nQ (qunF f)) ∧ fitV (nQ (qunF f)) ≤ 1073741825 := by
  obtain ⟨_, h1, _, h2, h3⟩ := qun_core hk hz
  exact ⟨valid_of h1 (by omega) (by omega), nQ_in h1 (by decide) (by decide) h2 (by omega)⟩
theorem d4_eq (f g : Nat → Int) : d4 f g = f 0 * g 0 + f 1 * g 1 + f 2 * g 2 + f 3 * g 3 := by
  unfold d4; rw [dotS_cons, dotS_cons, dotS_cons, dotS_cons, dotS_nil]; omega
def pe (f g : Nat → Int) : Nat → Int
  | 0 => f 0 * g 0 - f 1 * g 1 - f 2 * g 2 - f 3 * g 3
  | 1 => f 0 * g 1 + f 1 * g 0 + f 2 * g 3 - f 3 * g 2
  | 2 => f 0 * g 2 - f 1 * g 3 + f 2 * g 0 + f 3 * g 1
  | _ => f 0 * g 3 + f 1 * g 2 - f 2 * g 1 + f 3 * g 0
theorem pr_pe (f g : Nat → Int) {i : Nat} (hi : i < 4) : d4 (prL f i) (prM g i) = pe f g i := by
  rw [d4_eq]
  have : i = 0 ∨ i = 1 ∨ i = 2 ∨ i = 3 := by omega
  rcases this with rfl | rfl | rfl | rfl
  · show f 0 * g 0 + -f 1 * g 1 + -f 2 * g 2 + -f 3 * g 3 = f 0 * g 0 - f 1 * g 1 - f 2 * g 2 - f 3 * g 3
    grind
  · show f 0 * g 1 + f 1 * g 0 + f 2 * g 3 + -f 3 * g 2 = f 0 * g 1 + f 1 * g 0 + f 2 * g 3 - f 3 * g 2
    grind
  · show f 0 * g 2 + -f 1 * g 3 + f 2 * g 0 + f 3 * g 1 = f 0 * g 2 - f 1 * g 3 + f 2 * g 0 + f 3 * g 1
    grind
  · show f 0 * g 3 + f 1 * g 2 + -f 2 * g 1 + f 3 * g 0 = f 0 * g 3 + f 1 * g 2 - f 2 * g 1 + f 3 * g 0
    grind
theorem pe_nn (f g : Nat → Int) : nn (pe f g) = nn f * nn g := by
  unfold nn pe
  grind
theorem prod_err {f g : Nat → Int} (hf : okQ f = true) (hg : okQ g = true) {i : Nat} (hi : i < 4) : ∃ e, 1073741824 * qprodF f g i = pe f g i + e ∧ -536870912 ≤ e ∧ e ≤ 536870912 := by
  unfold qprodF
  rw [hf, hg]
  show ∃ e, 1073741824 * rnd (d4 (prL f i) (prM g i)) = _ ∧ _
  rw [pr_pe f g hi]
  exact rnd_err _
theorem rq_nn (g : Nat → Int) : nn (rq g) = 1152921504606846976 + g 0 * g 0 + g 1 * g 1 + g 2 * g 2 := rfl
theorem rq_ok {g : Nat → Int} (h : smallB g 1073741824 = true) : okQ (rq g) = true ∧ 1152921504606846976 ≤ nn (rq g) ∧ nn (rq g) ≤ 4611686018427387904 := by
  have b : ∀ i, i < 3 → -1073741824 ≤ g i ∧ g i ≤ 1073741824 := fun i hi => (sb_iff _ _).1 ((smallB_iff g _).1 h i hi)
  have b0 := b 0 (by omega)
  have b1 := b 1 (by omega)
  have b2 := b 2 (by omega)
  have s : ∀ i, i < 3 → g i * g i ≤ 1152921504606846976 := fun i hi => (bmul (P := 1073741824) (R := 1073741824) (b i hi).1 (b i hi).2 (b i hi).1 (b i hi).2).2
  have s0 := s 0 (by omega)
  have s1 := s 1 (by omega)
  have s2 := s 2 (by omega)
  have n0 := sq_nn (g 0)
  have n1 := sq_nn (g 1)
  have n2 := sq_nn (g 2)
  rw [rq_nn]
  refine ⟨(okQ_iff _).2 fun i hi => (vb_iff _).2 ?_, by omega, by omega⟩
  have : i = 0 ∨ i = 1 ∨ i = 2 ∨ i = 3 := by omega
  rcases this with rfl | rfl | rfl | rfl
  · show -1099511627776 ≤ (1073741824 : Int) ∧ (1073741824 : Int) ≤ 1099511627776
    omega
  · show -1099511627776 ≤ g 0 ∧ g 0 ≤ 1099511627776
    omega
  · show -1099511627776 ≤ g 1 ∧ g 1 ≤ 1099511627776
    omega
  · show -1099511627776 ≤ g 2 ∧ g 2 ≤ 1099511627776
    omega
theorem turn_prod {f g : Nat → Int} (hf : okQ f = true) (h1 : 1073741820 * 1073741820 ≤ nn f) (h2 : nn f < 1073741829 * 1073741829) (hg : smallB g 1073741824 = true) :
    okQ (qprodF f (rq g)) = true ∧ zQ (qprodF f (rq g)) = false ∧ ∀ i, i < 4 → -2147483669 ≤ qprodF f (rq g) i ∧ qprodF f (rq g) i ≤ 2147483669 := by
  obtain ⟨hr, r1, r2⟩ := rq_ok hg
  have hE := pe_nn f (rq g)
  have up : nn f * nn (rq g) ≤ 1152921515344265241 * 4611686018427387904 := Int.mul_le_mul (show nn f ≤ 1152921515344265241 by omega) r2 (nn_nonneg _) (by decide)
  have lo : 1152921496016912400 * 1152921504606846976 ≤ nn f * nn (rq g) := Int.mul_le_mul (by omega) r1 (by decide) (nn_nonneg _)
  have s : ∀ i, i < 4 → pe f (rq g) i * pe f (rq g) i ≤ nn (pe f (rq g)) := fun i hi => by
    have n0 := sq_nn (pe f (rq g) 0)
    have n1 := sq_nn (pe f (rq g) 1)
    have n2 := sq_nn (pe f (rq g) 2)
    have n3 := sq_nn (pe f (rq g) 3)
    unfold nn
    have : i = 0 ∨ i = 1 ∨ i = 2 ∨ i = 3 := by omega
    rcases this with rfl | rfl | rfl | rfl <;> omega
  have bd : ∀ i, i < 4 → -2305843019951112192 ≤ pe f (rq g) i ∧ pe f (rq g) i ≤ 2305843019951112192 := fun i hi => by
    have := sqv_lt (a := pe f (rq g) i) (b := 2305843019951112192 + 1) (by decide) (by have := s i hi; omega)
    omega
  have bq : ∀ i, i < 4 → -2147483669 ≤ qprodF f (rq g) i ∧ qprodF f (rq g) i ≤ 2147483669 := fun i hi => by
    obtain ⟨e, h, l, u⟩ := prod_err hf hr hi
    have := bd i hi
    omega
  refine ⟨(okQ_iff _).2 fun i hi => (vb_iff _).2 (by have := bq i hi; omega), ?_, bq⟩
  cases hz : zQ (qprodF f (rq g)) with
  | false => rfl
  | true =>
    exfalso
    have z : ∀ i, i < 4 → qprodF f (rq g) i = 0 := fun i hi => by
      unfold zQ at hz
      rw [List.all_eq_true] at hz
      exact beq_iff_eq.1 (hz i (List.mem_range.2 hi))
    have sm : ∀ i, i < 4 → pe f (rq g) i * pe f (rq g) i ≤ 288230376151711744 := fun i hi => by
      obtain ⟨e, h, l, u⟩ := prod_err hf hr hi
      rw [z i hi] at h
      exact (bmul (P := 536870912) (R := 536870912) (a := pe f (rq g) i) (b := pe f (rq g) i) (by omega) (by omega) (by omega) (by omega)).2
    have s0 := sm 0 (by omega)
    have s1 := sm 1 (by omega)
    have s2 := sm 2 (by omega)
    have s3 := sm 3 (by omega)
    unfold nn at hE lo
    omega
theorem turn_core {f g : Nat → Int} (hI : ∀ i, i < 4 → I64 (f i)) (hf : validQ f = true) (hg : smallB g 1073741824 = true) :
    turnE f g = 0 ∧ turnF f g = qunF (qprodF f (rq g)) ∧ okQ (qprodF f (rq g)) = true ∧ zQ (qprodF f (rq g)) = false := by
  obtain ⟨hk, l, u⟩ := valid_nn hI hf
  obtain ⟨h1, h2, _⟩ := turn_prod hk l u hg
  unfold turnE turnF turnOk
  rw [hf, hg]
  exact ⟨(qun_core h1 h2).1, rfl, h1, h2⟩
end Go.Proofs.Ytkmelddejdikgaa
