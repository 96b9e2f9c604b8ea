/-
  What is asked of a field: along the direction it is twice the moment, the opposite moment has the opposite field, and it has a bound. No program is walked here.
-/
import Derived.Test.YthkklhfnmodpnaaMagD
import Derived.Test.YthkklhfnmodpnaaCrossM
set_option linter.unusedSimpArgs false
set_option linter.unusedVariables false
namespace Go.Proofs.Ythkklhfnmodpnaa
open Go.RowKit PM Dt
theorem sqnn (x : Int) : 0 ≤ x * x := by
  by_cases h : 0 ≤ x
  · exact Int.mul_nonneg h h
  · exact Int.mul_nonneg_of_nonpos_of_nonpos (by omega) (by omega)
theorem sq_lt_abs {a b : Int} (hb : 0 ≤ b) (h : a * a < b * b) : -b < a ∧ a < b := by
  have key : ∀ x : Int, b ≤ x → b * b ≤ x * x := fun x hx => Int.mul_le_mul hx hx hb (by omega)
  constructor
  · apply Classical.byContradiction; intro hc
    have := key (-a) (by omega)
    rw [Int.neg_mul_neg] at this
    omega
  · apply Classical.byContradiction; intro hc
    have := key a (by omega)
    omega
theorem sqs3_int (f : Nat → Int) : ((sqs [f 0, f 1, f 2] : Nat) : Int) = f 0 * f 0 + f 1 * f 1 + f 2 * f 2 := by
  rw [sqs_cons, sqs_cons, sqs_cons, sqs_nil]
  have e : ∀ a : Int, ((a.natAbs * a.natAbs : Nat) : Int) = a * a := fun a => by rw [Int.natCast_mul]; exact Int.natAbs_mul_self' a
  have := e (f 0)
  have := e (f 1)
  have := e (f 2)
  omega
theorem norm_is {f : Nat → Int} (hf : okV f = true) : normV f = ((isqrt (sqs [f 0, f 1, f 2]) : Nat) : Int) ∧ sqs [f 0, f 1, f 2] < 4 ^ 200 := by
  have b : ∀ i, i < 3 → f i * f i ≤ 1208925819614629174706176 := fun i hi => (vb_prod ((okV_iff f).1 hf i hi) ((okV_iff f).1 hf i hi)).2
  have b0 := b 0 (by omega)
  have b1 := b 1 (by omega)
  have b2 := b 2 (by omega)
  have e := sqs3_int f
  have hs : sqs [f 0, f 1, f 2] < 9223372036854775808 * 9223372036854775808 := by omega
  have h4 : sqs [f 0, f 1, f 2] < 4 ^ 200 := Nat.lt_trans hs (by decide)
  have hr : isqrt (sqs [f 0, f 1, f 2]) < 9223372036854775808 := (isqrt_lt h4).2 hs
  have := fit_of (q := hypQ [f 0, f 1, f 2]) (by unfold hypQ; omega) (by unfold hypQ; omega)
  refine ⟨?_, h4⟩
  unfold normV
  rw [hf, if_pos rfl, this.1]
  rfl
theorem norm_up {f : Nat → Int} (hf : okV f = true) (h : normV f ≤ 1073741824) : f 0 * f 0 + f 1 * f 1 + f 2 * f 2 < 1152921506754330625 := by
  obtain ⟨e, h4⟩ := norm_is hf
  rw [e] at h
  have : isqrt (sqs [f 0, f 1, f 2]) < 1073741825 := by omega
  have := (isqrt_lt h4).1 this
  have e2 := sqs3_int f
  omega
theorem norm_dn {f : Nat → Int} (hf : okV f = true) (h : 1073741822 ≤ normV f) : 1152921500311879684 ≤ f 0 * f 0 + f 1 * f 1 + f 2 * f 2 := by
  obtain ⟨e, h4⟩ := norm_is hf
  rw [e] at h
  have : 1073741822 ≤ isqrt (sqs [f 0, f 1, f 2]) := by omega
  have := (isqrt_ge h4).1 this
  have e2 := sqs3_int f
  omega
theorem comp_bd {f : Nat → Int} (h : f 0 * f 0 + f 1 * f 1 + f 2 * f 2 < 1152921506754330625) : ∀ i, i < 3 → -1073741824 ≤ f i ∧ f i ≤ 1073741824 := by
  have q0 := sqnn (f 0)
  have q1 := sqnn (f 1)
  have q2 := sqnn (f 2)
  intro i hi
  have : f i * f i < 1073741825 * 1073741825 := by
    have : i = 0 ∨ i = 1 ∨ i = 2 := by omega
    rcases this with rfl | rfl | rfl <;> omega
  have := sq_lt_abs (by omega) this
  omega
theorem cauchy (a0 a1 a2 b0 b1 b2 : Int) : (a0 * b0 + a1 * b1 + a2 * b2) * (a0 * b0 + a1 * b1 + a2 * b2) ≤ (a0 * a0 + a1 * a1 + a2 * a2) * (b0 * b0 + b1 * b1 + b2 * b2) := by
  have h0 := sqnn (a0 * b1 - a1 * b0)
  have h1 := sqnn (a0 * b2 - a2 * b0)
  have h2 := sqnn (a1 * b2 - a2 * b1)
  have e : (a0 * a0 + a1 * a1 + a2 * a2) * (b0 * b0 + b1 * b1 + b2 * b2) = (a0 * b0 + a1 * b1 + a2 * b2) * (a0 * b0 + a1 * b1 + a2 * b2) + (a0 * b1 - a1 * b0) * (a0 * b1 - a1 * b0) + (a0 * b2 - a2 * b0) * (a0 * b2 - a2 * b0) + (a1 * b2 - a2 * b1) * (a1 * b2 - a2 * b1) := by grind
  omega
theorem vsq (N S f0 f1 f2 g0 g1 g2 : Int) (hN : g0 * f0 + g1 * f1 + g2 * f2 = N) (hS : f0 * f0 + f1 * f1 + f2 * f2 = S) :
    (3 * N * f0 - S * g0) * (3 * N * f0 - S * g0) + (3 * N * f1 - S * g1) * (3 * N * f1 - S * g1) + (3 * N * f2 - S * g2) * (3 * N * f2 - S * g2) = 3 * (N * N) * S + S * S * (g0 * g0 + g1 * g1 + g2 * g2) := by
  have e : (3 * N * f0 - S * g0) * (3 * N * f0 - S * g0) + (3 * N * f1 - S * g1) * (3 * N * f1 - S * g1) + (3 * N * f2 - S * g2) * (3 * N * f2 - S * g2) = 9 * (N * N) * (f0 * f0 + f1 * f1 + f2 * f2) - 6 * (N * S) * (g0 * f0 + g1 * f1 + g2 * f2) + S * S * (g0 * g0 + g1 * g1 + g2 * g2) := by grind
  rw [e, hS, hN]
  grind
/-- No component is above twice the length. -/
theorem twice_bd {N S M K x y z : Int} (hS : 0 < S) (hK : 0 ≤ K) (hM : M < K * K) (hc : N * N ≤ S * M) (h : x * x + y * y + z * z = 3 * (N * N) * S + S * S * M) : -(2 * (S * K)) < x ∧ x < 2 * (S * K) := by
  have hx := sqnn x
  have hy := sqnn y
  have hz := sqnn z
  have h1 : N * N * S ≤ S * M * S := Int.mul_le_mul_of_nonneg_right hc (Int.le_of_lt hS)
  have h2 : S * S * M < S * S * (K * K) := Int.mul_lt_mul_of_pos_left hM (Int.mul_pos hS hS)
  have e1 : S * M * S = S * S * M := by grind
  have e2 : 2 * (S * K) * (2 * (S * K)) = 4 * (S * S * (K * K)) := by grind
  have e3 : 3 * (N * N) * S = 3 * (N * N * S) := by grind
  have : x * x < 2 * (S * K) * (2 * (S * K)) := by
    rw [e2]; rw [e3] at h; rw [e1] at h1
    generalize N * N * S = A at *
    generalize S * S * M = B at *
    generalize S * S * (K * K) = C at *
    omega
  exact sq_lt_abs (by have := Int.mul_nonneg (Int.le_of_lt hS) hK; omega) this
theorem atOk_iff (f g : Nat → Int) : atOk f g = true ↔ (normE f = 0 ∧ normE g = 0 ∧ 1073741822 ≤ normV f ∧ normV f ≤ 1073741824 ∧ normV g ≤ 1073741824) := by
  unfold atOk
  rw [Bool.and_eq_true, Bool.and_eq_true, Bool.and_eq_true, Bool.and_eq_true, decide_eq_true_eq, decide_eq_true_eq, decide_eq_true_eq, beq_iff_eq, beq_iff_eq]
theorem ratio_rnd {x y : Int} (h1 : -1152921504606846976 ≤ rnd (x * y)) (h2 : rnd (x * y) ≤ 1152921504606846976) : ratioV x y 1073741824 = rnd (x * y) := by
  have e : ratioQ x y 1073741824 = rnd (x * y) := by
    unfold ratioQ
    rw [if_neg (by omega)]
    exact nearest_one _
  unfold ratioV
  rw [if_neg (by omega), e]
  exact (fit_of (by omega) (by omega)).1
theorem prod30 {a b : Int} (h1 : -3221225490 ≤ a) (h2 : a ≤ 3221225490) (h3 : -1073741824 ≤ b) (h4 : b ≤ 1073741824) : -3458764533147893760 ≤ a * b ∧ a * b ≤ 3458764533147893760 :=
  bmul (P := 3221225490) (R := 1073741824) h1 h2 h3 h4
theorem prod59 {a b : Int} (h1 : -536870912 ≤ a) (h2 : a ≤ 536870912) (h3 : -1073741824 ≤ b) (h4 : b ≤ 1073741824) : -576460752303423488 ≤ a * b ∧ a * b ≤ 576460752303423488 :=
  bmul (P := 536870912) (R := 1073741824) h1 h2 h3 h4
theorem prod62 {a b : Int} (h1 : -4294967296 ≤ a) (h2 : a ≤ 4294967296) (h3 : -1073741830 ≤ b) (h4 : b ≤ 1073741830) : -4611686044197191680 ≤ a * b ∧ a * b ≤ 4611686044197191680 :=
  bmul (P := 4294967296) (R := 1073741830) h1 h2 h3 h4
/-- One sum, seen twice: what the field is along the direction. -/
theorem along_id {f0 f1 f2 g0 g1 g2 b0 b1 b2 n e0 e1 e2 : Int} (h0 : 1073741824 * b0 = 3 * n * f0 - 1073741824 * g0 + e0) (h1 : 1073741824 * b1 = 3 * n * f1 - 1073741824 * g1 + e1) (h2 : 1073741824 * b2 = 3 * n * f2 - 1073741824 * g2 + e2) :
    1073741824 * (b0 * f0 + (b1 * f1 + (b2 * f2 + 0))) = 3 * (n * (f0 * f0 + f1 * f1 + f2 * f2)) - 1073741824 * (g0 * f0 + g1 * f1 + g2 * f2) + (e0 * f0 + e1 * f1 + e2 * f2) := by
  have r : 1073741824 * (b0 * f0 + (b1 * f1 + (b2 * f2 + 0))) = (1073741824 * b0) * f0 + (1073741824 * b1) * f1 + (1073741824 * b2) * f2 := by
    rw [Int.mul_add, Int.mul_add, Int.mul_add, Int.mul_assoc, Int.mul_assoc, Int.mul_assoc]; omega
  rw [r, h0, h1, h2]
  clear r h0 h1 h2
  grind
theorem comp_id {f g b n N S e d : Int} (h : 1073741824 * b = 3 * n * f - 1073741824 * g + e) (hn : 1073741824 * n = N + d) :
    1152921504606846976 * b = (3 * N * f - S * g) + (S - 1152921504606846976) * g + 3 * (d * f) + 1073741824 * e := by
  have r : 1152921504606846976 * b = 1073741824 * (1073741824 * b) := by rw [← Int.mul_assoc]; rfl
  have q : 1073741824 * (3 * n * f) = 3 * (1073741824 * n) * f := by grind
  rw [r, h, Int.mul_add, Int.mul_sub, q, hn]
  grind
theorem doubles (f g : Nat → Int) (h : atOk f g = true) :
    atOk f (fun i => -g i) = true ∧ okV f = true ∧ okV g = true ∧ okV (atX f g) = true ∧ vdotV (atX f g) f = rnd (d3 (atX f g) f) ∧ vdotV g f = rnd (d3 g f) ∧
    (-3221225490 ≤ vdotV (atX f g) f ∧ vdotV (atX f g) f ≤ 3221225490) ∧ (-1073741830 ≤ vdotV g f ∧ vdotV g f ≤ 1073741830) ∧
    sb 16 (vdotV (atX f g) f - 2 * vdotV g f) = true ∧
    ∀ i, i < 3 → sb 4 (atX f g i + atX f (fun i => -g i) i) = true ∧ sb 2147483664 (atX f g i) = true ∧ (-4294967500 ≤ atX f (fun i => -g i) i ∧ atX f (fun i => -g i) i ≤ 4294967500) := by
  obtain ⟨E1, E2, L1, U1, U2⟩ := (atOk_iff f g).1 h
  have vf := norm_ok E1
  have vg := norm_ok E2
  have hS := norm_up vf U1
  have hS' := norm_dn vf L1
  have hM := norm_up vg U2
  have bf := comp_bd hS
  have bg := comp_bd hM
  -- the opposite moment
  have vn : okV (fun i => -g i) = true := (okV_iff _).2 fun i hi => (vb_iff _).2 (by have := bg i hi; show -1099511627776 ≤ -g i ∧ -g i ≤ 1099511627776; omega)
  have sn : sqs [(fun i => -g i) 0, (fun i => -g i) 1, (fun i => -g i) 2] = sqs [g 0, g 1, g 2] := by
    have a := sqs3_int (fun i => -g i)
    have b := sqs3_int g
    simp only [Int.neg_mul_neg] at a
    have : ((sqs [(fun i => -g i) 0, (fun i => -g i) 1, (fun i => -g i) 2] : Nat) : Int) = ((sqs [g 0, g 1, g 2] : Nat) : Int) := by rw [b]; exact a
    exact_mod_cast this
  have nn : normV (fun i => -g i) = normV g ∧ normE (fun i => -g i) = normE g := by
    unfold normV normE hypQ
    rw [vn, vg, if_pos rfl, if_pos rfl, if_pos rfl, if_pos rfl, sn]
    exact ⟨rfl, rfl⟩
  have ok2 : atOk f (fun i => -g i) = true := (atOk_iff _ _).2 (by rw [nn.1, nn.2]; exact ⟨E1, E2, L1, U1, U2⟩)
  -- the scalar products
  obtain ⟨S, eS⟩ : ∃ S, f 0 * f 0 + f 1 * f 1 + f 2 * f 2 = S := ⟨_, rfl⟩
  obtain ⟨M, eM⟩ : ∃ M, g 0 * g 0 + g 1 * g 1 + g 2 * g 2 = M := ⟨_, rfl⟩
  obtain ⟨N, eN⟩ : ∃ N, g 0 * f 0 + g 1 * f 1 + g 2 * f 2 = N := ⟨_, rfl⟩
  have hc := cauchy (g 0) (g 1) (g 2) (f 0) (f 1) (f 2)
  rw [eN, eM, eS] at hc
  rw [eS] at hS hS'
  rw [eM] at hM
  have hM0 : 0 ≤ M := by rw [← eM]; have := sqnn (g 0); have := sqnn (g 1); have := sqnn (g 2); omega
  have hNN : N * N < 1152921506754330625 * 1152921506754330625 := by
    have a : M * S ≤ M * 1152921506754330624 := Int.mul_le_mul_of_nonneg_left (by omega) hM0
    omega
  have bN := sq_lt_abs (by omega) hNN
  have dN : d3 g f = N := by unfold d3; rw [dotS_cons, dotS_cons, dotS_cons, dotS_nil, ← eN]; omega
  have dN' : d3 (fun i => -g i) f = -N := by
    unfold d3; rw [dotS_cons, dotS_cons, dotS_cons, dotS_nil, ← eN]
    show -g 0 * f 0 + (-g 1 * f 1 + (-g 2 * f 2 + 0)) = _
    rw [Int.neg_mul, Int.neg_mul, Int.neg_mul]; omega
  have vd : vdotV g f = rnd N := by unfold vdotV; rw [vg, vf, dN]; rfl
  have vd' : vdotV (fun i => -g i) f = rnd (-N) := by unfold vdotV; rw [vn, vf, dN']; rfl
  obtain ⟨d, hd, ld, ud⟩ := rnd_err N
  obtain ⟨d', hd', ld', ud'⟩ := rnd_err (-N)
  rw [vd]
  obtain ⟨n, en⟩ : ∃ n, rnd N = n := ⟨_, rfl⟩
  obtain ⟨n', en'⟩ : ∃ n, rnd (-N) = n := ⟨_, rfl⟩
  rw [en] at hd vd ⊢
  rw [en'] at hd' vd'
  have bn : -1073741827 ≤ n ∧ n ≤ 1073741827 := by omega
  have bn' : -1073741827 ≤ n' ∧ n' ≤ 1073741827 := by omega
  have hsum : -1 ≤ n + n' ∧ n + n' ≤ 1 := by omega
  -- the components
  have w3 : wrap64 (3 * n) = 3 * n := by unfold wrap64; omega
  have w3' : wrap64 (3 * n') = 3 * n' := by unfold wrap64; omega
  have pr : ∀ m : Int, (-1073741827 ≤ m ∧ m ≤ 1073741827) → ∀ i, i < 3 → -3221225600 ≤ rnd (3 * m * f i) ∧ rnd (3 * m * f i) ≤ 3221225600 := fun m hm i hi => by
    have := prod30 (a := 3 * m) (b := f i) (by omega) (by omega) (bf i hi).1 (bf i hi).2
    generalize 3 * m * f i = Z at *
    unfold rnd; omega
  have cX : ∀ i, i < 3 → atX f g i = rnd (3 * n * f i) - g i := fun i hi => by
    have a := pr n bn i hi
    have b := bg i hi
    unfold atX
    rw [vd, w3, ratio_rnd (by omega) (by omega)]
    unfold wrap64; omega
  have cY : ∀ i, i < 3 → atX f (fun i => -g i) i = rnd (3 * n' * f i) + g i := fun i hi => by
    have a := pr n' bn' i hi
    have b := bg i hi
    unfold atX
    rw [vd', w3', ratio_rnd (by omega) (by omega)]
    show wrap64 (rnd (3 * n' * f i) - -g i) = _
    unfold wrap64; omega
  have er : ∀ i, i < 3 → ∃ e, 1073741824 * atX f g i = 3 * n * f i - 1073741824 * g i + e ∧ -536870912 ≤ e ∧ e ≤ 536870912 := fun i hi => by
    obtain ⟨e, he, l, u⟩ := rnd_err (3 * n * f i)
    exact ⟨e, by rw [cX i hi]; omega, l, u⟩
  have vX : okV (atX f g) = true := (okV_iff _).2 fun i hi => (vb_iff _).2 (by
    rw [cX i hi]
    have a := pr n bn i hi
    have b := bg i hi
    omega)
  have vp : vdotV (atX f g) f = rnd (d3 (atX f g) f) := by unfold vdotV; rw [vX, vf]; rfl
  -- along the direction
  obtain ⟨x0, X0, l0, u0⟩ := er 0 (by omega)
  obtain ⟨x1, X1, l1, u1⟩ := er 1 (by omega)
  obtain ⟨x2, X2, l2, u2⟩ := er 2 (by omega)
  have al := along_id X0 X1 X2
  rw [eS, eN] at al
  have dB : d3 (atX f g) f = atX f g 0 * f 0 + (atX f g 1 * f 1 + (atX f g 2 * f 2 + 0)) := by unfold d3; rw [dotS_cons, dotS_cons, dotS_cons, dotS_nil]
  rw [← dB] at al
  obtain ⟨k, hk, lk, uk⟩ := rnd_err (d3 (atX f g) f)
  rw [← vp] at hk
  have t0 := prod59 l0 u0 (bf 0 (by omega)).1 (bf 0 (by omega)).2
  have t1 := prod59 l1 u1 (bf 1 (by omega)).1 (bf 1 (by omega)).2
  have t2 := prod59 l2 u2 (bf 2 (by omega)).1 (bf 2 (by omega)).2
  have tn := prod62 (a := S - 1152921504606846976) (b := n) (by omega) (by omega) (by omega) (by omega)
  have en2 : n * S = (S - 1152921504606846976) * n + 1152921504606846976 * n := by grind
  rw [en2] at al
  have main : sb 16 (vdotV (atX f g) f - 2 * n) = true := (sb_iff _ _).2 (by
    generalize (S - 1152921504606846976) * n = T at *
    generalize x0 * f 0 = y0 at *
    generalize x1 * f 1 = y1 at *
    generalize x2 * f 2 = y2 at *
    generalize d3 (atX f g) f = B at *
    generalize vdotV (atX f g) f = p at *
    clear cX cY pr er X0 X1 X2 dB hc hNN vX vp en2 eS eM eN
    omega)
  have pb : -3221225490 ≤ vdotV (atX f g) f ∧ vdotV (atX f g) f ≤ 3221225490 := by
    have := (sb_iff _ _).1 main
    omega
  refine ⟨ok2, vf, vg, vX, vp, by rw [dN, en], pb, by omega, main, ?_⟩
  intro i hi
  have hfi := bf i hi
  have hgi := bg i hi
  obtain ⟨e, X, l, u⟩ := er i hi
  refine ⟨?_, ?_, ?_⟩
  · obtain ⟨e', he', l', u'⟩ := rnd_err (3 * n' * f i)
    have hh := cY i hi
    have q : 3 * n * f i + 3 * n' * f i = 3 * ((n + n') * f i) := by grind
    have r : -1073741824 ≤ (n + n') * f i ∧ (n + n') * f i ≤ 1073741824 := by
      have : n + n' = -1 ∨ n + n' = 0 ∨ n + n' = 1 := by omega
      rcases this with h1 | h1 | h1 <;> rw [h1] <;> omega
    refine (sb_iff _ _).2 ?_
    rw [hh]
    generalize atX f g i = bi at *
    generalize rnd (3 * n' * f i) = ci at *
    generalize 3 * n * f i = A at *
    generalize 3 * n' * f i = A' at *
    generalize (n + n') * f i = R at *
    clear cX cY pr er X0 X1 X2 dB hc hNN vX vp en2 eS eM eN main
    omega
  · have id := comp_id (S := S) X hd
    have vs := vsq N S (f 0) (f 1) (f 2) (g 0) (g 1) (g 2) eN eS
    rw [eM] at vs
    have hc' : N * N ≤ S * M := by rw [Int.mul_comm S M]; exact hc
    have tw : -(2 * (S * 1073741825)) < 3 * N * f i - S * g i ∧ 3 * N * f i - S * g i < 2 * (S * 1073741825) := by
      have : i = 0 ∨ i = 1 ∨ i = 2 := by omega
      rcases this with rfl | rfl | rfl
      · exact twice_bd (by omega) (by omega) (by omega) hc' vs
      · exact twice_bd (y := 3 * N * f 0 - S * g 0) (z := 3 * N * f 2 - S * g 2) (by omega) (by omega) (by omega) hc' (by rw [← vs]; omega)
      · exact twice_bd (y := 3 * N * f 0 - S * g 0) (z := 3 * N * f 1 - S * g 1) (by omega) (by omega) (by omega) hc' (by rw [← vs]; omega)
    have tg := prod62 (a := S - 1152921504606846976) (b := g i) (by omega) (by omega) (by omega) (by omega)
    have td := prod59 ld ud hfi.1 hfi.2
    refine (sb_iff _ _).2 ?_
    generalize atX f g i = bi at *
    generalize 3 * N * f i - S * g i = V at *
    generalize (S - 1152921504606846976) * g i = G at *
    generalize d * f i = D at *
    clear cX cY pr er X0 X1 X2 dB hc hNN vX vp en2 eS eM eN main X vs hc'
    omega
  · rw [cY i hi]
    have a := pr n' bn' i hi
    omega
end Go.Proofs.Ythkklhfnmodpnaa
