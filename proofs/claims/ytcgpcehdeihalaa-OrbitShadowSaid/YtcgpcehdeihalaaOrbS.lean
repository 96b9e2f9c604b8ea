/-
  Orbits: if it is dark, the sun is behind the Earth. No program in sight.
-/
import Derived.Test.YtcgpcehdeihalaaOrbM
import Derived.Test.YtcgpcehdeihalaaVecI
import Derived.Test.YtcgpcehdeihalaaLenN
set_option linter.unusedSimpArgs false
set_option linter.unusedVariables false
namespace Go.Proofs.Ytcgpcehdeihalaa
open Go.RowKit PM Dt
theorem absq_o {x p : Int} (hp : 0 ≤ p) (h : x * x ≤ p * p) : -p ≤ x ∧ x ≤ p := by
  have := sqv_lt (a := x) (b := p + 1) (by omega) (by
    have e : (p + 1) * (p + 1) = p * p + 2 * p + 1 := by grind
    omega)
  omega
theorem cauchy_o (x0 x1 x2 y0 y1 y2 : Int) : (x0 * y0 + x1 * y1 + x2 * y2) * (x0 * y0 + x1 * y1 + x2 * y2) ≤ (x0 * x0 + x1 * x1 + x2 * x2) * (y0 * y0 + y1 * y1 + y2 * y2) := by
  have h1 := sq_nn (x0 * y1 - x1 * y0)
  have h2 := sq_nn (x0 * y2 - x2 * y0)
  have h3 := sq_nn (x1 * y2 - x2 * y1)
  have e : (x0 * x0 + x1 * x1 + x2 * x2) * (y0 * y0 + y1 * y1 + y2 * y2) = (x0 * y0 + x1 * y1 + x2 * y2) * (x0 * y0 + x1 * y1 + x2 * y2) + ((x0 * y1 - x1 * y0) * (x0 * y1 - x1 * y0) + (x0 * y2 - x2 * y0) * (x0 * y2 - x2 * y0) + (x1 * y2 - x2 * y1) * (x1 * y2 - x2 * y1)) := by grind
  omega
theorem tri_o {x0 x1 x2 y0 y1 y2 X Y : Int} (hX : 0 ≤ X) (hY : 0 ≤ Y) (hx : x0 * x0 + x1 * x1 + x2 * x2 ≤ X * X) (hy : y0 * y0 + y1 * y1 + y2 * y2 ≤ Y * Y) :
    (x0 + y0) * (x0 + y0) + (x1 + y1) * (x1 + y1) + (x2 + y2) * (x2 + y2) ≤ (X + Y) * (X + Y) := by
  have hc := cauchy_o x0 x1 x2 y0 y1 y2
  have n0 := sq_nn x0
  have n1 := sq_nn x1
  have n2 := sq_nn x2
  have m0 := sq_nn y0
  have m1 := sq_nn y1
  have m2 := sq_nn y2
  have hp : (x0 * x0 + x1 * x1 + x2 * x2) * (y0 * y0 + y1 * y1 + y2 * y2) ≤ (X * X) * (Y * Y) := Int.mul_le_mul hx hy (by omega) (sq_nn X)
  have e : (X * X) * (Y * Y) = (X * Y) * (X * Y) := by grind
  have hd := (absq_o (x := x0 * y0 + x1 * y1 + x2 * y2) (p := X * Y) (Int.mul_nonneg hX hY) (by omega)).2
  have e1 : (x0 + y0) * (x0 + y0) + (x1 + y1) * (x1 + y1) + (x2 + y2) * (x2 + y2) = (x0 * x0 + x1 * x1 + x2 * x2) + (y0 * y0 + y1 * y1 + y2 * y2) + 2 * (x0 * y0 + x1 * y1 + x2 * y2) := by grind
  have e2 : (X + Y) * (X + Y) = X * X + Y * Y + 2 * (X * Y) := by grind
  omega
def vvo (f : Nat → Int) : Int := f 0 * f 0 + f 1 * f 1 + f 2 * f 2
theorem shadow_core {r0 r1 r2 s0 s1 s2 x0 x1 x2 e0 e1 e2 c R d n : Int} (hr : r0 * r0 + r1 * r1 + r2 * r2 < 1073741825 * 1073741825) (hs : s0 * s0 + s1 * s1 + s2 * s2 < 1073741825 * 1073741825)
    (hc : 1073741824 * c = r0 * s0 + r1 * s1 + r2 * s2 + d) (hd : -536870912 ≤ d ∧ d ≤ 536870912) (h0 : 1073741824 * x0 = s0 * c + e0) (h1 : 1073741824 * x1 = s1 * c + e1) (h2 : 1073741824 * x2 = s2 * c + e2)
    (b0 : -536870912 ≤ e0 ∧ e0 ≤ 536870912) (b1 : -536870912 ≤ e1 ∧ e1 ≤ 536870912) (b2 : -536870912 ≤ e2 ∧ e2 ≤ 536870912) (hR : 536870912 ≤ R) (hq : 1152921504606846976 - c * c < R * R) (hcb : -1073741827 ≤ c ∧ c ≤ 1073741827)
    (hn0 : 0 ≤ n) (hn : n * n ≤ (r0 - x0) * (r0 - x0) + (r1 - x1) * (r1 - x1) + (r2 - x2) * (r2 - x2)) : n ≤ R + 7 := by
  have eu : (1073741824 * r0 - s0 * c) * (1073741824 * r0 - s0 * c) + (1073741824 * r1 - s1 * c) * (1073741824 * r1 - s1 * c) + (1073741824 * r2 - s2 * c) * (1073741824 * r2 - s2 * c) =
      1152921504606846976 * (r0 * r0 + r1 * r1 + r2 * r2) - 2147483648 * (c * (1073741824 * c - d)) + c * c * (s0 * s0 + s1 * s1 + s2 * s2) := by
    rw [hc]; grind
  have ec : c * (1073741824 * c - d) = 1073741824 * (c * c) - c * d := by grind
  have hcd := bmul hcb.1 hcb.2 hd.1 hd.2
  have hcc : c * c ≤ 1073741827 * 1073741827 := (bmul hcb.1 hcb.2 hcb.1 hcb.2).2
  have ncc := sq_nn c
  have hqB : c * c * (s0 * s0 + s1 * s1 + s2 * s2) ≤ c * c * 1152921506754330624 := Int.mul_le_mul_of_nonneg_left (by omega) ncc
  have hX : (1073741824 * (R + 6)) * (1073741824 * (R + 6)) = 1152921504606846976 * (R * R) + 13835058055282163712 * R + 41505174165846491136 := by grind
  rw [ec] at eu
  have hU : (1073741824 * r0 - s0 * c) * (1073741824 * r0 - s0 * c) + (1073741824 * r1 - s1 * c) * (1073741824 * r1 - s1 * c) + (1073741824 * r2 - s2 * c) * (1073741824 * r2 - s2 * c) ≤ (1073741824 * (R + 6)) * (1073741824 * (R + 6)) := by
    rw [eu, hX]
    generalize r0 * r0 + r1 * r1 + r2 * r2 = A at *
    generalize c * c * (s0 * s0 + s1 * s1 + s2 * s2) = QB at *
    generalize c * c = q at *
    generalize c * d = cd at *
    generalize R * R = RR at *
    omega
  have hE : (-e0) * (-e0) + (-e1) * (-e1) + (-e2) * (-e2) ≤ 1073741824 * 1073741824 := by
    have p0 := (bmul (a := -e0) (b := -e0) (P := 536870912) (R := 536870912) (by omega) (by omega) (by omega) (by omega)).2
    have p1 := (bmul (a := -e1) (b := -e1) (P := 536870912) (R := 536870912) (by omega) (by omega) (by omega) (by omega)).2
    have p2 := (bmul (a := -e2) (b := -e2) (P := 536870912) (R := 536870912) (by omega) (by omega) (by omega) (by omega)).2
    omega
  have T := tri_o (X := 1073741824 * (R + 6)) (Y := 1073741824) (by omega) (by decide) hU hE
  have f0 : 1073741824 * r0 - s0 * c + -e0 = 1073741824 * (r0 - x0) := by omega
  have f1 : 1073741824 * r1 - s1 * c + -e1 = 1073741824 * (r1 - x1) := by omega
  have f2 : 1073741824 * r2 - s2 * c + -e2 = 1073741824 * (r2 - x2) := by omega
  rw [f0, f1, f2] at T
  have g : 1073741824 * (r0 - x0) * (1073741824 * (r0 - x0)) + 1073741824 * (r1 - x1) * (1073741824 * (r1 - x1)) + 1073741824 * (r2 - x2) * (1073741824 * (r2 - x2)) = 1152921504606846976 * ((r0 - x0) * (r0 - x0) + (r1 - x1) * (r1 - x1) + (r2 - x2) * (r2 - x2)) := by grind
  rw [g] at T
  have k : (1073741824 * n) * (1073741824 * n) ≤ (1073741824 * (R + 7)) * (1073741824 * (R + 7)) := by
    have k1 : (1073741824 * n) * (1073741824 * n) = 1152921504606846976 * (n * n) := by grind
    have k2 : 1073741824 * (R + 6) + 1073741824 = 1073741824 * (R + 7) := by omega
    rw [k2] at T
    rw [k1]
    generalize (1073741824 * (R + 7)) * (1073741824 * (R + 7)) = W at *
    omega
  have := (absq_o (by omega) k).2
  omega
theorem comp_b {f : Nat → Int} (h : vvo f < 1073741825 * 1073741825) {i : Nat} (hi : i < 3) : -1073741824 ≤ f i ∧ f i ≤ 1073741824 := by
  have n0 := sq_nn (f 0)
  have n1 := sq_nn (f 1)
  have n2 := sq_nn (f 2)
  have : f i * f i ≤ vvo f := by
    unfold vvo
    have : i = 0 ∨ i = 1 ∨ i = 2 := by omega
    rcases this with rfl | rfl | rfl <;> omega
  have := sqv_lt (a := f i) (b := 1073741825) (by decide) (by omega)
  omega
theorem d3_vv (f g : Nat → Int) : d3 f g = f 0 * g 0 + f 1 * g 1 + f 2 * g 2 := by unfold d3; rw [dotS_cons, dotS_cons, dotS_cons, dotS_nil]; omega
/-- What a dark craft's place and the sun's have in common. -/
theorem shadow_all {r s : Nat → Int} {R : Int} (kr : okV r = true) (ks : okV s = true) (hr : vvo r < 1073741825 * 1073741825) (hs : vvo s < 1073741825 * 1073741825) (hR : 536870912 ≤ R ∧ R < 1073741824) (hd : dark0 (vdotV r s) R = true) :
    vdotE r s = 0 ∧ I64 (vdotV r s) ∧ vscaleE s (vdotV r s) = 0 ∧ vsubE r (vscaleF s (vdotV r s)) = 0 ∧ normE (vsubF r (vscaleF s (vdotV r s))) = 0 ∧ vdotV r s < 0 ∧ 0 ≤ normV (vsubF r (vscaleF s (vdotV r s))) ∧ normV (vsubF r (vscaleF s (vdotV r s))) ≤ R + 7 := by
  have hE : vdotE r s = 0 := by unfold vdotE; rw [kr, ks]; rfl
  have hV : vdotV r s = rnd (d3 r s) := by unfold vdotV; rw [kr, ks]; rfl
  obtain ⟨d, hc, hdd⟩ := rnd_err (d3 r s)
  rw [← hV, d3_vv] at hc
  obtain ⟨c, hcc⟩ : ∃ c, vdotV r s = c := ⟨_, rfl⟩
  rw [hcc] at hd hc ⊢
  have rb := fun i (hi : i < 3) => comp_b hr hi
  have sb := fun i (hi : i < 3) => comp_b hs hi
  have ca := cauchy_o (r 0) (r 1) (r 2) (s 0) (s 1) (s 2)
  have hprod : vvo r * vvo s ≤ (1073741825 * 1073741825) * (1073741825 * 1073741825) := Int.mul_le_mul (by omega) (by omega) (by have := sq_nn (s 0); have := sq_nn (s 1); have := sq_nn (s 2); unfold vvo; omega) (by decide)
  have hdot := absq_o (x := r 0 * s 0 + r 1 * s 1 + r 2 * s 2) (p := 1073741825 * 1073741825) (by decide) (by unfold vvo at hprod; omega)
  have hcb : -1073741827 ≤ c ∧ c ≤ 1073741827 := by
    generalize r 0 * s 0 + r 1 * s 1 + r 2 * s 2 = D at *
    omega
  have hq : c < 0 ∧ 1152921504606846976 - c * c < R * R := by
    unfold dark0 at hd
    rw [Bool.and_eq_true, decide_eq_true_eq, decide_eq_true_eq] at hd
    have p := bmul hcb.1 hcb.2 hcb.1 hcb.2
    have p2 := bmul (a := R) (b := R) (P := 1073741824) (R := 1073741824) (by omega) (by omega) (by omega) (by omega)
    refine ⟨hd.1, ?_⟩
    have h2 := hd.2
    have nn := sq_nn c
    have w1 : wrap64 (c * c) = c * c := by unfold wrap64; omega
    have w2 : wrap64 (R * R) = R * R := by unfold wrap64; omega
    rw [w1, w2] at h2
    have w3 : wrap64 (1152921504606846976 - c * c) = 1152921504606846976 - c * c := by unfold wrap64; omega
    rw [w3] at h2
    exact h2
  have hx : ∀ i, i < 3 → scX s c i = rnd (s i * c) ∧ scE s c i = 0 := fun i hi => by
    have b := sb i hi
    have p := bmul b.1 b.2 hcb.1 hcb.2
    have e := mulV_rnd (a := s i) (b := c) ⟨by omega, by omega⟩ ⟨by omega, by omega⟩
    unfold mulV at e
    refine ⟨e, ?_⟩
    show ratioE (s i) c 1073741824 = 0
    unfold ratioE ratioQ
    rw [if_neg (by decide), if_neg (by decide), nearest_one]
    exact (fit_of (by unfold rnd; omega) (by unfold rnd; omega)).2
  have xb : ∀ i, i < 3 → -2147483648 ≤ scX s c i ∧ scX s c i ≤ 2147483648 := fun i hi => by
    have b := sb i hi
    have p := bmul b.1 b.2 hcb.1 hcb.2
    rw [(hx i hi).1]
    exact rnd_b ⟨by omega, by omega⟩
  have kx : okV (scX s c) = true := (okV_iff _).2 fun i hi => (vb_iff _).2 (by have := xb i hi; omega)
  obtain ⟨g1, g2⟩ := good_all (x := scX s c) (er := scE s c) (fun i hi => (hx i hi).2)
  have hF : vscaleF s c = scX s c := by unfold vscaleF; rw [if_pos ks, g1]; exact if_pos kx
  have hG : vscaleE s c = 0 := by unfold vscaleE; rw [if_pos ks, g2]; exact if_pos kx
  rw [hF]
  have ka : okV (subF r (scX s c)) = true := (okV_iff _).2 fun i hi => (vb_iff _).2 (by
    have a := xb i hi
    have b := rb i hi
    show _ ≤ r i - scX s c i ∧ r i - scX s c i ≤ _
    omega)
  have hS : vsubF r (scX s c) = subF r (scX s c) := by
    unfold vsubF
    rw [kr, kx]
    exact if_pos ka
  have hSE : vsubE r (scX s c) = 0 := by
    unfold vsubE
    rw [kr, kx]
    exact if_pos ka
  rw [hS]
  obtain ⟨n1, N, n2, n3, n4, n5⟩ := norm_val ka
  refine ⟨hE, ⟨by omega, by omega⟩, hG, hSE, n1, hq.1, by omega, ?_⟩
  obtain ⟨e0, a0, b0⟩ := rnd_err (s 0 * c)
  obtain ⟨e1, a1, b1⟩ := rnd_err (s 1 * c)
  obtain ⟨e2, a2, b2⟩ := rnd_err (s 2 * c)
  rw [← (hx 0 (by omega)).1] at a0
  rw [← (hx 1 (by omega)).1] at a1
  rw [← (hx 2 (by omega)).1] at a2
  rw [n2]
  exact shadow_core (n := (N : Int)) hr hs hc hdd a0 a1 a2 b0 b1 b2 hR.1 hq.2 hcb (by omega) n3
end Go.Proofs.Ytcgpcehdeihalaa
