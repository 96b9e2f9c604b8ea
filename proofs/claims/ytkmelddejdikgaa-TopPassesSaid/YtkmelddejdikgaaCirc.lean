/-
  Sines and cosines: their bounds, their symmetries, and the sum of their squares. Plain laws on the values that the functions were shown to return.
-/
import Derived.Test.YtkmelddejdikgaaSin
import Derived.Great.BuildSlice
import Derived.Test.YtkmelddejdikgaaAlg
set_option linter.unusedSimpArgs false
set_option linter.unusedVariables false
namespace Go.Proofs.Ytkmelddejdikgaa
open Go.RowKit PM Dt
theorem mulV_step {y t T : Int} (hy : 0 ≤ y) (hy2 : y ≤ 1073741824) (ht : 0 ≤ t) (hT : t ≤ T) (hT2 : T ≤ 2147483648) :
    0 ≤ mulV y t ∧ mulV y t ≤ T ∧ ∃ ε, -536870912 ≤ ε ∧ ε ≤ 536870912 ∧ 1073741824 * mulV y t = y * t + ε := by
  have b0 : 0 ≤ y * t := Int.mul_nonneg hy ht
  have b1 : y * t ≤ 1073741824 * t := Int.mul_le_mul_of_nonneg_right hy2 ht
  have e : mulV y t = rnd (y * t) := by
    unfold mulV; rw [ratioV_M]; exact (fit_of (by unfold rnd; omega) (by unfold rnd; omega)).1
  rw [e]
  generalize y * t = X at *
  refine ⟨by unfold rnd; omega, by unfold rnd; omega, 1073741824 * rnd X - X, by unfold rnd; omega, by unfold rnd; omega, by omega⟩
theorem D5_eq : D5 = 1073741824 * (1073741824 * (1073741824 * (1073741824 * (1073741824 * 1)))) := by decide +kernel
theorem D6_eq : D6 = 1073741824 * D5 := by decide +kernel
theorem poly_spec (y a b c d e : Int) (hy : 0 ≤ y) (hY : y ≤ 662337940) (he : 0 ≤ e) (hd : e ≤ d) (hc : d ≤ c) (hb : c ≤ b) (ha : b ≤ a) (hA : a ≤ 536870912) :
    0 ≤ poly y a b c d e ∧ poly y a b c d e ≤ a ∧ ∃ η, D5 * poly y a b c d e = ev (npoly a b c d e) y + η ∧ -K5 ≤ η ∧ η ≤ K5 := by
  unfold poly
  obtain ⟨p1, p2, s1⟩ := mulV_step (t := e) (T := e) hy (by omega) he (Int.le_refl _) (by omega)
  generalize mulV y e = z1 at *
  rw [wrap64_I (a := d - z1) ⟨by omega, by omega⟩]
  obtain ⟨q1, q2, s2⟩ := mulV_step (t := d - z1) (T := d) hy (by omega) (by omega) (by omega) (by omega)
  generalize mulV y (d - z1) = z2 at *
  rw [wrap64_I (a := c - z2) ⟨by omega, by omega⟩]
  obtain ⟨r1, r2, s3⟩ := mulV_step (t := c - z2) (T := c) hy (by omega) (by omega) (by omega) (by omega)
  generalize mulV y (c - z2) = z3 at *
  rw [wrap64_I (a := b - z3) ⟨by omega, by omega⟩]
  obtain ⟨t1, t2, s4⟩ := mulV_step (t := b - z3) (T := b) hy (by omega) (by omega) (by omega) (by omega)
  generalize mulV y (b - z3) = z4 at *
  rw [wrap64_I (a := a - z4) ⟨by omega, by omega⟩]
  obtain ⟨v1, v2, s5⟩ := mulV_step (t := a - z4) (T := a) hy (by omega) (by omega) (by omega) (by omega)
  generalize mulV y (a - z4) = z5 at *
  refine ⟨v1, v2, ?_⟩
  have k0 : (1 : Int) * 0 = ev [] y + 0 := by simp [ev]
  obtain ⟨η1, g1, l1, u1⟩ := horner (P := 1) (z := 0) (z' := z1) (c := e) (H := 0) (Y := 662337940) k0 (by omega) (by omega) (by rw [Int.sub_zero]; exact s1) hy hY (by omega)
  obtain ⟨η2, g2, l2, u2⟩ := horner g1 l1 u1 s2 hy hY (by decide)
  obtain ⟨η3, g3, l3, u3⟩ := horner g2 l2 u2 s3 hy hY (by decide)
  obtain ⟨η4, g4, l4, u4⟩ := horner g3 l3 u3 s4 hy hY (by decide)
  obtain ⟨η5, g5, l5, u5⟩ := horner g4 l4 u4 s5 hy hY (by decide)
  refine ⟨η5, ?_, ?_, ?_⟩
  · rw [D5_eq]; exact g5
  · exact Int.le_trans (by decide +kernel) l5
  · exact Int.le_trans u5 (by decide +kernel)
theorem sum_sin {E5 E6 x z s N η ε : Int} (hE : E6 = 1073741824 * E5) (hz : E5 * z = N + η) (hs : 1073741824 * s = x * (1073741824 - z) + ε) : E6 * s = x * (E6 - N) + (E5 * ε - x * η) := by
  have hN : N = E5 * z - η := by omega
  subst hE hN
  have k : E5 * (1073741824 * s) = E5 * (x * (1073741824 - z) + ε) := by rw [hs]
  have k1 : 1073741824 * E5 * s = E5 * (1073741824 * s) := by rw [Int.mul_comm 1073741824 E5, Int.mul_assoc]
  rw [k1, k]
  clear hz hs k k1
  grind
theorem sum_cos {E5 E6 z N η : Int} (hE : E6 = 1073741824 * E5) (hz : E5 * z = N + η) : E6 * (1073741824 - z) = 1073741824 * (E6 - N) + -(1073741824 * η) := by
  have hN : N = E5 * z - η := by omega
  subst hE hN
  clear hz
  grind
/-- The facts of the sum of squares, from those of the two values. -/
theorem wave_sum {x y z z' s η η' ε e0 N N' A B er q K E5 E6 : Int} (hq : 0 < q) (hE : E6 = 1073741824 * E5) (hE4 : E6 = 4 * q) (hK : 1073741824 * K = 5 * q) (hK0 : 0 ≤ K)
    (hA : A = E6 - N) (hB : B = E6 - N') (hz : E5 * z = N + η) (hz' : E5 * z' = N' + η') (hs : 1073741824 * s = x * (1073741824 - z) + ε)
    (h3 : x * x = 1073741824 * y + e0) (h4 : y * (1073741824 * (A * A)) + (1073741824 * 1073741824 * (B * B) - 1073741824 * 1073741824 * (E6 * E6)) = er)
    (x0 : 0 ≤ x) (x1 : x ≤ 1073741824) (a0 : -(6 * q) ≤ A) (a1 : A ≤ 6 * q) (b0 : -(6 * q) ≤ B) (b1 : B ≤ 6 * q) (η0 : -K ≤ η) (η1 : η ≤ K) (η0' : -K ≤ η') (η1' : η' ≤ K)
    (ε0 : -536870912 ≤ ε) (ε1 : ε ≤ 536870912) (e00 : -1073741824 ≤ 2 * e0) (e01 : 2 * e0 ≤ 1073741824) (er0 : -(16 * 1073741824 * (q * q)) ≤ er) (er1 : er ≤ 16 * 1073741824 * (q * q)) :
    s * s + (1073741824 - z') * (1073741824 - z') - 1073741824 * 1073741824 ≤ 16 * 1073741824 ∧ -(16 * 1073741824) ≤ s * s + (1073741824 - z') * (1073741824 - z') - 1073741824 * 1073741824 := by
  have t1 := bmul (a := x) (P := 1073741824) (by omega) x1 η0 η1
  have h5 : 0 ≤ E5 := by omega
  have t2 := bmul (a := E5) (P := E5) (by omega) (Int.le_refl _) ε0 ε1
  refine circle_sum (u := E5 * ε - x * η) (v := -(1073741824 * η')) (A := A) (B := B) hq (by decide) ?_ ?_ h3 (er := er) (by rw [← hE4]; exact h4) (by omega) x1 a0 a1 b0 b1 (by omega) (by omega) (by omega) (by omega) e00 e01 er0 er1
  · rw [← hE4, hA]; exact sum_sin hE hz hs
  · rw [← hE4, hB]; exact sum_cos hE hz'
def sW (r : Int) : Int := mulV (arcV r) (wrap64 (1073741824 - poly (mulV (arcV r) (arcV r)) 178956971 8947849 213044 2959 27))
def cW (r : Int) : Int := wrap64 (1073741824 - poly (mulV (arcV r) (arcV r)) 536870912 44739243 1491308 26631 296)
theorem waveV_s {r : Int} (h : r ≤ 536870912) : waveV r = sW r := by unfold waveV sW; rw [if_pos h]
theorem waveV_c {r : Int} (h : 536870912 < r) : waveV r = cW (1073741824 - r) := by unfold waveV cW; rw [if_neg (by omega)]
theorem arc_bound {r : Int} (h0 : 0 ≤ r) (h1 : r ≤ 536870912) : 0 ≤ arcV r ∧ arcV r ≤ 843314857 := by
  have e : arcV r = nearest (r * 6746518852) 4294967296 := by
    unfold arcV ratioV ratioQ
    rw [if_neg (by decide), if_neg (by decide)]
    exact (fit_of (by unfold nearest; omega) (by unfold nearest; omega)).1
  rw [e]; unfold nearest; omega
theorem pair_core {x z z' : Int} (x0 : 0 ≤ x) (x1 : x ≤ 843314857)
    (hz : 0 ≤ mulV x x → mulV x x ≤ 662337940 → (0 ≤ z ∧ z ≤ 178956971 ∧ ∃ η, D5 * z = ev (npoly 178956971 8947849 213044 2959 27) (mulV x x) + η ∧ -K5 ≤ η ∧ η ≤ K5))
    (hz' : 0 ≤ mulV x x → mulV x x ≤ 662337940 → (0 ≤ z' ∧ z' ≤ 536870912 ∧ ∃ η, D5 * z' = ev (npoly 536870912 44739243 1491308 26631 296) (mulV x x) + η ∧ -K5 ≤ η ∧ η ≤ K5)) :
    (0 ≤ mulV x (wrap64 (1073741824 - z)) ∧ mulV x (wrap64 (1073741824 - z)) ≤ 1073741824) ∧ (0 ≤ wrap64 (1073741824 - z') ∧ wrap64 (1073741824 - z') ≤ 1073741824) ∧
    mulV x (wrap64 (1073741824 - z)) * mulV x (wrap64 (1073741824 - z)) + wrap64 (1073741824 - z') * wrap64 (1073741824 - z') - 1073741824 * 1073741824 ≤ 16 * 1073741824 ∧
    -(16 * 1073741824) ≤ mulV x (wrap64 (1073741824 - z)) * mulV x (wrap64 (1073741824 - z)) + wrap64 (1073741824 - z') * wrap64 (1073741824 - z') - 1073741824 * 1073741824 := by
  obtain ⟨y0, y1, ε2, l2, u2, k2⟩ := mulV_step (y := x) (t := x) (T := 843314857) x0 (by omega) x0 x1 (by omega)
  have hxx : x * x ≤ 843314857 * 843314857 := Int.mul_le_mul x1 x1 x0 (by omega)
  obtain ⟨y, hy⟩ : ∃ y, y = mulV x x := ⟨_, rfl⟩
  rw [← hy] at hz hz' y0 y1 k2
  have hY : y ≤ 662337940 := by omega
  obtain ⟨p0, p1, η, hz, η0, η1⟩ := hz y0 hY
  obtain ⟨q0, q1, η', hz', η0', η1'⟩ := hz' y0 hY
  rw [wrap64_I (a := 1073741824 - z) ⟨by omega, by omega⟩, wrap64_I (a := 1073741824 - z') ⟨by omega, by omega⟩]
  obtain ⟨s0, s1, ε, l3, u3, k3⟩ := mulV_step (y := x) (t := 1073741824 - z) (T := 1073741824) x0 (by omega) (by omega) (by omega) (by omega)
  refine ⟨⟨s0, s1⟩, ⟨by omega, by omega⟩, ?_⟩
  obtain ⟨A, B, er, q, hA, hB, h4, hE4, hq, bA, bB, bE, hK⟩ := poly_pack y0 hY
  have hK0 : 0 ≤ K5 := by decide +kernel
  have e1 : x * x = 1073741824 * y + -ε2 := by omega
  have e2 : x ≤ 1073741824 := by omega
  have e3 : -1073741824 ≤ 2 * -ε2 := by omega
  have e4 : 2 * -ε2 ≤ 1073741824 := by omega
  exact wave_sum hq D6_eq hE4 hK hK0 hA hB hz hz' k3 e1 h4 x0 e2 bA.1 bA.2 bB.1 bB.2 η0 η1 η0' η1' l3 u3 e3 e4 bE.1 bE.2
theorem wave_pair {r : Int} (h0 : 0 ≤ r) (h1 : r ≤ 536870912) : (0 ≤ sW r ∧ sW r ≤ 1073741824) ∧ (0 ≤ cW r ∧ cW r ≤ 1073741824) ∧
    sW r * sW r + cW r * cW r - 1073741824 * 1073741824 ≤ 16 * 1073741824 ∧ -(16 * 1073741824) ≤ sW r * sW r + cW r * cW r - 1073741824 * 1073741824 := by
  obtain ⟨x0, x1⟩ := arc_bound h0 h1
  exact pair_core x0 x1 (fun y0 hY => poly_spec _ 178956971 8947849 213044 2959 27 y0 hY (by omega) (by omega) (by omega) (by omega) (by omega) (by omega))
    (fun y0 hY => poly_spec _ 536870912 44739243 1491308 26631 296 y0 hY (by omega) (by omega) (by omega) (by omega) (by omega) (by omega))
theorem sW_mid : sW 536870912 = 759250125 := by
  unfold sW
  have h1 : arcV 536870912 = 843314857 := by decide +kernel
  have h2 : mulV 843314857 843314857 = 662337940 := by decide +kernel
  have m1 : mulV 662337940 27 = 17 := by decide +kernel
  have m2 : mulV 662337940 2942 = 1815 := by decide +kernel
  have m3 : mulV 662337940 211229 = 130297 := by decide +kernel
  have m4 : mulV 662337940 8817552 = 5439109 := by decide +kernel
  have m5 : mulV 662337940 173517862 = 107034541 := by decide +kernel
  have m6 : mulV 843314857 966707283 = 759250125 := by decide +kernel
  have w1 : wrap64 (2959 - 17) = 2942 := by decide +kernel
  have w2 : wrap64 (213044 - 1815) = 211229 := by decide +kernel
  have w3 : wrap64 (8947849 - 130297) = 8817552 := by decide +kernel
  have w4 : wrap64 (178956971 - 5439109) = 173517862 := by decide +kernel
  have w5 : wrap64 (1073741824 - 107034541) = 966707283 := by decide +kernel
  unfold poly
  rw [h1, h2, m1, w1, m2, w2, m3, w3, m4, w4, m5, w5, m6]
theorem waveV_bound {r : Int} (h0 : 0 ≤ r) (h1 : r ≤ 1073741824) : 0 ≤ waveV r ∧ waveV r ≤ 1073741824 := by
  rcases Int.lt_or_le 536870912 r with h | h
  · rw [waveV_c h]; exact (wave_pair (by omega) (by omega)).2.1
  · rw [waveV_s h]; exact (wave_pair h0 h).1
theorem waveV_sum {r : Int} (h0 : 0 ≤ r) (h1 : r ≤ 1073741824) :
    waveV r * waveV r + waveV (1073741824 - r) * waveV (1073741824 - r) - 1073741824 * 1073741824 ≤ 16 * 1073741824 ∧ -(16 * 1073741824) ≤ waveV r * waveV r + waveV (1073741824 - r) * waveV (1073741824 - r) - 1073741824 * 1073741824 := by
  rcases Int.lt_trichotomy r 536870912 with h | h | h
  · rw [waveV_s (r := r) (by omega), waveV_c (r := 1073741824 - r) (by omega), show (1073741824 : Int) - (1073741824 - r) = r by omega]
    exact (wave_pair h0 (by omega)).2.2
  · subst h
    rw [show (1073741824 : Int) - 536870912 = 536870912 from rfl, waveV_s (r := 536870912) (by omega), sW_mid]
    decide
  · rw [waveV_c (r := r) h, waveV_s (r := 1073741824 - r) (by omega)]
    have := (wave_pair (r := 1073741824 - r) (by omega) (by omega)).2.2
    rw [Int.add_comm (cW (1073741824 - r) * cW (1073741824 - r))]
    exact this
theorem wrap_neg {r : Int} (h0 : 0 ≤ r) (h1 : r ≤ 1073741824) : wrap64 (-waveV r) = -waveV r := by
  have := waveV_bound h0 h1
  exact wrap64_I ⟨by omega, by omega⟩
theorem sinQ0 (r : Nat) : sinQ 0 r = waveV r := rfl
theorem sinQ1 (r : Nat) : sinQ 1 r = waveV (1073741824 - r) := rfl
theorem sinQ2 {r : Nat} (h : r ≤ 1073741824) : sinQ 2 r = -waveV r := by show wrap64 (-waveV r) = _; exact wrap_neg (by omega) (by omega)
theorem sinQ3 {r : Nat} (h : r ≤ 1073741824) : sinQ 3 r = -waveV (1073741824 - r) := by show wrap64 (-waveV (1073741824 - r)) = _; exact wrap_neg (by omega) (by omega)
theorem sinV_of {t q r : Nat} (h : t = q * 1073741824 + r) (hr : r < 1073741824) : sinV t = sinQ q r := by
  unfold sinV; rw [show t / 1073741824 = q by omega, show t % 1073741824 = r by omega]
theorem sinV_bound {t : Nat} (ht : t < 4294967296) : -1073741824 ≤ sinV t ∧ sinV t ≤ 1073741824 := by
  obtain ⟨r, hr⟩ : ∃ r, r = t % 1073741824 := ⟨_, rfl⟩
  have b1 := waveV_bound (r := r) (by omega) (by omega)
  have b2 := waveV_bound (r := 1073741824 - r) (by omega) (by omega)
  have hq : t / 1073741824 = 0 ∨ t / 1073741824 = 1 ∨ t / 1073741824 = 2 ∨ t / 1073741824 = 3 := by omega
  rcases hq with h | h | h | h
  · rw [sinV_of (q := 0) (r := r) (by omega) (by omega), sinQ0]; omega
  · rw [sinV_of (q := 1) (r := r) (by omega) (by omega), sinQ1]; omega
  · rw [sinV_of (q := 2) (r := r) (by omega) (by omega), sinQ2 (by omega)]; omega
  · rw [sinV_of (q := 3) (r := r) (by omega) (by omega), sinQ3 (by omega)]; omega
/-- The cosine. -/
def cosV (t : Nat) : Int := sinV ((t + 1073741824) % 4294967296)
theorem circle {t : Nat} (ht : t < 4294967296) : sinV t * sinV t + cosV t * cosV t - 1073741824 * 1073741824 ≤ 16 * 1073741824 ∧ -(16 * 1073741824) ≤ sinV t * sinV t + cosV t * cosV t - 1073741824 * 1073741824 := by
  unfold cosV
  obtain ⟨r, hr⟩ : ∃ r, r = t % 1073741824 := ⟨_, rfl⟩
  have h1 := waveV_sum (r := r) (by omega) (by omega)
  have h2 : waveV (1073741824 - r) * waveV (1073741824 - r) + waveV r * waveV r - 1073741824 * 1073741824 ≤ 16 * 1073741824 ∧ -(16 * 1073741824) ≤ waveV (1073741824 - r) * waveV (1073741824 - r) + waveV r * waveV r - 1073741824 * 1073741824 := by
    rw [Int.add_comm (waveV (1073741824 - r) * waveV (1073741824 - r))]; exact h1
  have hq : t / 1073741824 = 0 ∨ t / 1073741824 = 1 ∨ t / 1073741824 = 2 ∨ t / 1073741824 = 3 := by omega
  rcases hq with h | h | h | h
  · rw [sinV_of (t := t) (q := 0) (r := r) (by omega) (by omega), sinV_of (q := 1) (r := r) (by omega) (by omega), sinQ0, sinQ1]; exact h1
  · rw [sinV_of (t := t) (q := 1) (r := r) (by omega) (by omega), sinV_of (q := 2) (r := r) (by omega) (by omega), sinQ1, sinQ2 (by omega), Int.neg_mul_neg]; exact h2
  · rw [sinV_of (t := t) (q := 2) (r := r) (by omega) (by omega), sinV_of (q := 3) (r := r) (by omega) (by omega), sinQ2 (by omega), sinQ3 (by omega), Int.neg_mul_neg, Int.neg_mul_neg]; exact h1
  · rw [sinV_of (t := t) (q := 3) (r := r) (by omega) (by omega), sinV_of (q := 0) (r := r) (by omega) (by omega), sinQ3 (by omega), sinQ0, Int.neg_mul_neg]; exact h2
end Go.Proofs.Ytkmelddejdikgaa
