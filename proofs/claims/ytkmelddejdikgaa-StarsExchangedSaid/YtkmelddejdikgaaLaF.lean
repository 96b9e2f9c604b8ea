/-
  Twelve squarings of a table: the bounds in numbers; the column that is taken.
-/
import Derived.Test.YtkmelddejdikgaaLaE
set_option linter.unusedSimpArgs false
set_option linter.unusedVariables false
namespace Go.Proofs.Ytkmelddejdikgaa.La
open Go.RowKit PM Dt
theorem nextS {D L p b h G K L' p' b' : Int} {S u : Nat → Int} (W : StepN D L p b h G K L' p' b') (hL : 379625063 ≤ L) (hN : 0 < dt u u) (V : StV D L p b S u ∧ bnd S) : StV D L' p' b' (sqrF S) u ∧ bnd (sqrF S) := by
  have t := trq_low V.1 (by omega) hN
  have t2 : 379625063 * 379625063 ≤ L * L := mulm (by omega) hL (by omega) hL
  obtain ⟨s, X, h1, h2, h3, h4, h5, h6⟩ := fixS V.2 V.1.sy (by omega)
  exact ⟨stepS W V.1 hN h1 h6 h2 h3 h4, h5⟩
theorem W0 : StepN 1152921504606846976 1073741724 21474836480 1134765199415806193 6375346422 2616920056065991730843487166949557474 2475880539739426817054478849 545392161 48986832115 1116894833803252643 := ⟨⟨by decide, by decide, by decide, by decide, by decide, by decide, by decide⟩, by decide, by decide, by decide, by decide, by decide, by decide, by decide, by decide⟩
theorem W1 : StepN 1152921504606846976 545392161 48986832115 1116894833803252643 12486466310 2576682075157787171684316600757303148 9596471156595266167599726673 553909110 108929383558 1081993954226730744 := ⟨⟨by decide, by decide, by decide, by decide, by decide, by decide, by decide⟩, by decide, by decide, by decide, by decide, by decide, by decide, by decide, by decide⟩
theorem W2 : StepN 1152921504606846976 553909110 108929383558 1081993954226730744 12108479968 2499938922071764144245618482289086906 9303627835681356387972470066 570913019 223265930815 1015429878409516858 := ⟨⟨by decide, by decide, by decide, by decide, by decide, by decide, by decide⟩, by decide, by decide, by decide, by decide, by decide, by decide, by decide, by decide⟩
theorem W3 : StepN 1152921504606846976 570913019 223265930815 1015429878409516858 11409395248 2360325842509469412834070648578515776 8757687654095067506578850586 604682477 431315687958 894334833034780814 := ⟨⟨by decide, by decide, by decide, by decide, by decide, by decide, by decide⟩, by decide, by decide, by decide, by decide, by decide, by decide, by decide, by decide⟩
theorem W4 : StepN 1152921504606846976 604682477 431315687958 894334833034780814 10211029855 2129062797171464627389216884415034049 7806827412078254629459767349 670364294 776103399885 693746113018042688 := ⟨⟨by decide, by decide, by decide, by decide, by decide, by decide, by decide⟩, by decide, by decide, by decide, by decide, by decide, by decide, by decide, by decide⟩
theorem W5 : StepN 1152921504606846976 670364294 776103399885 693746113018042688 8434484428 1810511671465721098891785268353820060 6351957694676883069047183690 788311782 1251541687586 417447051382405169 := ⟨⟨by decide, by decide, by decide, by decide, by decide, by decide, by decide⟩, by decide, by decide, by decide, by decide, by decide, by decide, by decide, by decide⟩
theorem W6 : StepN 1152921504606846976 788311782 1251541687586 417447051382405169 6413149805 1503490041089302897822121059441356666 4593389890408135822230078737 949289749 1711110057457 151148233749052805 := ⟨⟨by decide, by decide, by decide, by decide, by decide, by decide, by decide⟩, by decide, by decide, by decide, by decide, by decide, by decide, by decide, by decide⟩
theorem W7 : StepN 1152921504606846976 949289749 1711110057457 151148233749052805 4931857095 1352073787523840394109701655745552042 3167610420588466365104225743 1055598961 1940368784570 19815567895013291 := ⟨⟨by decide, by decide, by decide, by decide, by decide, by decide, by decide⟩, by decide, by decide, by decide, by decide, by decide, by decide, by decide, by decide⟩
theorem W8 : StepN 1152921504606846976 1055598961 1940368784570 19815567895013291 4370054800 1329620655085166507862645782458850494 2561718691450120618971685437 1073424725 1978088480159 340579799246021 := ⟨⟨by decide, by decide, by decide, by decide, by decide, by decide, by decide⟩, by decide, by decide, by decide, by decide, by decide, by decide, by decide, by decide⟩
theorem W9 : StepN 1152921504606846976 1073424725 1978088480159 340579799246021 4296236446 1329228114264684283085022988216731480 2477343087650573922778723901 1073741724 1982969062976 104908908234 := ⟨⟨by decide, by decide, by decide, by decide, by decide, by decide, by decide⟩, by decide, by decide, by decide, by decide, by decide, by decide, by decide, by decide⟩
theorem W10 : StepN 1152921504606846976 1073741724 1982969062976 104908908234 4294967701 1329227998268671751131700558075775333 2475880539739426817054478849 1073741817 1987264218519 4298387874 := ⟨⟨by decide, by decide, by decide, by decide, by decide, by decide, by decide⟩, by decide, by decide, by decide, by decide, by decide, by decide, by decide, by decide⟩
theorem W11 : StepN 1152921504606846976 1073741817 1987264218519 4298387874 4294967329 1329227998268694440380920233665753951 2475880110852562994470062777 1073741817 1991559200677 4298392763 := ⟨⟨by decide, by decide, by decide, by decide, by decide, by decide, by decide⟩, by decide, by decide, by decide, by decide, by decide, by decide, by decide, by decide⟩
theorem iter12 {S u : Nat → Int} (hN : 0 < dt u u) (V : StV 1152921504606846976 1073741724 21474836480 1134765199415806193 S u ∧ bnd S) : StV 1152921504606846976 1073741817 1991559200677 4298392763 (itrF S 12) u ∧ bnd (itrF S 12) := by
  have V1 := nextS W0 (by decide) hN V
  have V2 := nextS W1 (by decide) hN V1
  have V3 := nextS W2 (by decide) hN V2
  have V4 := nextS W3 (by decide) hN V3
  have V5 := nextS W4 (by decide) hN V4
  have V6 := nextS W5 (by decide) hN V5
  have V7 := nextS W6 (by decide) hN V6
  have V8 := nextS W7 (by decide) hN V7
  have V9 := nextS W8 (by decide) hN V8
  have V10 := nextS W9 (by decide) hN V9
  have V11 := nextS W10 (by decide) hN V10
  have V12 := nextS W11 (by decide) hN V11
  exact V12
theorem trace_Tn (S u : Nat → Int) : Tn S u 0 0 + Tn S u 1 1 + Tn S u 2 2 + Tn S u 3 3 = dt u u * (S 0 + S 5 + S 10 + S 15) := by
  simp only [Tn, dt, ap4, En, Nat.zero_mul, Nat.zero_add, Nat.one_mul, Nat.reduceMul, Nat.reduceAdd]
  generalize u 0 = a0; generalize u 1 = a1; generalize u 2 = a2; generalize u 3 = a3
  grind
/-- The coordinates of an axis. -/
def ax (b : Nat) : Nat → Int := fun i => if i = b then 1 else 0
theorem dt_ax (v : Nat → Int) {b : Nat} (hb : b < 4) : dt v (ax b) = v b := by
  rcases (show b = 0 ∨ b = 1 ∨ b = 2 ∨ b = 3 by omega) with rfl | rfl | rfl | rfl <;> simp [dt, ax]
theorem ax_dt {b : Nat} (hb : b < 4) : dt (ax b) (ax b) = 1 := by rw [dt_ax _ hb]; simp [ax]
/-- A column's coordinates. -/
theorem col_at {S : Nat → Int} (sy : sym S) (u : Nat → Int) {b : Nat} (hb : b < 4) (a : Nat) : dt (colF S b) (En u a) = ap4 S (En u a) b := by
  have e : ∀ i, i < 4 → colF S b i = S (b * 4 + i) := fun i hi => by
    rw [sym_at sy hb hi]
    rcases (show i = 0 ∨ i = 1 ∨ i = 2 ∨ i = 3 by omega) with rfl | rfl | rfl | rfl <;> simp [colF]
  rw [dt_congr e]
  rfl
theorem col_co (S u : Nat → Int) {b : Nat} (hb : b < 4) (a : Nat) : dt u u * ap4 S (En u a) b = Tn S u a 0 * En u 0 b + Tn S u a 1 * En u 1 b + Tn S u a 2 * En u 2 b + Tn S u a 3 * En u 3 b := by
  have := compl u (ap4 S (En u a)) (ax b)
  rw [dt_ax _ hb, dt_comm (ax b), dt_comm (ax b), dt_comm (ax b), dt_comm (ax b), dt_ax _ hb, dt_ax _ hb, dt_ax _ hb, dt_ax _ hb] at this
  exact this
theorem ax_co (u : Nat → Int) {b : Nat} (hb : b < 4) : dt u u = En u 0 b * En u 0 b + En u 1 b * En u 1 b + En u 2 b * En u 2 b + En u 3 b * En u 3 b := by
  have := compl u (ax b) (ax b)
  rw [ax_dt hb, dt_comm (ax b), dt_comm (ax b), dt_comm (ax b), dt_comm (ax b), dt_ax _ hb, dt_ax _ hb, dt_ax _ hb, dt_ax _ hb] at this
  omega
/-- The greatest entry on the diagonal. -/
theorem bst_max (s : Nat → Int) : ∀ n, n ≤ 4 → ∀ k, k < n → s (k * 5) ≤ s (bstF s n * 5)
  | 0, _, k, hk => by omega
  | n + 1, hn, k, hk => by
    have ih := bst_max s n (by omega)
    unfold bstF
    split
    · rename_i h
      by_cases e : k = n
      · subst e; exact Int.le_refl _
      · have := ih k (by omega); omega
    · rename_i h
      by_cases e : k = n
      · subst e; omega
      · exact ih k (by omega)
theorem abs_sq (x : Int) : (x.natAbs : Int) * x.natAbs = x * x := Int.natAbs_mul_self
/-- The column that is taken lies along the quaternion. -/
theorem col_fin {S u : Nat → Int} {D L p b : Int} (hD : 0 < D) (hL : 0 < L) (hp : 0 ≤ p) (hb : 0 ≤ b) (hsm : 100 * (2 * p + 2 * b) ≤ D) (hN : 0 < dt u u) (V : StV D L p b S u) {B : Nat} (hB : B < 4) (hmax : ∀ k, k < 4 → S (k * 5) ≤ S (B * 5)) :
    0 < dt (colF S B) (colF S B) ∧ NB 3 (fun j => (D - 3 * p) * dt (colF S B) (En u (j + 1))) ((p + 3 * b) * (dt (colF S B) (En u 0)).natAbs) := by
  have sy := V.sy
  have l0 := V.l0
  have hr := V.r
  have hBB := V.B
  have hl : 0 < Tn S u 0 0 := by have := Int.mul_pos hL hN; omega
  have cc : ∀ a, dt u u * dt (colF S B) (En u a) = Tn S u a 0 * En u 0 B + Tn S u a 1 * En u 1 B + Tn S u a 2 * En u 2 B + Tn S u a 3 * En u 3 B := fun a => by rw [col_at sy u hB, col_co S u hB]
  have hx := ax_co u hB
  have e5 : S (B * 5) = ap4 S (ax B) B := by
    have : ∀ c, c < 4 → ap4 S (ax c) c = S (c * 5) := fun c hc => by
      rcases (show c = 0 ∨ c = 1 ∨ c = 2 ∨ c = 3 by omega) with rfl | rfl | rfl | rfl <;> simp [ap4, ax]
    exact (this B hB).symm
  have e6 : dt u u * S (B * 5) = En u 0 B * dt (colF S B) (En u 0) + En u 1 B * dt (colF S B) (En u 1) + En u 2 B * dt (colF S B) (En u 2) + En u 3 B * dt (colF S B) (En u 3) := by
    have := compl u (ap4 S (ax B)) (ax B)
    rw [dt_ax _ hB, ← e5] at this
    rw [this]
    have q : ∀ a, dt (ap4 S (ax B)) (En u a) = dt (colF S B) (En u a) := fun a => by rw [ap4_sym sy, dt_comm, dt_ax _ hB, col_at sy u hB]
    rw [q, q, q, q, dt_comm (ax B), dt_comm (ax B), dt_comm (ax B), dt_comm (ax B), dt_ax _ hB, dt_ax _ hB, dt_ax _ hB, dt_ax _ hB]
    grind
  have tr := trace_Tn S u
  have m0 := hmax 0 (by omega); have m1 := hmax 1 (by omega); have m2 := hmax 2 (by omega); have m3 := hmax 3 (by omega)
  -- names
  have n1 := hBB.at (i := 0) (by omega)
  have n2 := hBB.at (i := 4) (by omega)
  have n3 := hBB.at (i := 8) (by omega)
  simp only [Nat.reduceDiv, Nat.reduceMod, Nat.reduceAdd, Nat.zero_mul, Nat.reduceMul] at n1 n2 n3 m0 m1 m2 m3
  have hxv : NB 3 (fun j => En u (j + 1) B) 0 ∨ True := .inr trivial
  have c0 := cc 0
  obtain ⟨y0, hy0⟩ : ∃ y0, dt (colF S B) (En u 0) = y0 := ⟨_, rfl⟩
  obtain ⟨x0, hx0⟩ : ∃ x0, En u 0 B = x0 := ⟨_, rfl⟩
  obtain ⟨N, hNN⟩ : ∃ N, dt u u = N := ⟨_, rfl⟩
  obtain ⟨l, hll⟩ : ∃ l, Tn S u 0 0 = l := ⟨_, rfl⟩
  rw [hll] at hr hBB hl l0 c0 tr n1 n2 n3
  rw [hNN] at hN l0 c0 e6 tr hx
  rw [hx0] at hx c0 e6
  rw [hy0] at c0 e6
  have sx := sqn x0
  have s1 := sqn (En u 1 B); have s2 := sqn (En u 2 B); have s3 := sqn (En u 3 B)
  -- the products with the rest
  have hxx : sm 3 (fun j => En u (j + 1) B * En u (j + 1) B) = N - x0 * x0 := by simp only [sm, Nat.reduceAdd]; omega
  have rx2 := cs 3 (fun j => D * Tn S u 0 (j + 1)) (fun j => En u (j + 1) B)
  have erx : sm 3 (fun j => D * Tn S u 0 (j + 1) * En u (j + 1) B) = D * (N * y0 - l * x0) := by
    rw [c0]; simp only [sm, Nat.reduceAdd]; grind
  rw [erx, hxx] at rx2
  have rx3 : (D * (N * y0 - l * x0)) * (D * (N * y0 - l * x0)) ≤ (p * l) * (p * l) * (N - x0 * x0) := Int.le_trans rx2 (Int.mul_le_mul_of_nonneg_right hr.2 (by omega))
  obtain ⟨t, ht⟩ : ∃ t, N * y0 - l * x0 = t := ⟨_, rfl⟩
  rw [ht] at rx3
  have hpl : 0 ≤ p * l := hr.1
  have hbl : 0 ≤ b * l := hBB.1
  -- x0 times the rest
  have k1 : -(p * l * N) ≤ D * (x0 * t) ∧ D * (x0 * t) ≤ p * l * N := by
    have a1 : (D * t) * (D * t) * (x0 * x0) ≤ (p * l) * (p * l) * (N * N) := by
      have b1 : (D * t) * (D * t) ≤ (p * l) * (p * l) * N := by
        have : (p * l) * (p * l) * (N - x0 * x0) ≤ (p * l) * (p * l) * N := Int.mul_le_mul_of_nonneg_left (by omega) (sqn _)
        omega
      have b2 := mulm (sqn (D * t)) b1 sx (show x0 * x0 ≤ N by omega)
      have e1 : p * l * (p * l) * N * N = p * l * (p * l) * (N * N) := by grind
      omega
    have e1 : (D * (x0 * t)) * (D * (x0 * t)) = (D * t) * (D * t) * (x0 * x0) := by grind
    have e2 : (p * l * N) * (p * l * N) = (p * l) * (p * l) * (N * N) := by grind
    have h0 : 0 ≤ p * l * N := Int.mul_nonneg hpl (by omega)
    constructor
    · have := le_of_sq (x := -(D * (x0 * t))) h0 (by rw [Int.neg_mul_neg]; omega)
      omega
    · exact le_of_sq h0 (by omega)
  -- the other block
  have hX3 : ∀ a : Int, 0 ≤ a → N - x0 * x0 ≤ a * a → NB 3 (fun j => En u (j + 1) B) a := fun a ha h => ⟨ha, by rw [hxx]; exact h⟩
  have k2 : D * (N * (N * S (B * 5))) ≤ D * (l * (x0 * x0)) + 2 * (p * l * N) + b * l * N := by
    have c1 := cc 1; have c2 := cc 2; have c3 := cc 3
    rw [hNN] at c1 c2 c3
    have e1 : N * (N * S (B * 5)) = x0 * (N * y0) + En u 1 B * (N * dt (colF S B) (En u 1)) + En u 2 B * (N * dt (colF S B) (En u 2)) + En u 3 B * (N * dt (colF S B) (En u 3)) := by rw [e6]; grind
    have q1 := Tn_comm sy u 1 0; have q2 := Tn_comm sy u 2 0; have q3 := Tn_comm sy u 3 0
    rw [c1, c2, c3, q1, q2, q3, hx0] at e1
    -- x' B x'
    have f1 := dot_le (n := 9) hBB (w := fun i => En u (i / 3 + 1) B * En u (i % 3 + 1) B) (b := N) ⟨by omega, by
      have : sm 9 (fun i => En u (i / 3 + 1) B * En u (i % 3 + 1) B * (En u (i / 3 + 1) B * En u (i % 3 + 1) B)) = (N - x0 * x0) * (N - x0 * x0) := by
        rw [← hxx]; simp only [sm, Nat.reduceDiv, Nat.reduceMod, Nat.reduceAdd]; grind
      rw [this]
      exact mulm (by omega) (by omega) (by omega) (by omega)⟩
    have f2 : sm 9 (fun i => D * Tn S u (i / 3 + 1) (i % 3 + 1) * (En u (i / 3 + 1) B * En u (i % 3 + 1) B)) = D * (N * (N * S (B * 5)) - x0 * (N * y0) - x0 * t) := by
      rw [e1, ← ht, c0]; simp only [sm, Nat.reduceDiv, Nat.reduceMod, Nat.reduceAdd]; grind
    rw [f2] at f1
    have e3 : D * (N * (N * S (B * 5)) - x0 * (N * y0) - x0 * t) = D * (N * (N * S (B * 5))) - D * (l * (x0 * x0)) - 2 * (D * (x0 * t)) := by
      have : N * y0 = l * x0 + t := by omega
      rw [this]; grind
    omega
  -- the greatest entry
  have k3 : D * (N * l) - 3 * (b * l * N) ≤ 4 * (D * (N * (N * S (B * 5)))) := by
    have f1 : N * (S 0 + S 5 + S 10 + S 15) ≤ 4 * (N * S (B * 5)) := by
      have : N * (S 0 + S 5 + S 10 + S 15) ≤ N * (4 * S (B * 5)) := Int.mul_le_mul_of_nonneg_left (by omega) (by omega)
      have e : N * (4 * S (B * 5)) = 4 * (N * S (B * 5)) := by grind
      omega
    rw [← tr] at f1
    have f2 : D * (l + Tn S u 1 1 + Tn S u 2 2 + Tn S u 3 3) ≤ D * (4 * (N * S (B * 5))) := Int.mul_le_mul_of_nonneg_left f1 (by omega)
    have f3 : D * l - 3 * (b * l) ≤ D * (4 * (N * S (B * 5))) := by
      have e : D * (l + Tn S u 1 1 + Tn S u 2 2 + Tn S u 3 3) = D * l + D * Tn S u 1 1 + D * Tn S u 2 2 + D * Tn S u 3 3 := by grind
      omega
    have f4 := Int.mul_le_mul_of_nonneg_left f3 (show 0 ≤ N by omega)
    have e1 : N * (D * l - 3 * (b * l)) = D * (N * l) - 3 * (b * l * N) := by grind
    have e2 : N * (D * (4 * (N * S (B * 5)))) = 4 * (D * (N * (N * S (B * 5)))) := by grind
    omega
  have k4 : N ≤ 5 * (x0 * x0) := by
    have f1 : (l * N) * (D - 8 * p - 7 * b) ≤ 4 * (D * l * (x0 * x0)) := by
      have e1 : (l * N) * (D - 8 * p - 7 * b) = D * (N * l) - 8 * (p * l * N) - 7 * (b * l * N) := by grind
      have e2 : 4 * (D * l * (x0 * x0)) = 4 * (D * (l * (x0 * x0))) := by grind
      omega
    have f2 : (l * N) * (4 * D) ≤ (l * N) * (5 * (D - 8 * p - 7 * b)) := Int.mul_le_mul_of_nonneg_left (by omega) (Int.mul_nonneg (by omega) (by omega))
    have e3 : (l * N) * (5 * (D - 8 * p - 7 * b)) = 5 * ((l * N) * (D - 8 * p - 7 * b)) := by grind
    apply le_cancel (show 0 < 4 * (D * l) from by have := Int.mul_pos hD hl; omega)
    have e4 : 4 * (D * l) * N = (l * N) * (4 * D) := by grind
    have e5' : 4 * (D * l) * (5 * (x0 * x0)) = 5 * (4 * (D * l * (x0 * x0))) := by grind
    omega
  have hx1 : 0 < x0 * x0 := by omega
  obtain ⟨A, hA⟩ : ∃ A : Int, A = x0.natAbs := ⟨_, rfl⟩
  have hA2 : A * A = x0 * x0 := by rw [hA]; exact abs_sq x0
  have hA0 : 0 < A := by
    have h0 : 0 ≤ A := by omega
    rcases Int.lt_or_le 0 A with h | h
    · exact h
    · have : A = 0 := by omega
      rw [this] at hA2; omega
  obtain ⟨Y, hY⟩ : ∃ Y : Int, Y = y0.natAbs := ⟨_, rfl⟩
  have hY2 : Y * Y = y0 * y0 := by rw [hY]; exact abs_sq y0
  have hxA : NB 3 (fun j => En u (j + 1) B) (3 * A) := hX3 _ (by omega) (by
    have : 3 * A * (3 * A) = 9 * (A * A) := by grind
    omega)
  -- the scalar is great
  have k5 : (D - 3 * p) * (l * A) ≤ D * (N * Y) := by
    have f0 := dot_le hr hxA
    rw [erx, ht] at f0
    have f1 : -(p * l * (3 * A)) ≤ D * t ∧ D * t ≤ p * l * (3 * A) := f0
    have e1 : D * (N * y0) = D * (l * x0) + D * t := by rw [← ht]; grind
    have eA : x0 = A ∨ x0 = -A := by omega
    have eY : y0 = Y ∨ y0 = -Y := by omega
    have g1 : (D - 3 * p) * (l * A) = D * (l * A) - p * l * (3 * A) := by grind
    have hY0 : 0 ≤ D * (N * Y) := Int.mul_nonneg (by omega) (Int.mul_nonneg (by omega) (by omega))
    rcases eA with h | h <;> rcases eY with h' | h' <;> rw [h, h'] at e1
    · omega
    · have e2 : D * (N * -Y) = -(D * (N * Y)) := by grind
      omega
    · have e2 : D * (l * -A) = -(D * (l * A)) := by grind
      omega
    · have e2 : D * (l * -A) = -(D * (l * A)) := by grind
      have e3 : D * (N * -Y) = -(D * (N * Y)) := by grind
      omega
  refine ⟨?_, ?_⟩
  · -- the column is not zero
    have f := compl u (colF S B) (colF S B)
    rw [hNN, hy0] at f
    have hq : 0 < Y := by
      rcases Int.lt_or_le 0 Y with h | h
      · exact h
      · have : Y = 0 := by omega
        rw [this, Int.mul_zero, Int.mul_zero] at k5
        have : 0 < (D - 3 * p) * (l * A) := Int.mul_pos (by omega) (Int.mul_pos hl hA0)
        omega
    have g1 := Int.mul_pos hq hq
    have g2 := sqn (dt (colF S B) (En u 1)); have g3 := sqn (dt (colF S B) (En u 2)); have g4 := sqn (dt (colF S B) (En u 3))
    have g5 : 0 < N * dt (colF S B) (colF S B) := by omega
    rcases Int.lt_or_le 0 (dt (colF S B) (colF S B)) with h | h
    · exact h
    · have := Int.mul_le_mul_of_nonneg_left h (show 0 ≤ N by omega)
      rw [Int.mul_zero] at this; omega
  · have f1 : NB 3 (fun j => D * N * dt (colF S B) (En u (j + 1))) ((p + 3 * b) * (l * A)) := by
      have g1 := (hr.mul (c := A) (by omega))
      have g2 := NB.app hBB hxA
      have g1' : NB 3 (fun j => x0 * (D * Tn S u 0 (j + 1))) (A * (p * l)) := by
        rcases (show x0 = A ∨ x0 = -A by omega) with h | h
        · rw [h]; exact g1
        · rw [h]; exact g1.neg.congr fun j _ => by grind
      refine ((g1'.add g2).congr fun j hj => ?_).mono ?_
      · have c := cc (j + 1)
        rw [hNN, hx0, Tn_comm sy u (j + 1) 0] at c
        have e : D * N * dt (colF S B) (En u (j + 1)) = D * (N * dt (colF S B) (En u (j + 1))) := by grind
        rw [e, c]
        have d1 : ∀ k, k < 3 → (j * 3 + k) / 3 = j := fun k hk => by omega
        have d2 : ∀ k, k < 3 → (j * 3 + k) % 3 = k := fun k hk => by omega
        have d10 := d1 0 (by omega); have d20 := d2 0 (by omega)
        rw [Nat.add_zero] at d10 d20
        simp only [sm, d10, d20, d1 0 (by omega), d1 1 (by omega), d1 2 (by omega), d2 0 (by omega), d2 1 (by omega), d2 2 (by omega), Nat.reduceAdd]
        grind
      · have : (p + 3 * b) * (l * A) = A * (p * l) + b * l * (3 * A) := by grind
        omega
    rw [hy0, ← hY]
    have hDN : 0 < D * N := Int.mul_pos hD hN
    refine NB.cancel hDN ((f1.mul (c := D - 3 * p) (by omega)).congr (fun j _ => by grind) |>.mono ?_)
    have g1 := Int.mul_le_mul_of_nonneg_left k5 (show 0 ≤ p + 3 * b by omega)
    have g2 : (D - 3 * p) * ((p + 3 * b) * (l * A)) = (p + 3 * b) * ((D - 3 * p) * (l * A)) := by grind
    have g3 : D * N * ((p + 3 * b) * Y) = (p + 3 * b) * (D * (N * Y)) := by grind
    omega
end Go.Proofs.Ytkmelddejdikgaa.La
