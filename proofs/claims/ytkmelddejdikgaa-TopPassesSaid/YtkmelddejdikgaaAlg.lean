/-
  Plain laws on products and quotients: Mul commutes, One is neutral, signs, and the way back from a quotient. No program in sight. Sums of products and their two's complement in 192 bits. No program in sight. Polynomials with integer coefficients as lists, and the sum of the squares of two of them with the errors of rounding. No program in sight.
-/
import Derived.Test.YtkmelddejdikgaaBase
set_option linter.unusedSimpArgs false
set_option linter.unusedVariables false
namespace Go.Proofs.Ytkmelddejdikgaa.PM
theorem ratioV_M (a b : Int) : ratioV a b 1073741824 = fitV (rnd (a * b)) := by
  unfold ratioV ratioQ; rw [if_neg (by decide), if_neg (by decide), nearest_one]
theorem inI_iff (q : Int) : inI q = true ↔ (-9223372036854775808 ≤ q ∧ q ≤ 9223372036854775807) := by
  unfold inI; rw [Bool.and_eq_true, decide_eq_true_eq, decide_eq_true_eq]
theorem fit_of {q : Int} (h1 : -9223372036854775808 ≤ q) (h2 : q ≤ 9223372036854775807) : fitV q = q ∧ fitE q = 0 := by
  have h : inI q = true := (inI_iff q).2 ⟨h1, h2⟩
  unfold fitV fitE; rw [h]; exact ⟨rfl, rfl⟩
end Go.Proofs.Ytkmelddejdikgaa.PM
namespace Go.Proofs.Ytkmelddejdikgaa.PM
/-- The sum of the products. -/
def dotS : List Int → List Int → Int
  | x :: xs, y :: ys => x * y + dotS xs ys
  | _, _ => 0
theorem dotS_nil (ys : List Int) : dotS [] ys = 0 := by cases ys <;> rfl
theorem dotS_cons (x y : Int) (xs ys : List Int) : dotS (x :: xs) (y :: ys) = x * y + dotS xs ys := rfl
theorem dotS_take_succ : ∀ (xs ys : List Int) (k : Nat), k < xs.length → k < ys.length → dotS (xs.take (k + 1)) (ys.take (k + 1)) = dotS (xs.take k) (ys.take k) + xs.getD k 0 * ys.getD k 0
  | [], _, k, h, _ => absurd h (by simp)
  | _ :: _, [], k, _, h => absurd h (by simp)
  | x :: xs, y :: ys, 0, _, _ => by simp [dotS]
  | x :: xs, y :: ys, k + 1, h, h' => by
    have := dotS_take_succ xs ys k (by simpa using h) (by simpa using h')
    simp only [List.take_succ_cons, dotS, this, List.getD_cons_succ]
    omega
/-- A sum of 192 bits: what the words say of the number. -/
theorem wide_words {T w0 w1 w2 n h s : Int} (t0 : -1569275433846670190958947355801916604025588861116008628224 ≤ T) (t1 : T < 1569275433846670190958947355801916604025588861116008628224)
    (h0 : 0 ≤ w0 ∧ w0 < 18446744073709551616) (h1 : 0 ≤ w1 ∧ w1 < 18446744073709551616) (h2 : 0 ≤ w2 ∧ w2 < 18446744073709551616)
    (hW : w0 + w1 * 18446744073709551616 + w2 * 340282366920938463463374607431768211456 = T % 6277101735386680763835789423207666416102355444464034512896)
    (hn : n = (w0 / 1073741824 + w1 % 1073741824 * 17179869184 + 9223372036854775808) % 18446744073709551616 - 9223372036854775808)
    (hh : h = (w1 / 1073741824 + w2 % 1073741824 * 17179869184 + 9223372036854775808) % 18446744073709551616 - 9223372036854775808)
    (hs : s = ((w2 + 9223372036854775808) % 18446744073709551616 - 9223372036854775808) / 1073741824) :
    (inI (T / 1073741824) = true ∧ n = T / 1073741824 ∧ h = n / 9223372036854775808 ∧ s = n / 9223372036854775808) ∨
    (inI (T / 1073741824) = false ∧ (h ≠ n / 9223372036854775808 ∨ s ≠ n / 9223372036854775808)) := by
  obtain ⟨q, hq⟩ : ∃ q, q = T / 1073741824 := ⟨_, rfl⟩
  obtain ⟨H, hH⟩ : ∃ H, H = T / 19807040628566084398385987584 := ⟨_, rfl⟩
  have e1 : s = T / 365375409332725729550921208179070754913983135744 := by omega
  have e2 : H % 18446744073709551616 = w1 / 1073741824 + w2 % 1073741824 * 17179869184 := by omega
  have e3 : q % 18446744073709551616 = w0 / 1073741824 + w1 % 1073741824 * 17179869184 := by omega
  have e4 : H = q / 18446744073709551616 := by omega
  have e5 : s = H / 18446744073709551616 := by omega
  rw [← e3] at hn
  rw [← e2] at hh
  rw [← hq]
  clear hW e1 e2 e3 h0 h1 h2 t0 t1 hs hH hq
  cases hi : inI q with
  | true =>
    have := (inI_iff _).1 hi
    left
    refine ⟨rfl, ?_, ?_, ?_⟩ <;> omega
  | false =>
    right
    refine ⟨rfl, ?_⟩
    have hno : ¬ (-9223372036854775808 ≤ q ∧ q ≤ 9223372036854775807) := fun h => by
      rw [(inI_iff _).2 h] at hi; cases hi
    omega
end Go.Proofs.Ytkmelddejdikgaa.PM
namespace Go.Proofs.Ytkmelddejdikgaa.PM
def ev : List Int → Int → Int
  | [], _ => 0
  | a :: l, y => a + y * ev l y
def padd : List Int → List Int → List Int
  | [], m => m
  | a :: l, [] => a :: l
  | a :: l, b :: m => (a + b) :: padd l m
def psmul (c : Int) : List Int → List Int
  | [] => []
  | a :: l => (c * a) :: psmul c l
def pmul : List Int → List Int → List Int
  | [], _ => []
  | a :: l, m => padd (psmul a m) (0 :: pmul l m)
def pabs : List Int → List Int
  | [] => []
  | a :: l => (a.natAbs : Int) :: pabs l
theorem ev_padd (y : Int) : ∀ l m, ev (padd l m) y = ev l y + ev m y
  | [], m => by simp [padd, ev]
  | a :: l, [] => by simp [padd, ev]
  | a :: l, b :: m => by
    have ih := ev_padd y l m
    simp only [padd, ev]; rw [ih, Int.mul_add]; omega
theorem ev_psmul (c y : Int) : ∀ l, ev (psmul c l) y = c * ev l y
  | [] => by simp [psmul, ev]
  | a :: l => by
    have ih := ev_psmul c y l
    simp only [psmul, ev]; rw [ih, Int.mul_add]
    congr 1
    exact Int.mul_left_comm _ _ _
theorem ev_pmul (y : Int) : ∀ l m, ev (pmul l m) y = ev l y * ev m y
  | [], m => by simp [pmul, ev]
  | a :: l, m => by
    have ih := ev_pmul y l m
    simp only [pmul, ev]; rw [ev_padd, ev_psmul]; simp only [ev]; rw [ih, Int.add_mul, Int.zero_add, Int.mul_assoc]
theorem bmul {a b P R : Int} (h1 : -P ≤ a) (h2 : a ≤ P) (h3 : -R ≤ b) (h4 : b ≤ R) : -(P * R) ≤ a * b ∧ a * b ≤ P * R := by
  have k : (a.natAbs * b.natAbs : Nat) ≤ P.natAbs * R.natAbs := Nat.mul_le_mul (by omega) (by omega)
  have e1 : ((P.natAbs * R.natAbs : Nat) : Int) = P * R := by
    rw [Int.natCast_mul, Int.natAbs_of_nonneg (show 0 ≤ P by omega), Int.natAbs_of_nonneg (show 0 ≤ R by omega)]
  have e2 : (a * b).natAbs = a.natAbs * b.natAbs := Int.natAbs_mul a b
  omega
theorem ev_le {y Y : Int} (h0 : 0 ≤ y) (h1 : y ≤ Y) : ∀ l, -(ev (pabs l) Y) ≤ ev l y ∧ ev l y ≤ ev (pabs l) Y
  | [] => by simp [pabs, ev]
  | a :: l => by
    obtain ⟨i1, i2⟩ := ev_le h0 h1 l
    simp only [pabs, ev]
    have := bmul (show -Y ≤ y by omega) h1 i1 i2
    omega
/-- A round of Horner's scheme with rounding. -/
theorem horner {P z z' y c η H Y : Int} {n : List Int} (h : P * z = ev n y + η) (h1 : -H ≤ η) (h2 : η ≤ H) (hs : ∃ ε, -536870912 ≤ ε ∧ ε ≤ 536870912 ∧ 1073741824 * z' = y * (c - z) + ε)
    (hy : 0 ≤ y) (hY : y ≤ Y) (hP : 0 ≤ P) :
    ∃ η', (1073741824 * P) * z' = ev (0 :: padd [c * P] (psmul (-1) n)) y + η' ∧ -(P * 536870912 + Y * H) ≤ η' ∧ η' ≤ P * 536870912 + Y * H := by
  obtain ⟨ε, e1, e2, e3⟩ := hs
  refine ⟨P * ε - y * η, ?_, ?_⟩
  · simp only [ev]
    rw [ev_padd, ev_psmul]
    simp only [ev]
    have : 1073741824 * P * z' = P * (1073741824 * z') := by rw [Int.mul_comm 1073741824 P, Int.mul_assoc]
    rw [this, e3]
    generalize ev n y = N at *
    grind
  · have b1 := bmul (show -P ≤ P by omega) (Int.le_refl P) e1 e2
    have b2 := bmul (show -Y ≤ y by omega) hY h1 h2
    omega
/-- The polynomial of five terms, times 2^150. -/
def npoly (a b c d e : Int) : List Int :=
  0 :: padd [a * (1073741824 * (1073741824 * (1073741824 * (1073741824 * 1))))] (psmul (-1) (0 :: padd [b * (1073741824 * (1073741824 * (1073741824 * 1)))] (psmul (-1) (0 :: padd [c * (1073741824 * (1073741824 * 1))] (psmul (-1) (0 :: padd [d * (1073741824 * 1)] (psmul (-1) (0 :: padd [e * 1] (psmul (-1) [])))))))))
def D5 : Int := 1427247692705959881058285969449495136382746624
def K5 : Int := 5 * 356811923176489970264571492362373784095686656
def D6 : Int := 1532495540865888858358347027150309183618739122183602176
def pSin : List Int := padd [D6] (psmul (-1) (npoly 178956971 8947849 213044 2959 27))
def pCos : List Int := padd [D6] (psmul (-1) (npoly 536870912 44739243 1491308 26631 296))
def pErr : List Int := padd (0 :: psmul 1073741824 (pmul pSin pSin)) (padd (psmul (1073741824 * 1073741824) (pmul pCos pCos)) [-(1073741824 * 1073741824 * (D6 * D6))])
theorem pSin_le : ev (pabs pSin) 662337940 ≤ 6 * (D6 / 4) := by decide +kernel
theorem pCos_le : ev (pabs pCos) 662337940 ≤ 6 * (D6 / 4) := by decide +kernel
theorem pErr_le : ev (pabs pErr) 662337940 ≤ 16 * 1073741824 * ((D6 / 4) * (D6 / 4)) := by decide +kernel
theorem pErr_ev (y : Int) : ev pErr y = y * (1073741824 * (ev pSin y * ev pSin y)) + (1073741824 * 1073741824 * (ev pCos y * ev pCos y) - 1073741824 * 1073741824 * (D6 * D6)) := by
  unfold pErr
  rw [ev_padd, ev_padd, ev_psmul, ev_pmul]
  simp only [ev]
  rw [ev_psmul, ev_pmul]
  omega
theorem poly_pack {y : Int} (h0 : 0 ≤ y) (h1 : y ≤ 662337940) : ∃ A B er q : Int, A = D6 - ev (npoly 178956971 8947849 213044 2959 27) y ∧ B = D6 - ev (npoly 536870912 44739243 1491308 26631 296) y ∧
    y * (1073741824 * (A * A)) + (1073741824 * 1073741824 * (B * B) - 1073741824 * 1073741824 * (D6 * D6)) = er ∧ D6 = 4 * q ∧ 0 < q ∧
    (-(6 * q) ≤ A ∧ A ≤ 6 * q) ∧ (-(6 * q) ≤ B ∧ B ≤ 6 * q) ∧ (-(16 * 1073741824 * (q * q)) ≤ er ∧ er ≤ 16 * 1073741824 * (q * q)) ∧ 1073741824 * K5 = 5 * q := by
  refine ⟨ev pSin y, ev pCos y, ev pErr y, D6 / 4, ?_, ?_, (pErr_ev y).symm, by decide +kernel, by decide +kernel, ?_, ?_, ?_, by decide +kernel⟩
  · unfold pSin; rw [ev_padd, ev_psmul, Int.neg_mul, Int.one_mul]
    show D6 + y * 0 + _ = _
    rw [Int.mul_zero, Int.add_zero]; rfl
  · unfold pCos; rw [ev_padd, ev_psmul, Int.neg_mul, Int.one_mul]
    show D6 + y * 0 + _ = _
    rw [Int.mul_zero, Int.add_zero]; rfl
  · exact ⟨Int.le_trans (Int.neg_le_neg pSin_le) (ev_le h0 h1 pSin).1, Int.le_trans (ev_le h0 h1 pSin).2 pSin_le⟩
  · exact ⟨Int.le_trans (Int.neg_le_neg pCos_le) (ev_le h0 h1 pCos).1, Int.le_trans (ev_le h0 h1 pCos).2 pCos_le⟩
  · exact ⟨Int.le_trans (Int.neg_le_neg pErr_le) (ev_le h0 h1 pErr).1, Int.le_trans (ev_le h0 h1 pErr).2 pErr_le⟩
/-- The sum of the squares, with all errors. -/
theorem circle_sum {D q x y A B s c u v e0 er : Int} (hq : 0 < q) (hD : 74 ≤ D)
    (h1 : 4 * q * s = x * A + u) (h2 : 4 * q * c = D * B + v) (h3 : x * x = D * y + e0) (h4 : y * (D * (A * A)) + (D * D * (B * B) - D * D * (4 * q * (4 * q))) = er)
    (x0 : -D ≤ x) (x1 : x ≤ D) (a0 : -(6 * q) ≤ A) (a1 : A ≤ 6 * q) (b0 : -(6 * q) ≤ B) (b1 : B ≤ 6 * q) (u0 : -(7 * q) ≤ u) (u1 : u ≤ 7 * q) (v0 : -(5 * q) ≤ v) (v1 : v ≤ 5 * q)
    (e00 : -D ≤ 2 * e0) (e01 : 2 * e0 ≤ D) (er0 : -(16 * D * (q * q)) ≤ er) (er1 : er ≤ 16 * D * (q * q)) :
    s * s + c * c - D * D ≤ 16 * D ∧ -(16 * D) ≤ s * s + c * c - D * D := by
  have key : 16 * (q * q) * (s * s + c * c - D * D) = er + e0 * (A * A) + 2 * (x * A * u) + u * u + 2 * (D * (B * v)) + v * v := by
    have k1 : (4 * q * s) * (4 * q * s) = (x * A + u) * (x * A + u) := by rw [h1]
    have k2 : (4 * q * c) * (4 * q * c) = (D * B + v) * (D * B + v) := by rw [h2]
    have k3 : x * x * (A * A) = (D * y + e0) * (A * A) := by rw [h3]
    grind
  have bAA := bmul a0 a1 a0 a1
  have t1 := bmul (P := D) (a := 2 * e0) (by omega) (by omega) bAA.1 bAA.2
  have bAu := bmul a0 a1 u0 u1
  have t2 := bmul (P := D) (a := x) x0 x1 bAu.1 bAu.2
  have t3 := bmul u0 u1 u0 u1
  have bBv := bmul b0 b1 v0 v1
  have t4 := bmul (P := D) (a := D) (by omega) (by omega) bBv.1 bBv.2
  have t5 := bmul v0 v1 v0 v1
  obtain ⟨p, hp⟩ : ∃ p, p = q * q := ⟨_, rfl⟩
  have n1 : 6 * q * (6 * q) = 36 * p := by rw [hp]; grind
  have n2 : 6 * q * (7 * q) = 42 * p := by rw [hp]; grind
  have n3 : 7 * q * (7 * q) = 49 * p := by rw [hp]; grind
  have n4 : 6 * q * (5 * q) = 30 * p := by rw [hp]; grind
  have n5 : 5 * q * (5 * q) = 25 * p := by rw [hp]; grind
  rw [n1] at t1; rw [n2] at t2; rw [n3] at t3; rw [n4] at t4; rw [n5] at t5
  rw [← hp] at key er0 er1
  have hp0 : 0 < p := by rw [hp]; exact Int.mul_pos hq hq
  obtain ⟨R, hR⟩ : ∃ R, R = D * p := ⟨_, rfl⟩
  have m1 : D * (36 * p) = 36 * R := by rw [hR]; grind
  have m2 : D * (42 * p) = 42 * R := by rw [hR]; grind
  have m3 : D * (30 * p) = 30 * R := by rw [hR]; grind
  have m4 : 16 * D * p = 16 * R := by rw [hR]; grind
  have m5 : 74 * p ≤ R := by rw [hR]; exact Int.mul_le_mul_of_nonneg_right hD (by omega)
  have m6 : 2 * e0 * (A * A) = 2 * (e0 * (A * A)) := Int.mul_assoc _ _ _
  have m7 : x * (A * u) = x * A * u := (Int.mul_assoc _ _ _).symm
  rw [m1, m6] at t1; rw [m2, m7] at t2; rw [m3] at t4; rw [m4] at er0 er1
  have fin1 : 16 * p * (s * s + c * c - D * D) ≤ 256 * R := by omega
  have fin2 : -(256 * R) ≤ 16 * p * (s * s + c * c - D * D) := by omega
  have g1 : 256 * R = 16 * p * (16 * D) := by rw [hR]; grind
  rw [g1] at fin1 fin2
  constructor
  · exact Int.le_of_mul_le_mul_left fin1 (by omega)
  · refine Int.le_of_mul_le_mul_left (a := 16 * p) ?_ (by omega)
    rw [Int.mul_neg]; exact fin2
end Go.Proofs.Ytkmelddejdikgaa.PM
