/-
  Plain laws on products and quotients: Mul commutes, One is neutral, signs, and the way back from a quotient. No program in sight. Sums of products and their two's complement in 192 bits. No program in sight. Polynomials with integer coefficients as lists, and the sum of the squares of two of them with the errors of rounding. No program in sight.
-/
import Derived.Test.YtkmelddejdikgaaBase
set_option linter.unusedSimpArgs false
set_option linter.unusedVariables false
namespace Go.Proofs.Ytkmelddejdikgaa.PM
theorem inI_iff (q : Int) : inI q = true ↔ (-9223372036854775808 ≤ q ∧ q ≤ 9223372036854775807) := by
  unfold inI; rw [Bool.and_eq_true, decide_eq_true_eq, decide_eq_true_eq]
theorem fit_of {q : Int} (h1 : -9223372036854775808 ≤ q) (h2 : q ≤ 9223372036854775807) : fitV q = q ∧ fitE q = 0 := by
  have h : inI q = true := (inI_iff q).2 ⟨h1, h2⟩
  unfold fitV fitE; rw [h]; exact ⟨rfl, rfl⟩
theorem fit_zero {q : Int} (h : fitE q = 0) : -9223372036854775808 ≤ q ∧ q ≤ 9223372036854775807 ∧ fitV q = q := by
  unfold fitE at h
  cases hi : inI q with
  | false => rw [hi] at h; cases h
  | true =>
    have := (inI_iff q).1 hi
    unfold fitV; rw [hi]; exact ⟨this.1, this.2, rfl⟩
end Go.Proofs.Ytkmelddejdikgaa.PM
namespace Go.Proofs.Ytkmelddejdikgaa.PM
def dotS : List Int → List Int → Int
  | x :: xs, y :: ys => x * y + dotS xs ys
  | _, _ => 0
theorem dotS_nil (ys : List Int) : dotS [] ys = 0 := by cases ys <;> rfl
theorem dotS_cons (x y : Int) (xs ys : List Int) : dotS (x :: xs) (y :: ys) = x * y + dotS xs ys := rfl
theorem dotS_take_succ : ∀ (xs ys : List Int) (k : Nat), k < xs.length → k < ys.length → dotS (xs.take (k + 1)) (ys.take (k + 1)) = dotS (xs.take k) (ys.take k) + xs.getD k 0 * ys.getD k 0
  | [], _, k, h, _ => absurd h (by simp)
  | _ :: _, [], k, _, h => absurd h (by simp)
  | x :: xs, y :: ys, 0, _, _ => by simp [dotS]
  | x :: xs, y :: ys, k + 1, h, h' => by
    have := dotS_take_succ xs ys k (by simpa using h) (by simpa using h')
    simp only [List.take_succ_cons, dotS, this, gCS]
    omega
theorem wide_words {T w0 w1 w2 n h s : Int} (t0 : -1569275433846670190958947355801916604025588861116008628224 ≤ T) (t1 : T < 1569275433846670190958947355801916604025588861116008628224)
    (h0 : 0 ≤ w0 ∧ w0 < 18446744073709551616) (h1 : 0 ≤ w1 ∧ w1 < 18446744073709551616) (h2 : 0 ≤ w2 ∧ w2 < 18446744073709551616)
    (hW : w0 + w1 * 18446744073709551616 + w2 * 340282366920938463463374607431768211456 = T % 6277101735386680763835789423207666416102355444464034512896)
    (hn : n = (w0 / 1073741824 + w1 % 1073741824 * 17179869184 + 9223372036854775808) % 18446744073709551616 - 9223372036854775808)
    (hh : h = (w1 / 1073741824 + w2 % 1073741824 * 17179869184 + 9223372036854775808) % 18446744073709551616 - 9223372036854775808)
    (hs : s = ((w2 + 9223372036854775808) % 18446744073709551616 - 9223372036854775808) / 1073741824) :
    (inI (T / 1073741824) = true ∧ n = T / 1073741824 ∧ h = n / 9223372036854775808 ∧ s = n / 9223372036854775808) ∨
    (inI (T / 1073741824) = false ∧ (h ≠ n / 9223372036854775808 ∨ s ≠ n / 9223372036854775808)) := by
  obtain ⟨q, hq⟩ : ∃ q, q = T / 1073741824 := ⟨_, rfl⟩
  obtain ⟨H, hH⟩ : ∃ H, H = T / 19807040628566084398385987584 := ⟨_, rfl⟩
  have e1 : s = T / 365375409332725729550921208179070754913983135744 := by omega
  have e2 : H % 18446744073709551616 = w1 / 1073741824 + w2 % 1073741824 * 17179869184 := by omega
  have e3 : q % 18446744073709551616 = w0 / 1073741824 + w1 % 1073741824 * 17179869184 := by omega
  have e4 : H = q / 18446744073709551616 := by omega
  have e5 : s = H / 18446744073709551616 := by omega
  rw [← e3] at hn
  rw [← e2] at hh
  rw [← hq]
  clear hW e1 e2 e3 h0 h1 h2 t0 t1 hs hH hq
  cases hi : inI q with
  | true =>
    have := (inI_iff _).1 hi
    left
    refine ⟨rfl, ?_, ?_, ?_⟩ <;> omega
  | false =>
    right
    refine ⟨rfl, ?_⟩
    have hno : ¬ (-9223372036854775808 ≤ q ∧ q ≤ 9223372036854775807) := fun h => by
      rw [(inI_iff _).2 h] at hi; cases hi
    omega
end Go.Proofs.Ytkmelddejdikgaa.PM
namespace Go.Proofs.Ytkmelddejdikgaa.PM
def ev : List Int → Int → Int
  | [], _ => 0
  | a :: l, y => a + y * ev l y
theorem bmul {a b P R : Int} (h1 : -P ≤ a) (h2 : a ≤ P) (h3 : -R ≤ b) (h4 : b ≤ R) : -(P * R) ≤ a * b ∧ a * b ≤ P * R := by
  have k : (a.natAbs * b.natAbs : Nat) ≤ P.natAbs * R.natAbs := Nat.mul_le_mul (by omega) (by omega)
  have e1 : ((P.natAbs * R.natAbs : Nat) : Int) = P * R := by
    rw [Int.natCast_mul, Int.natAbs_of_nonneg (show 0 ≤ P by omega), Int.natAbs_of_nonneg (show 0 ≤ R by omega)]
  have e2 : (a * b).natAbs = a.natAbs * b.natAbs := Int.natAbs_mul a b
  omega
def D5 : Int := 1427247692705959881058285969449495136382746624
def D6 : Int := 1532495540865888858358347027150309183618739122183602176
end Go.Proofs.Ytkmelddejdikgaa.PM
