import Derived.Test.YthkklhfnmodpnaaFix
import Derived.Deep.LoopGhost
namespace Go.Proofs.Ythkklhfnmodpnaa
open Go.RowKit PM Dt
theorem or_bit {n j : Nat} (h : n % 2 ^ (j + 1) = 0) (hn : n < 18446744073709551616) (hj : 2 ^ j < 18446744073709551616) : bits .or .u64 (n : Int) ((2 ^ j : Nat) : Int) = ((n + 2 ^ j : Nat) : Int) := by
  rw [bits_or_u64_nat n (2 ^ j) hn hj]
  obtain ⟨q, hq⟩ : ∃ q, q = n / 2 ^ (j + 1) := ⟨_, rfl⟩
  have hd := Nat.div_add_mod n (2 ^ (j + 1))
  rw [h, ← hq, Nat.add_zero] at hd
  rw [← hd, Nat.two_pow_add_eq_or_of_lt (Nat.pow_lt_pow_right (by omega) (by omega))]
set_option maxRecDepth 100000 in
set_option maxHeartbeats 1000000 in
theorem root_any (hi lo : Nat) (w : World) (hl : lo < 18446744073709551616) (hh : hi < 4611686018427387904) :
    Calls Try.prog 109 #[.int .u64 hi, .int .u64 lo] w fun e w' => e = .returned (.int .u64 (isqrt (hi * 18446744073709551616 + lo) : Nat)) ∧ w = w' := by
  obtain ⟨N, hN⟩ : ∃ N, N = hi * 18446744073709551616 + lo := ⟨_, rfl⟩
  rw [← hN]
  have HN := Lib.hid hN
  have HNb := Lib.hid (show N < 2 ^ 63 * 2 ^ 63 by rw [hN]; omega)
  have HL := Lib.hid hl
  have HH := Lib.hid hh
  clear hN hl hh
  go_enter Try.func109, Try.ntmps109
  go_wp2_with (fail)
  go_loopg [5, 6] 63 (fun k nv bv wr => ∃ n : Nat, nv = .int .u64 (n : Nat) ∧ bv = .int .u64 ((2 ^ k / 2 : Nat) : Int) ∧ Hid (n % 2 ^ k = 0) ∧ Hid (n * n ≤ N) ∧ Hid (N < (n + 2 ^ k) * (n + 2 ^ k)) ∧ k ≤ 63 ∧ w = wr)
  case atStart => exact ⟨0, rfl, rfl, Nat.zero_mod _, Nat.zero_le _, by show _ < _; have := HNb.out; rw [Nat.zero_add]; exact this, by omega, rfl⟩
  case round =>
    obtain ⟨n, rfl, rfl, hn0, hnn, hnu, hk, rfl⟩ := hrel
    rcases Nat.eq_zero_or_pos gk with h0 | h0
    · subst h0
      go_wp2_with (fail)
      go_ret
      refine ⟨ret1I ?_, rfl⟩
      rw [isqrt_eq (Nat.lt_of_lt_of_le HNb.out (by decide)) hnn.out (by have := hnu.out; rw [Nat.pow_zero] at this; exact this)]
    · obtain ⟨j, rfl⟩ : ∃ j, gk = j + 1 := ⟨gk - 1, by omega⟩
      obtain ⟨b, hb⟩ : ∃ b, b = 2 ^ j := ⟨_, rfl⟩
      have hb2 : 2 ^ (j + 1) / 2 = b := by rw [Nat.pow_succ, Nat.mul_div_cancel _ (by omega), hb]
      rw [hb2]
      have hb0 : 0 < b := by rw [hb]; exact Nat.pos_of_ne_zero (by simp)
      have hbt : decide ((0 : Int) < (b : Int)) = true := decide_eq_true (by omega)
      have hbi : (0 : Int) < (b : Int) := by omega
      have hn63 : n < 2 ^ 63 := sq_lt_of (Nat.lt_of_le_of_lt hnn.out HNb.out)
      have hb63 : b ≤ 2 ^ 62 := by rw [hb]; exact Nat.pow_le_pow_right (by omega) (by omega)
      obtain ⟨m, hm⟩ : ∃ m, m = n + b := ⟨_, rfl⟩
      have hor : bits .or .u64 (n : Int) (b : Int) = (m : Int) := by
        rw [hm, hb]; exact or_bit hn0.out (by omega) (by rw [← hb]; omega)
      have hm64 : m < 18446744073709551616 := by omega
      obtain ⟨p, hp⟩ : ∃ p, p = m * m / 18446744073709551616 := ⟨_, rfl⟩
      obtain ⟨q, hq⟩ : ∃ q, q = m * m % 18446744073709551616 := ⟨_, rfl⟩
      have hpq : m * m = p * 18446744073709551616 + q := by rw [hp, hq]; omega
      have hq64 : q < 18446744073709551616 := by rw [hq]; omega
      have hb22 : 2 ^ (j + 1) = b + b := by rw [Nat.pow_succ, hb]; omega
      have hmod : n % 2 ^ j = 0 := by
        have h1 := hn0.out
        have h2 := Nat.div_add_mod n (2 ^ (j + 1))
        rw [h1, Nat.add_zero, Nat.pow_succ, Nat.mul_assoc] at h2
        rw [← h2]; exact Nat.mul_mod_right _ _
      have hm0 : Hid (m % 2 ^ j = 0) := by show _ = _; rw [hm, ← hb, Nat.add_mod_right]; rw [hb]; exact hmod
      have hn0 : Hid (n % 2 ^ j = 0) := hmod
      have hdec : m * m ≤ N ↔ (p < hi ∨ p = hi ∧ q ≤ lo) := by
        have := HN.out; have := HL.out; rw [hpq]; omega
      have hmu : Hid (N < (m + 2 ^ j) * (m + 2 ^ j)) := by
        show _ < _
        have := hnu.out
        rw [hb22] at this
        rw [← hb, hm, Nat.add_assoc]; exact this
      have HB2 := Lib.hid (show b / 2 = 2 ^ j / 2 by rw [hb])
      have HP := Lib.hid hp
      have HQ := Lib.hid hq
      have HM64 := Lib.hid hm64
      have HMB := Lib.hid (show m = n + 2 ^ j by rw [hm, hb])
      have HD := Lib.hid hdec
      clear hb hb2 hm hp hq hpq hq64 hb22 hmod hnu hn63 hb63 hm64 hb0 hdec
      by_cases c1 : p < hi
      · have d1 : decide (p < hi) = true := decide_eq_true c1
        have hmm : Hid (m * m ≤ N) := HD.out.2 (Or.inl c1)
        clear c1
        go_wp2_with (go_at_call 104; refine (mul64_any _ _ _ HM64.out HM64.out).mono ?_; rintro e w1 ⟨rfl, rfl⟩; rw [← HP.out, ← HQ.out])
        go_roundg j
        case rel => exact ⟨m, rfl, by rw [← HB2.out]; simp, hm0, hmm, hmu, by omega, rfl⟩
        case measure => omega
      · have d1 : decide (p < hi) = false := decide_eq_false c1
        by_cases c2 : p = hi
        · have d2 : ((p : Int) == (hi : Int)) = true := by simp; omega
          by_cases c3 : q ≤ lo
          · have d3 : decide (q ≤ lo) = true := decide_eq_true c3
            have hmm : Hid (m * m ≤ N) := HD.out.2 (Or.inr ⟨c2, c3⟩)
            clear c1 c2 c3
            go_wp2_with (go_at_call 104; refine (mul64_any _ _ _ HM64.out HM64.out).mono ?_; rintro e w1 ⟨rfl, rfl⟩; rw [← HP.out, ← HQ.out])
            go_roundg j
            case rel => exact ⟨m, rfl, by rw [← HB2.out]; simp, hm0, hmm, hmu, by omega, rfl⟩
            case measure => omega
          · have d3 : decide (q ≤ lo) = false := decide_eq_false c3
            have hnu : Hid (N < (n + 2 ^ j) * (n + 2 ^ j)) := by
              show _ < _
              rw [← HMB.out]; apply Nat.lt_of_not_le; intro h; have := HD.out.1 h; omega
            clear c1 c2 c3
            go_wp2_with (go_at_call 104; refine (mul64_any _ _ _ HM64.out HM64.out).mono ?_; rintro e w1 ⟨rfl, rfl⟩; rw [← HP.out, ← HQ.out])
            go_roundg j
            case rel => exact ⟨n, rfl, by rw [← HB2.out]; simp, hn0, hnn, hnu, by omega, rfl⟩
            case measure => omega
        · have d2 : ((p : Int) == (hi : Int)) = false := by simp; omega
          have hnu : Hid (N < (n + 2 ^ j) * (n + 2 ^ j)) := by
            show _ < _
            rw [← HMB.out]; apply Nat.lt_of_not_le; intro h; have := HD.out.1 h; omega
          clear c1 c2
          go_wp2_with (go_at_call 104; refine (mul64_any _ _ _ HM64.out HM64.out).mono ?_; rintro e w1 ⟨rfl, rfl⟩; rw [← HP.out, ← HQ.out])
          go_roundg j
          case rel => exact ⟨n, rfl, by rw [← HB2.out]; simp, hn0, hnn, hnu, by omega, rfl⟩
          case measure => omega
end Go.Proofs.Ythkklhfnmodpnaa
