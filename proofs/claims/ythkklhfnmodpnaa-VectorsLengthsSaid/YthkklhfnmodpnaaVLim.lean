/-
  Shortened vectors, in the package: sums of squares, the least integer that is not below a norm, quotients toward zero.
-/
import Derived.Test.YthkklhfnmodpnaaVUnit
import Derived.Test.YthkklhfnmodpnaaMaxB
set_option linter.unusedSimpArgs false
set_option linter.unusedVariables false
namespace Go.Proofs.Ythkklhfnmodpnaa
open Go.RowKit PM Dt
theorem sqs_small : ∀ (xs : List Int), (∀ k, k < xs.length → -4398046511104 ≤ xs.getD k 0 ∧ xs.getD k 0 ≤ 4398046511104) → sqs xs ≤ xs.length * 19342813113834066795298816
  | [], _ => by rw [sqs_nil]; exact Nat.zero_le _
  | x :: xs, hi => by
    have h1 := sqs_small xs (fun i h => by have := hi (i + 1) (by simpa using h); simpa using this)
    have hx : -4398046511104 ≤ x ∧ x ≤ 4398046511104 := by have := hi 0 (by simp); simpa using this
    have h2 : x.natAbs * x.natAbs ≤ 19342813113834066795298816 := Nat.le_trans (Nat.mul_le_mul (show x.natAbs ≤ 4398046511104 by omega) (show x.natAbs ≤ 4398046511104 by omega)) (by decide)
    rw [sqs_cons, List.length_cons]
    omega
set_option maxRecDepth 100000 in
set_option maxHeartbeats 1000000 in
theorem square_any (xs : List Int) (v : Value) (w : World) (hv : Ints w v xs) (hx : ∀ k, k < xs.length → -4398046511104 ≤ xs.getD k 0 ∧ xs.getD k 0 ≤ 4398046511104) (hl : xs.length ≤ 3) :
    Calls Try.prog 116 #[v] w fun e w' => e = .returned (.tuple #[.int .u64 ((sqs xs / 18446744073709551616 : Nat) : Int), .int .u64 ((sqs xs % 18446744073709551616 : Nat) : Int)]) ∧ w = w' := by
  have hlenI : ∀ a c n, v = .slice a n c → n = xs.length := by
    rintro a c n rfl
    rcases hv with ⟨h, a', c', hh⟩ | ⟨_, b, off, cap, hh, _⟩
    · cases hh; rw [h]; rfl
    · cases hh; rfl
  obtain ⟨va, vc, n, rfl⟩ : ∃ a c n, v = .slice a n c := by
    rcases hv with ⟨h, a', c', hh⟩ | ⟨_, b, off, cap, hh, _⟩
    · exact ⟨_, _, _, hh⟩
    · exact ⟨_, _, _, hh⟩
  have hn := hlenI _ _ _ rfl
  clear hlenI
  have hT : sqs xs ≤ 58028439341502200385896448 := by have := sqs_small xs hx; omega
  have HN := Lib.hid hn
  have HV := Lib.hid hv
  have HX := Lib.hid hx
  have HTOT := Lib.hid (fun k => Nat.le_trans (sqs_take_le xs k) hT)
  have hn8 : n ≤ 3 := by omega
  clear hn hv hx hT hl
  go_enter Try.func116, Try.ntmps116
  go_wp2_with (fail)
  go_loopg [2, 3, 12] n (fun g hv lv iv wr => ∃ hi lo k : Nat, hv = .int .u64 hi ∧ lv = .int .u64 lo ∧ iv = .int .i64 k ∧ Hid (hi * 18446744073709551616 + lo = sqs (xs.take k)) ∧ Hid (lo < 18446744073709551616) ∧ g + k = n ∧ w = wr)
  case atStart => exact ⟨0, 0, 0, rfl, rfl, rfl, by show _ = _; exact sqs_nil.symm, by show _ < _; omega, by omega, rfl⟩
  case round =>
    obtain ⟨hi, lo, k, rfl, rfl, rfl, hs, hl, hk, rfl⟩ := hrel
    by_cases hkn : k < n
    · have hdk : decide ((k : Int) < (n : Int)) = true := decide_eq_true (by omega)
      have hdk' : decide (k < n) = true := decide_eq_true (by omega)
      obtain ⟨b, off, rfl, hcell⟩ : ∃ b off, va = some ⟨b, off, none⟩ ∧ w.cell? ⟨b, off + k, none⟩ = some (.int .i64 (xs.getD k 0)) := by
        rcases HV.out with ⟨h, _⟩ | ⟨_, b, off, cap, hh, _, hc⟩
        · have := HN.out; rw [h] at this; simp at this; omega
        · cases hh; exact ⟨b, off, rfl, hc k hkn⟩
      have hI := HX.out k (by have := HN.out; omega)
      have hsx := sqs_take_succ xs k (by have := HN.out; omega)
      have htot := HTOT.out (k + 1)
      obtain ⟨a, ha⟩ : ∃ a, xs.getD k 0 = a := ⟨_, rfl⟩
      rw [ha] at hsx hcell hI
      obtain ⟨A, hA⟩ : ∃ A, A = a.natAbs := ⟨_, rfl⟩
      rw [← hA] at hsx
      have hAA : A * A ≤ 19342813113834066795298816 := Nat.le_trans (Nat.mul_le_mul (show A ≤ 4398046511104 by omega) (show A ≤ 4398046511104 by omega)) (by decide)
      obtain ⟨p, hp⟩ : ∃ p, p = A * A / 18446744073709551616 := ⟨_, rfl⟩
      obtain ⟨q, hq⟩ : ∃ q, q = A * A % 18446744073709551616 := ⟨_, rfl⟩
      have hpq : p * 18446744073709551616 + q = A * A := by rw [hp, hq]; omega
      obtain ⟨r, hr⟩ : ∃ r, r = (lo + q) % 18446744073709551616 := ⟨_, rfl⟩
      obtain ⟨c, hc⟩ : ∃ c, c = (lo + q) / 18446744073709551616 := ⟨_, rfl⟩
      have hqb : q < 18446744073709551616 := by rw [hq]; omega
      have hrb : r < 18446744073709551616 := by rw [hr]; omega
      have hrc : lo + q = c * 18446744073709551616 + r := by rw [hr, hc]; omega
      have hnew : (hi + (p + c)) * 18446744073709551616 + r = sqs (xs.take (k + 1)) := hyp_step hs.out hpq hrc hsx
      have hl' := hl.out
      have hadd := add64_run lo q r c hl' hqb hrc hrb
      have hPb : hi + (p + c) ≤ 4000000 := by omega
      have hw1 : IntKind.u64.wrap ((p : Int) + (c : Int)) = ((p + c : Nat) : Int) := by rw [IntKind.wrap_u64]; omega
      have hw2 : IntKind.u64.wrap ((hi : Int) + ((p : Int) + (c : Int))) = ((hi + (p + c) : Nat) : Int) := by rw [IntKind.wrap_u64]; omega
      have hw3 : IntKind.i64.wrap ((k : Int) + 1) = ((k + 1 : Nat) : Int) := by rw [IntKind.wrap_i64]; omega
      have hwn : wrap64 (-a) = -a := by unfold wrap64; omega
      have hwA : IntKind.u64.wrap (A : Int) = (A : Int) := by rw [IntKind.wrap_u64]; omega
      have hM : Hid ([wrap64 (-a)].foldl mx a = (A : Int)) := by show _ = _; rw [hwn]; show mx a (-a) = _; unfold mx; split <;> omega
      have HA64 := Lib.hid (show A < 18446744073709551616 by omega)
      have HP := Lib.hid hp
      have HQ := Lib.hid hq
      have HR := Lib.hid (show Hid (r < 18446744073709551616) from hrb)
      have HNEW := Lib.hid hnew
      clear hpq hI hA hp hq hr hc hqb hrb hrc hl' hPb hnew htot hsx hAA hs ha hwn
      go_upto_region 4 with (fail)
      go_upto_region 5 with (refine wpList_max rfl rfl _ _ _ hM.out rfl ?_)
      go_upto_region 6 with (go_at_call 104; refine (mul64_any _ _ _ HA64.out HA64.out).mono ?_; rintro e w1 ⟨rfl, rfl⟩; rw [← HP.out, ← HQ.out])
      go_upto_region 7 with (fail)
      go_upto_region 8 with (simp only [hadd])
      go_upto_region 9 with (fail)
      go_wp2_with (fail)
      go_roundg (n - (k + 1))
      case rel => exact ⟨hi + (p + c), r, k + 1, rfl, rfl, rfl, HNEW.out, HR.out, by omega, rfl⟩
      case measure => omega
    · have hkn2 : k = n := by omega
      have hdk : decide ((k : Int) < (n : Int)) = false := decide_eq_false (by omega)
      have hdk' : decide (k < n) = false := decide_eq_false (by omega)
      have hs2 := hs.out
      rw [hkn2, HN.out, List.take_length] at hs2
      have hl' := hl.out
      have e1 : sqs xs / 18446744073709551616 = hi := by omega
      have e2 : sqs xs % 18446744073709551616 = lo := by omega
      have E1 := Lib.hid e1
      have E2 := Lib.hid e2
      clear hs2 hkn2 hs hl' e1 e2
      go_wp2_with (fail)
      go_ret2
      exact ⟨by rw [E1.out, E2.out]; rfl, rfl⟩
end Go.Proofs.Ythkklhfnmodpnaa
