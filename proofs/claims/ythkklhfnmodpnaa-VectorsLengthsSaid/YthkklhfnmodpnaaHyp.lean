/-
  Square roots and norms of package fixed: what they return. And what it means that a value is a slice of integers.
-/
import Derived.Test.YthkklhfnmodpnaaRoot
import Derived.Laws.Externs
set_option linter.unusedSimpArgs false
set_option linter.unusedVariables false
namespace Go.Proofs.Ythkklhfnmodpnaa
open Go.RowKit PM Dt
/-- A slice of 64-bit integers. -/
def Ints (w : World) (v : Value) (xs : List Int) : Prop :=
  (xs = [] ∧ ∃ a c, v = .slice a 0 c) ∨ (0 < xs.length ∧ ∃ b off cap, v = .slice (some ⟨b, off, none⟩) xs.length cap ∧ b < w.heap.size ∧ ∀ k, k < xs.length → w.cell? ⟨b, off + k, none⟩ = some (.int .i64 (xs.getD k 0)))
theorem Ints.below {w w' : World} {v : Value} {xs : List Int} (h : Ints w v xs) (hb : Below w.heap.size w w') : Ints w' v xs := by
  rcases h with h | ⟨h0, b, off, cap, rfl, hlt, hc⟩
  · exact Or.inl h
  · exact Or.inr ⟨h0, b, off, cap, rfl, Nat.lt_of_lt_of_le hlt hb.size, fun k hk => by rw [hb.cell (p := ⟨b, off + k, none⟩) hlt]; exact hc k hk⟩
/-- The sum of the squares. -/
def sqs : List Int → Nat
  | [] => 0
  | x :: xs => x.natAbs * x.natAbs + sqs xs
theorem sqs_nil : sqs [] = 0 := rfl
theorem sqs_cons (x : Int) (xs : List Int) : sqs (x :: xs) = x.natAbs * x.natAbs + sqs xs := rfl
theorem sqs_take_succ : ∀ (xs : List Int) (k : Nat), k < xs.length → sqs (xs.take (k + 1)) = sqs (xs.take k) + (xs.getD k 0).natAbs * (xs.getD k 0).natAbs
  | [], k, h => absurd h (by simp)
  | x :: xs, 0, _ => by simp [sqs]
  | x :: xs, k + 1, h => by
    have := sqs_take_succ xs k (by simpa using h)
    rw [List.take_succ_cons, sqs, this, List.take_succ_cons, sqs]
    simp; omega
theorem sqs_take_le (xs : List Int) : ∀ k, sqs (xs.take k) ≤ sqs xs := by
  induction xs with
  | nil => intro k; simp
  | cons x xs ih => intro k; cases k with
    | zero => simp [sqs]
    | succ k => rw [List.take_succ_cons, sqs, sqs]; have := ih k; omega
theorem hyp_step {hi lo p q r c S S' AA M : Nat} (h1 : hi * M + lo = S) (h2 : p * M + q = AA) (h3 : lo + q = c * M + r) (h4 : S' = S + AA) :
    (hi + (p + c)) * M + r = S' := by
  rw [h4, ← h1, ← h2, Nat.add_mul, Nat.add_mul]
  omega
attribute [irreducible] sqs
theorem add64_run (x y r c : Nat) (hx : x < 18446744073709551616) (hy : y < 18446744073709551616) (h : x + y = c * 18446744073709551616 + r) (hr : r < 18446744073709551616) (w : World) :
    (callFunc 108 #[.int .u64 x, .int .u64 y, .int .u64 0]).run Try.prog w = .ok (.value (.tuple #[.int .u64 (r : Int), .int .u64 (c : Int)])) w := by
  rw [run_callFunc_extern Try.func108 (by kernel_rfl) (by kernel_rfl) (by kernel_rfl) (e := add64Entry) (by kernel_rfl), run_add64 x y 0 (by omega) (by omega) (by omega) (by omega)]
  have h1 : ((x : Int) + (y : Int) + 0) % 18446744073709551616 = (r : Int) := by omega
  have h2 : ((x : Int) + (y : Int) + 0) / 18446744073709551616 = (c : Int) := by omega
  rw [h1, h2]; rfl
/-- The norm of a list, in 64 bits. -/
def hypQ (xs : List Int) : Int := (isqrt (sqs xs) : Nat)
theorem sq_le {a : Int} (h : I64 a) : a.natAbs * a.natAbs ≤ 85070591730234615865843651857942052864 := by
  obtain ⟨h1, h2⟩ := h
  exact Nat.mul_le_mul (n₁ := a.natAbs) (m₁ := a.natAbs) (n₂ := 9223372036854775808) (m₂ := 9223372036854775808) (by omega) (by omega)
theorem sqs_le : ∀ (xs : List Int) (k : Nat), xs.length ≤ k → (∀ i, i < xs.length → I64 (xs.getD i 0)) → sqs xs ≤ k * 85070591730234615865843651857942052864
  | [], k, _, _ => by rw [sqs_nil]; exact Nat.zero_le _
  | x :: xs, 0, h, _ => absurd h (by simp)
  | x :: xs, k + 1, h, hi => by
    have h1 := sqs_le xs k (by simpa using h) (fun i h => by have := hi (i + 1) (by simpa using h); simpa using this)
    have h2 := sq_le (hi 0 (by simp))
    rw [sqs_cons, Nat.add_mul, Nat.one_mul, Nat.add_comm]
    exact Nat.add_le_add h1 (by simpa using h2)
theorem hyp_big {P r S T : Nat} (hP : 4611686018427387904 ≤ P) (h : P * 18446744073709551616 + r = S) (h2 : S ≤ T) (h3 : T ≤ 8 * 85070591730234615865843651857942052864) : 9223372036854775808 ≤ isqrt T := by
  have h4 : T < 4 ^ 200 := Nat.lt_of_le_of_lt h3 (by decide)
  rw [isqrt_ge h4, ← Nat.not_lt]
  have h5 : 4611686018427387904 * 18446744073709551616 ≤ P * 18446744073709551616 := Nat.mul_le_mul_right _ hP
  intro h6
  have h7 : P * 18446744073709551616 ≤ T := Nat.le_trans (Nat.le_of_add_right_le (Nat.le_of_eq h)) h2
  exact absurd (Nat.lt_of_le_of_lt (Nat.le_trans h5 h7) h6) (by decide)
theorem hyp_lt {hi lo S : Nat} (hh : hi < 4611686018427387904) (hl : lo < 18446744073709551616) (h : hi * 18446744073709551616 + lo = S) : isqrt S < 9223372036854775808 := by
  have h1 : S < 9223372036854775808 * 9223372036854775808 := by
    rw [← h]
    have h2 : hi * 18446744073709551616 ≤ 4611686018427387903 * 18446744073709551616 := Nat.mul_le_mul_right _ (by omega)
    exact Nat.lt_of_lt_of_le (Nat.add_lt_add_of_le_of_lt h2 hl) (by decide)
  rw [isqrt_lt (Nat.lt_trans h1 (by decide))]; exact h1
set_option maxRecDepth 100000 in
set_option maxHeartbeats 1000000 in
theorem hypot_any (xs : List Int) (v : Value) (w : World) (hv : Ints w v xs) (hx : ∀ k, k < xs.length → I64 (xs.getD k 0)) :
    Calls Try.prog 75 #[v] w fun e w' => e = .returned (.tuple #[.int .i64 (if 8 < xs.length then 0 else fitV (hypQ xs)), .int .i64 (if 8 < xs.length then 2 else fitE (hypQ xs))]) ∧ w = w' := by
  have hlenI : ∀ a c n, v = .slice a n c → n = xs.length := by
    rintro a c n rfl
    rcases hv with ⟨h, a', c', hh⟩ | ⟨_, b, off, cap, hh, _⟩
    · cases hh; rw [h]; rfl
    · cases hh; rfl
  obtain ⟨va, vc, n, rfl⟩ : ∃ a c n, v = .slice a n c := by
    rcases hv with ⟨h, a', c', hh⟩ | ⟨_, b, off, cap, hh, _⟩
    · exact ⟨_, _, _, hh⟩
    · exact ⟨_, _, _, hh⟩
  have hn := hlenI _ _ _ rfl
  clear hlenI
  by_cases h8 : 8 < n
  · rw [if_pos (hn ▸ h8), if_pos (hn ▸ h8)]
    have hd : decide (8 < n) = true := decide_eq_true h8
    have hd' : decide ((8 : Int) < (n : Int)) = true := decide_eq_true (by omega)
    clear hv hx hn
    go_enter Try.func75, Try.ntmps75
    go_wp2_with (fail)
    go_ret2
    exact ⟨rfl, rfl⟩
  · rw [if_neg (hn ▸ h8), if_neg (hn ▸ h8)]
    have hd : decide (8 < n) = false := decide_eq_false h8
    have hd' : decide ((8 : Int) < (n : Int)) = false := decide_eq_false (by omega)
    have HN := Lib.hid hn
    have HV := Lib.hid hv
    have HX := Lib.hid hx
    have HTOT := Lib.hid (sqs_take_le xs)
    have HTOT2 := Lib.hid (sqs_le xs 8 (by omega) hx)
    have hn8 : n ≤ 8 := by omega
    clear hn hv hx h8
    go_enter Try.func75, Try.ntmps75
    go_wp2_with (fail)
    go_loopg [4, 5, 16] n (fun g hv lv iv wr => ∃ hi lo k : Nat, hv = .int .u64 hi ∧ lv = .int .u64 lo ∧ iv = .int .i64 k ∧ Hid (hi * 18446744073709551616 + lo = sqs (xs.take k)) ∧ Hid (hi < 4611686018427387904) ∧ Hid (lo < 18446744073709551616) ∧ g + k = n ∧ w = wr)
    case atStart => exact ⟨0, 0, 0, rfl, rfl, rfl, by show _ = _; exact sqs_nil.symm, by show _ < _; omega, by show _ < _; omega, rfl, rfl⟩
    case round =>
      obtain ⟨hi, lo, k, rfl, rfl, rfl, hs, hh, hl, hk, rfl⟩ := hrel
      by_cases hkn : k < n
      · have hdk : decide ((k : Int) < (n : Int)) = true := decide_eq_true (by omega)
        have hdk' : decide (k < n) = true := decide_eq_true (by omega)
        obtain ⟨b, off, rfl, hcell⟩ : ∃ b off, va = some ⟨b, off, none⟩ ∧ w.cell? ⟨b, off + k, none⟩ = some (.int .i64 (xs.getD k 0)) := by
          rcases HV.out with ⟨h, _⟩ | ⟨_, b, off, cap, hh, _, hc⟩
          · have := HN.out; rw [h] at this; simp at this; omega
          · cases hh; exact ⟨b, off, rfl, hc k hkn⟩
        have hI := HX.out k (by have := HN.out; omega)
        have hsx := sqs_take_succ xs k (by have := HN.out; omega)
        have htot := HTOT.out (k + 1)
        obtain ⟨A, hA⟩ : ∃ A, A = (xs.getD k 0).natAbs := ⟨_, rfl⟩
        rw [← hA] at hsx
        have hAA : A * A ≤ 85070591730234615865843651857942052864 := by rw [hA]; exact sq_le hI
        obtain ⟨p, hp⟩ : ∃ p, p = A * A / 18446744073709551616 := ⟨_, rfl⟩
        obtain ⟨q, hq⟩ : ∃ q, q = A * A % 18446744073709551616 := ⟨_, rfl⟩
        have hpq : p * 18446744073709551616 + q = A * A := by rw [hp, hq]; omega
        obtain ⟨r, hr⟩ : ∃ r, r = (lo + q) % 18446744073709551616 := ⟨_, rfl⟩
        obtain ⟨c, hc⟩ : ∃ c, c = (lo + q) / 18446744073709551616 := ⟨_, rfl⟩
        have hpb : p ≤ 4611686018427387904 := by rw [hp]; omega
        have hqb : q < 18446744073709551616 := by rw [hq]; omega
        have hrb : r < 18446744073709551616 := by rw [hr]; omega
        have hrc : lo + q = c * 18446744073709551616 + r := by rw [hr, hc]; omega
        have hl' := hl.out
        have hh' := hh.out
        have hcb : c ≤ 1 := by omega
        have hnew : (hi + (p + c)) * 18446744073709551616 + r = sqs (xs.take (k + 1)) := by
          exact hyp_step hs.out hpq hrc hsx
        have hadd := add64_run lo q r c hl' hqb hrc hrb
        have hw1 : IntKind.u64.wrap ((p : Int) + (c : Int)) = ((p + c : Nat) : Int) := by rw [IntKind.wrap_u64]; omega
        have hw2 : IntKind.u64.wrap ((hi : Int) + ((p : Int) + (c : Int))) = ((hi + (p + c) : Nat) : Int) := by rw [IntKind.wrap_u64]; omega
        have hw3 : IntKind.i64.wrap ((k : Int) + 1) = ((k + 1 : Nat) : Int) := by rw [IntKind.wrap_i64]; omega
        obtain ⟨P, hP⟩ : ∃ P, P = hi + (p + c) := ⟨_, rfl⟩
        rw [← hP] at hw2 hnew
        have HI := Lib.hid hI
        have HA := Lib.hid hA
        have HA64 := Lib.hid (show A < 18446744073709551616 by rw [hA]; have := hI.1; have := hI.2; omega)
        have HP := Lib.hid hp
        have HQ := Lib.hid hq
        have HR := Lib.hid (show Hid (r < 18446744073709551616) from hrb)
        have HNEW := Lib.hid hnew
        have HTO := Lib.hid htot
        have hk8 : k ≤ 8 := by omega
        clear hpq hI hA hp hq hr hc hpb hqb hrb hrc hl' hh' hcb hnew htot hsx hAA hP hs
        by_cases c1 : P < 4611686018427387904
        · have d1 : decide ((4611686018427387904 : Int) ≤ (P : Int)) = false := decide_eq_false (by omega)
          have hPb := Lib.hid c1
          clear c1
          go_upto_region 6 with (fail)
          go_upto_region 7 with (fail)
          go_upto_region 8 with (first | (go_at_call 105; refine (size_any _ _ HI.out).mono ?_; rintro e w1 ⟨rfl, rfl⟩; rw [← HA.out]) | (go_at_call 104; refine (mul64_any _ _ _ HA64.out HA64.out).mono ?_; rintro e w1 ⟨rfl, rfl⟩; rw [← HP.out, ← HQ.out]))
          go_upto_region 9 with (fail)
          go_upto_region 10 with (simp only [hadd])
          go_upto_region 11 with (fail)
          go_wp2_with (fail)
          go_roundg (n - (k + 1))
          case rel => exact ⟨P, r, k + 1, rfl, rfl, rfl, HNEW.out, hPb, HR.out, by omega, rfl⟩
          case measure => omega
        · have d1 : decide ((4611686018427387904 : Int) ≤ (P : Int)) = true := decide_eq_true (by omega)
          have hPb := Lib.hid (show 4611686018427387904 ≤ P by omega)
          clear c1
          go_upto_region 6 with (fail)
          go_upto_region 7 with (fail)
          go_upto_region 8 with (first | (go_at_call 105; refine (size_any _ _ HI.out).mono ?_; rintro e w1 ⟨rfl, rfl⟩; rw [← HA.out]) | (go_at_call 104; refine (mul64_any _ _ _ HA64.out HA64.out).mono ?_; rintro e w1 ⟨rfl, rfl⟩; rw [← HP.out, ← HQ.out]))
          go_upto_region 9 with (fail)
          go_upto_region 10 with (simp only [hadd])
          go_upto_region 11 with (fail)
          go_wp2_with (fail)
          go_ret2
          have hno : inI (hypQ xs) = false := by
            have h1 := hyp_big hPb.out HNEW.out HTO.out HTOT2.out
            rw [Bool.eq_false_iff]; intro h; simp [inI] at h; unfold hypQ at h; omega
          exact ⟨ret2I (fitV_no hno).symm (fitE_no hno).symm, rfl⟩
      · have hkn2 : k = n := by omega
        have hdk : decide ((k : Int) < (n : Int)) = false := decide_eq_false (by omega)
        have hdk' : decide (k < n) = false := decide_eq_false (by omega)
        have hs2 := hs.out
        rw [hkn2, HN.out, List.take_length] at hs2
        have hlt := hyp_lt hh.out hl.out hs2
        have HS := Lib.hid hs2
        have hyes : inI (hypQ xs) = true := by unfold hypQ inI; simp; omega
        have HY := Lib.hid hyes
        obtain ⟨rr, hrr⟩ : ∃ rr, isqrt (sqs xs) = rr := ⟨_, rfl⟩
        rw [hrr] at hlt
        have hw2 : IntKind.i64.wrap (rr : Int) = (rr : Int) := by rw [IntKind.wrap_i64]; omega
        have HRR := Lib.hid hrr
        clear hs2 hlt hyes hkn2 hs hrr
        go_wp2_with (go_at_call 109; refine (root_any hi lo _ hl.out hh.out).mono ?_; rintro e w1 ⟨rfl, rfl⟩; rw [HS.out, HRR.out])
        go_ret2
        exact ⟨ret2I (by rw [fitV_yes HY.out]; unfold hypQ; rw [HRR.out]; first | done | exact hw2) (fitE_yes HY.out).symm, rfl⟩
end Go.Proofs.Ythkklhfnmodpnaa
