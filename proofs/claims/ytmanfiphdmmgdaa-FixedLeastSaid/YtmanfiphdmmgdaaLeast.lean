/-
  FixedLeast returns true: the walk.
-/
import Derived.Test.YtmanfiphdmmgdaaAwakeFixed
set_option linter.unusedSimpArgs false
set_option linter.unusedVariables false
namespace Go.Proofs.Ytmanfiphdmmgdaa
open Go.RowKit PM Dt
theorem hyp2 (x y : Nat) (hx : x < 1073741824) (hy : y < 1073741824) (b : Nat) (w : World) (h : blk w b #[.int .i64 (x : Nat), .int .i64 (-(y : Nat) : Int)] 2) :
    Calls Try.prog 50 #[.slice (some ⟨b, 0, none⟩) 2 2] w fun e w' => e = .returned (.tuple #[.int .i64 (isqrt (x * x + y * y) : Nat), .int .i64 0]) ∧ w = w' := by
  have hs : sqs [(x : Int), -(y : Int)] = x * x + y * y := by
    rw [sqs_cons, sqs_cons, sqs_nil]; simp
  have hlt : isqrt (x * x + y * y) < 9223372036854775808 := by
    have h1 : x * x ≤ 1073741824 * 1073741824 := Nat.mul_le_mul (by omega) (by omega)
    have h2 : y * y ≤ 1073741824 * 1073741824 := Nat.mul_le_mul (by omega) (by omega)
    have h3 : x * x + y * y < 9223372036854775808 * 9223372036854775808 := Nat.lt_of_le_of_lt (Nat.add_le_add h1 h2) (by decide)
    rw [isqrt_lt (Nat.lt_trans h3 (by decide))]; exact h3
  have hyes : inI (hypQ [(x : Int), -(y : Int)]) = true := by unfold hypQ inI; rw [hs]; simp; omega
  refine (hypot_any [(x : Int), -(y : Int)] _ w (Or.inr ⟨by simp, b, 0, 2, rfl, h.lt, fun k hk => ?_⟩) (fun k hk => ?_)).mono fun e w' h => ⟨h.1.trans ?_, h.2⟩
  · rcases k with _ | _ | k
    · exact h.cellIs rfl
    · exact h.cellIs rfl
    · simp at hk; omega
  · rcases k with _ | _ | k
    · show I64 (x : Int); unfold I64; omega
    · show I64 (-(y : Int)); unfold I64; omega
    · simp at hk; omega
  · rw [if_neg (by simp), if_neg (by simp), fitV_yes hyes, fitE_yes hyes]; unfold hypQ; rw [hs]
theorem sqrt2 (x : Nat) (hx : x < 1073741824) (w : World) :
    Calls Try.prog 48 #[.int .i64 (x : Nat)] w fun e w' => e = .returned (.tuple #[.int .i64 (isqrt (x * 1073741824) : Nat), .int .i64 0]) ∧ w = w' := by
  refine (sqrt_any (x : Int) w (by unfold I64; omega)).mono fun e w' h => ⟨h.1.trans ?_, h.2⟩
  rw [if_neg (by omega), if_neg (by omega), Int.natAbs_natCast]
theorem least_facts (n T : Nat) (hT : T < 2147483648 * 2147483648) (hn : n = isqrt T) : n < 2147483648 ∧ n * n ≤ T ∧ T < (n + 1) * (n + 1) := by
  have h4 : T < 4 ^ 200 := Nat.lt_trans hT (by decide)
  obtain ⟨h1, h2⟩ := isqrt_spec h4
  rw [hn]
  exact ⟨(isqrt_lt h4).2 hT, h1, h2⟩
theorem wrap_nat {k : Nat} (h : k ≤ 4611686018427387904) : wrap64 (k : Int) = (k : Int) := wrap64_I ⟨by omega, by omega⟩
theorem sq_wrap (k : Nat) (h : k ≤ 2147483648) : wrap64 ((k : Int) * (k : Int)) = ((k * k : Nat) : Int) := by
  rw [← Int.natCast_mul]
  have h1 : k * k ≤ 2147483648 * 2147483648 := Nat.mul_le_mul h h
  exact wrap_nat (Nat.le_trans h1 (by decide))
theorem succ_cast (n : Nat) : (n : Int) + 1 = ((n + 1 : Nat) : Int) := rfl
theorem dec_le {a b : Nat} (h : a ≤ b) : decide ((a : Int) ≤ (b : Int)) = true := decide_eq_true (Int.ofNat_le.2 h)
theorem dec_lt {a b : Nat} (h : a < b) : decide ((a : Int) < (b : Int)) = true := decide_eq_true (Int.ofNat_lt.2 h)
/-- A root: what is asked of it. -/
theorem root_pack (T : Nat) (hT : T < 2147483648 * 2147483648) : ∃ n m N N' : Nat, n = isqrt T ∧ wrap64 ((n : Int) * (n : Int)) = (N : Int) ∧ wrap64 ((n : Int) + 1) = (m : Int) ∧ wrap64 ((m : Int) * (m : Int)) = (N' : Int) ∧
    decide ((0 : Int) ≤ (n : Int)) = true ∧ decide ((n : Int) < 2147483648) = true ∧ decide ((N : Int) ≤ (T : Int)) = true ∧ decide ((T : Int) < (N' : Int)) = true ∧ decide (n < 2147483648) = true ∧ decide (N ≤ T) = true ∧ decide (T < N') = true := by
  obtain ⟨n1, n2, n3⟩ := least_facts (isqrt T) T hT rfl
  generalize isqrt T = n at *
  refine ⟨n, n + 1, n * n, (n + 1) * (n + 1), rfl, sq_wrap n (by omega), wrap64_I ⟨by omega, by omega⟩, ?_, decide_eq_true (by omega), decide_eq_true (by omega), dec_le n2, dec_lt n3, decide_eq_true n1, decide_eq_true n2, decide_eq_true n3⟩
  exact sq_wrap (n + 1) (by omega)
theorem sq_small (x : Nat) (hx : x < 1073741824) : x * x ≤ 1152921504606846976 := Nat.le_trans (Nat.mul_le_mul (Nat.le_of_lt hx) (Nat.le_of_lt hx)) (by decide)
/-- All that is asked of the two roots. -/
theorem least_pack (x y : Nat) (hx : x < 1073741824) (hy : y < 1073741824) : ∃ X Y Z L n m N N' s r S S' : Nat, Z = x * x + y * y ∧ L = x * 1073741824 ∧ n = isqrt (x * x + y * y) ∧ s = isqrt (x * 1073741824) ∧
    (wrap64 ((x : Int) * (x : Int)) = (X : Int) ∧ wrap64 ((y : Int) * (y : Int)) = (Y : Int) ∧ wrap64 ((X : Int) + (Y : Int)) = (Z : Int) ∧ wrap64 ((x : Int) * 1073741824) = (L : Int)) ∧
    (wrap64 ((n : Int) * (n : Int)) = (N : Int) ∧ wrap64 ((n : Int) + 1) = (m : Int) ∧ wrap64 ((m : Int) * (m : Int)) = (N' : Int) ∧
    decide ((0 : Int) ≤ (n : Int)) = true ∧ decide ((n : Int) < 2147483648) = true ∧ decide ((N : Int) ≤ (Z : Int)) = true ∧ decide ((Z : Int) < (N' : Int)) = true ∧ decide (n < 2147483648) = true ∧ decide (N ≤ Z) = true ∧ decide (Z < N') = true) ∧
    (wrap64 ((s : Int) * (s : Int)) = (S : Int) ∧ wrap64 ((s : Int) + 1) = (r : Int) ∧ wrap64 ((r : Int) * (r : Int)) = (S' : Int) ∧
    decide ((0 : Int) ≤ (s : Int)) = true ∧ decide ((s : Int) < 2147483648) = true ∧ decide ((S : Int) ≤ (L : Int)) = true ∧ decide ((L : Int) < (S' : Int)) = true ∧ decide (s < 2147483648) = true ∧ decide (S ≤ L) = true ∧ decide (L < S') = true) := by
  have hX := sq_small x hx
  have hY := sq_small y hy
  have wx := sq_wrap x (by omega)
  have wy := sq_wrap y (by omega)
  have hL : x * 1073741824 ≤ 1152921504606846976 := by omega
  have wl : wrap64 ((x : Int) * 1073741824) = ((x * 1073741824 : Nat) : Int) := by
    have : ((x * 1073741824 : Nat) : Int) = (x : Int) * 1073741824 := by omega
    rw [← this]; exact wrap_nat (by omega)
  generalize x * x = X at *
  generalize y * y = Y at *
  have wz : wrap64 ((X : Int) + (Y : Int)) = ((X + Y : Nat) : Int) := by
    rw [← Int.natCast_add]; exact wrap_nat (by omega)
  obtain ⟨n, m, N, N', hn, r1⟩ := root_pack (X + Y) (by omega)
  obtain ⟨s, r, S, S', hs, r2⟩ := root_pack (x * 1073741824) (by omega)
  exact ⟨X, Y, X + Y, x * 1073741824, n, m, N, N', s, r, S, S', rfl, rfl, hn, hs, ⟨wx, wy, wz, wl⟩, r1, r2⟩
set_option maxRecDepth 100000 in
set_option maxHeartbeats 1000000 in
theorem least_any (a b : Nat) (w : World) (ha : a < 4294967296) (hb : b < 4294967296) : Calls Try.prog 11 #[.int .u32 a, .int .u32 b] w fun e w' => e = .returned (.bool true) ∧ Below w.heap.size w w' := by
  obtain ⟨x, hx⟩ : ∃ x, x = a % 1073741824 := ⟨_, rfl⟩
  obtain ⟨y, hy⟩ : ∃ y, y = b % 1073741824 := ⟨_, rfl⟩
  have hx0 : (a : Int) % 1073741824 = (x : Int) := by omega
  have hy0 : (b : Int) % 1073741824 = (y : Int) := by omega
  have hx1 : x < 1073741824 := by omega
  have hy1 : y < 1073741824 := by omega
  clear ha hb hx hy
  obtain ⟨X, Y, Z, L, n, m, N, N', s, r, S, S', hZ, hL, hn, hs, ⟨w1, w2, w3, w4⟩, ⟨n1, n2, n3, n4, n5, n6, n7, n5'', n6'', n7''⟩, ⟨s1, s2, s3, s4, s5, s6, s7, s5'', s6'', s7''⟩⟩ := least_pack x y hx1 hy1
  have eL : ((L : Nat) : Int) = (x : Int) * 1073741824 := by rw [hL]; exact Int.natCast_mul _ _
  rw [eL] at s6 s7 w4
  clear eL hL
  have H_n1 := Lib.hid n1
  have H_n2 := Lib.hid n2
  have H_n3 := Lib.hid n3
  have H_n4 := Lib.hid n4
  have H_n5 := Lib.hid n5
  have H_n6 := Lib.hid n6
  have H_n7 := Lib.hid n7
  have H_s1 := Lib.hid s1
  have H_s2 := Lib.hid s2
  have H_s3 := Lib.hid s3
  have H_s4 := Lib.hid s4
  have H_s5 := Lib.hid s5
  have H_s6 := Lib.hid s6
  have H_s7 := Lib.hid s7
  have H_n5qq := Lib.hid n5''
  have H_s5qq := Lib.hid s5''
  have H_n6qq := Lib.hid n6''
  have H_n7qq := Lib.hid n7''
  have H_s6qq := Lib.hid s6''
  have H_s7qq := Lib.hid s7''
  clear n1 n2 n3 n4 n5 n6 n7 s1 s2 s3 s4 s5 s6 s7 n5'' s5'' n6'' n7'' s6'' s7''
  have C1 := Lib.hid (fun b w h => hyp2 x y hx1 hy1 b w h)
  have C2 := Lib.hid (fun w => sqrt2 x hx1 w)
  rw [← hn] at C1
  rw [← hs] at C2
  clear hZ hn hs
  have hB : More w w := Below.refl _ _
  go_enter Try.func11, Try.ntmps11
  go_upto_region 2 with (fail)
  go_upto_region 3 with (go_at_call 50; refine (C1.out _ _ (blk.new w _ _)).mono ?_; rintro e w2 ⟨rfl, rfl⟩; have hb : More w (w.alloc (Obj.cells #[.int .i64 (x : Nat), .int .i64 (-(y : Nat) : Int)] 2)) := Below.alloc (Below.refl _ _) (Nat.le_refl _) _; replace hB := More.trans hB hb; clear hb)
  go_upto_region 4 with (go_at_call 48; refine (C2.out _).mono ?_; rintro e w3 ⟨rfl, rfl⟩)
  go_upto_region 5 with (fail)
  first | rw [w3] | skip
  first | rw [w4] | skip
  clear w1 w2 w3 w4 hx0 hy0 hx1 hy1
  have n1 := H_n1.out
  have n2 := H_n2.out
  have n3 := H_n3.out
  have n4 := H_n4.out
  have n5 := H_n5.out
  have n6 := H_n6.out
  have n7 := H_n7.out
  have s1 := H_s1.out
  have s2 := H_s2.out
  have s3 := H_s3.out
  have s4 := H_s4.out
  have s5 := H_s5.out
  have s6 := H_s6.out
  have s7 := H_s7.out
  have n5'' := H_n5qq.out
  have s5'' := H_s5qq.out
  have n6'' := H_n6qq.out
  have n7'' := H_n7qq.out
  have s6'' := H_s6qq.out
  have s7'' := H_s7qq.out
  go_wp2_with (go_at_call 42; refine (awakeF_any _).mono ?_; rintro e w1 ⟨rfl, hb⟩; replace hB := More.trans hB hb; clear hb)
  go_ret
  exact ⟨rfl, hB⟩
end Go.Proofs.Ytmanfiphdmmgdaa
