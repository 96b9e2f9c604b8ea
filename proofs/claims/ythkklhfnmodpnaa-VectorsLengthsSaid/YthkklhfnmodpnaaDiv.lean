/-
  The division of two words by one (math/bits.Div64), and the product of two words (math/bits.Mul64): what they return.
-/
import Derived.Test.YthkklhfnmodpnaaRefR
import Derived.Test.YthkklhfnmodpnaaShelf
import Derived.Deep.Cut
import Derived.Deep.CutRange
import Derived.Deep.CutBlock
import Derived.Lib.BitFns
namespace Go.Proofs.Ythkklhfnmodpnaa
open Go.RowKit PM Dt
theorem lz64_any (x : Int) (w : World) (h0 : 0 ≤ x) (h1 : x ≤ 18446744073709551615) :
    Calls Try.prog 122 #[.int .u64 x] w fun e w' => e = .returned (.int .i64 (64 - (Lib.bitLen x.toNat : Int))) ∧ w = w' :=
  (Try.bits_LeadingZeros64 x w h0 h1).mono fun _ _ h => ⟨h.1, h.2.symm⟩
theorem mul64_any (x y : Nat) (w : World) (hx : x < 18446744073709551616) (hy : y < 18446744073709551616) :
    Calls Try.prog 104 #[.int .u64 x, .int .u64 y] w fun e w' => e = .returned (.tuple #[.int .u64 ((x * y / 18446744073709551616 : Nat) : Int), .int .u64 ((x * y % 18446744073709551616 : Nat) : Int)]) ∧ w = w' :=
  (Try.bits_Mul64 x y hx hy w).mono fun _ _ h => ⟨h.1, h.2.symm⟩
theorem bitLen_pos {x : Nat} (h : x ≠ 0) (h2 : x < 2 ^ 64) : 1 ≤ Lib.bitLen x := by rw [Lib.bitLen_half x h h2]; omega
theorem bitLen_lt {x : Nat} (h : x ≠ 0) (h2 : x < 2 ^ 64) : x < 2 ^ Lib.bitLen x ∧ 2 ^ (Lib.bitLen x - 1) ≤ x := by
  constructor
  · apply Nat.lt_of_not_le; intro h3
    have e := Lib.bitLen_shift _ x h3 h2
    have p : 1 ≤ x / 2 ^ Lib.bitLen x := (Nat.le_div_iff_mul_le (Nat.pos_of_ne_zero (by simp))).2 (by omega)
    have := bitLen_pos (x := x / 2 ^ Lib.bitLen x) (by omega) (Nat.lt_of_le_of_lt (Nat.div_le_self _ _) h2)
    omega
  · apply Nat.le_of_not_lt; intro h3
    have h1 := bitLen_pos h h2
    have hk : Lib.bitLen x ≤ 64 := Lib.bitLen_le x 64 (by omega) h2
    have := Lib.bitLen_le x (Lib.bitLen x - 1) (by omega) h3
    omega
theorem dstep {n qn rn V1 : Nat} (h : n = qn * V1 + rn) (hq : 0 < qn) : n = (qn - 1) * V1 + (rn + V1) := by
  obtain ⟨k, rfl⟩ : ∃ k, qn = k + 1 := ⟨qn - 1, by omega⟩
  rw [h, Nat.add_mul, Nat.one_mul, Nat.add_sub_cancel]; omega
theorem dexit {n qn rn V1 V0 u : Nat} (h : n = qn * V1 + rn) (hq : 0 < qn) (hq2 : qn ≤ 4294967297) (hV0 : V0 < 4294967296) (hV1 : 0 < V1) (ho : 4294967296 ≤ rn + V1) :
    qn - 1 ≤ (n * 4294967296 + u) / (V1 * 4294967296 + V0) := by
  refine div_le hV1 (dstep h hq) ?_
  have : (qn - 1) * V0 ≤ 4294967296 * 4294967295 := Nat.mul_le_mul (by omega) (by omega)
  omega
set_option maxRecDepth 100000 in
set_option maxHeartbeats 4000000 in
theorem div64_big (hi lo y : Nat) (w : World) (hh0 : 0 < hi) (hh : hi < y) (hl : lo < 18446744073709551616) (hy : y < 18446744073709551616) :
    Calls Try.prog 113 #[.int .u64 hi, .int .u64 lo, .int .u64 y] w fun e w' => e = .returned (.tuple #[.int .u64 (((hi * 18446744073709551616 + lo) / y : Nat) : Int), .int .u64 (((hi * 18446744073709551616 + lo) % y : Nat) : Int)]) ∧ w = w' := by
  have z1 : ((y : Int) == 0) = false := by simp; omega
  have z2 : ((hi : Int) == 0) = false := by simp; omega
  have z3 : decide (y ≤ hi) = false := by simp; omega
  have hbl := bitLen_pos (x := y) (by omega) (by omega)
  have hbl2 : Lib.bitLen y ≤ 64 := Lib.bitLen_le y 64 (by omega) (by omega)
  obtain ⟨hb1, hb2⟩ := bitLen_lt (x := y) (by omega) (by omega)
  obtain ⟨s, hs⟩ : ∃ s, s = 64 - Lib.bitLen y := ⟨_, rfl⟩
  have hs63 : s ≤ 63 := by omega
  obtain ⟨K, hK⟩ : ∃ K, K = 2 ^ s := ⟨_, rfl⟩
  have hK0 : 0 < K := by rw [hK]; exact Nat.pos_of_ne_zero (by simp)
  obtain ⟨V, hVe⟩ : ∃ V, V = y * K := ⟨_, rfl⟩
  have hVlo : 9223372036854775808 ≤ V := by
    rw [hVe, hK]
    have := Nat.mul_le_mul_right (2 ^ s) hb2
    rw [← Nat.pow_add, show Lib.bitLen y - 1 + s = 63 by omega] at this
    omega
  have hVhi : V < 18446744073709551616 := by
    rw [hVe, hK]
    have := Nat.mul_lt_mul_of_pos_right hb1 (show 0 < 2 ^ s from Nat.pos_of_ne_zero (by simp))
    rw [← Nat.pow_add, show Lib.bitLen y + s = 64 by omega] at this
    omega
  have hhK : hi * K + K ≤ V := by
    rw [hVe]
    have := Nat.mul_le_mul_right K (show hi + 1 ≤ y by omega)
    rw [Nat.add_mul, Nat.one_mul] at this; exact this
  obtain ⟨L, hLe⟩ : ∃ L, L = lo / 2 ^ (64 - s) := ⟨_, rfl⟩
  have hKK : K * 2 ^ (64 - s) = 18446744073709551616 := by rw [hK, ← Nat.pow_add, show s + (64 - s) = 64 by omega]
  have hLK : L < K := by
    rw [hLe, Nat.div_lt_iff_lt_mul (Nat.pos_of_ne_zero (by simp)), hKK]; exact hl
  have hLe2 : lo * K / 18446744073709551616 = L := by
    rw [hLe, ← hKK, Nat.mul_comm lo K, Nat.mul_div_mul_left _ _ hK0]
  obtain ⟨U, hUe⟩ : ∃ U, U = hi * K + L := ⟨_, rfl⟩
  have hUV : U < V := by omega
  obtain ⟨T, hTe⟩ : ∃ T, T = lo * K % 18446744073709551616 := ⟨_, rfl⟩
  have hT : T < 18446744073709551616 := by omega
  obtain ⟨V1, hV1e⟩ : ∃ V1, V1 = V / 4294967296 := ⟨_, rfl⟩
  obtain ⟨V0, hV0e⟩ : ∃ V0, V0 = V % 4294967296 := ⟨_, rfl⟩
  have hV : V = V1 * 4294967296 + V0 := by omega
  have hV1 : 2147483648 ≤ V1 := by omega
  have hV1p : 0 < V1 := by omega
  have hV1h : V1 < 4294967296 := by omega
  have hV0 : V0 < 4294967296 := by omega
  obtain ⟨u1, hu1e⟩ : ∃ u, u = T / 4294967296 := ⟨_, rfl⟩
  obtain ⟨u0, hu0e⟩ : ∃ u, u = T % 4294967296 := ⟨_, rfl⟩
  have hu1 : u1 < 4294967296 := by omega
  have hu0 : u0 < 4294967296 := by omega
  obtain ⟨Q1, hQ1⟩ : ∃ Q, Q = (U * 4294967296 + u1) / V := ⟨_, rfl⟩
  obtain ⟨R1, hR1⟩ : ∃ R, R = (U * 4294967296 + u1) % V := ⟨_, rfl⟩
  obtain ⟨Q0, hQ0⟩ : ∃ Q, Q = (R1 * 4294967296 + u0) / V := ⟨_, rfl⟩
  obtain ⟨R0, hR0⟩ : ∃ R, R = (R1 * 4294967296 + u0) % V := ⟨_, rfl⟩
  have hR1V : R1 < V := by rw [hR1]; exact Nat.mod_lt _ (by omega)
  have hR0V : R0 < V := by rw [hR0]; exact Nat.mod_lt _ (by omega)
  have hQ1lt : Q1 < 4294967296 := by rw [hQ1, hV]; exact div_digit_lt hu1 (by rw [← hV]; exact hUV)
  have hQ0lt : Q0 < 4294967296 := by rw [hQ0, hV]; exact div_digit_lt hu0 (by rw [← hV]; exact hR1V)
  have hE1 : U * 4294967296 + u1 = V * Q1 + R1 := by rw [hQ1, hR1]; exact (Nat.div_add_mod _ _).symm
  have hE0 : R1 * 4294967296 + u0 = V * Q0 + R0 := by rw [hQ0, hR0]; exact (Nat.div_add_mod _ _).symm
  have hdiv : (hi * 18446744073709551616 + lo) / y = Q1 * 4294967296 + Q0 ∧ (hi * 18446744073709551616 + lo) % y = R0 / K := by
    have e : (hi * 18446744073709551616 + lo) * K = U * 18446744073709551616 + (u1 * 4294967296 + u0) := by
      have h1 := Nat.div_add_mod (lo * K) 18446744073709551616
      rw [hLe2, ← hTe] at h1
      have h2 : T = u1 * 4294967296 + u0 := by omega
      rw [hUe, Nat.add_mul, Nat.add_mul, ← h2, ← h1]
      have : hi * 18446744073709551616 * K = hi * K * 18446744073709551616 := by rw [Nat.mul_assoc, Nat.mul_comm 18446744073709551616, ← Nat.mul_assoc]
      omega
    obtain ⟨d1, d2⟩ := div_shift (N := hi * 18446744073709551616 + lo) (y := y) hK0
    obtain ⟨t1, t2⟩ := div_two (V := V) (n := U) (u1 := u1) (u0 := u0) (by omega)
    rw [← d1, ← d2, e, ← hVe, t1, t2, ← hQ1, ← hR1, ← hQ0, ← hR0]
    exact ⟨rfl, rfl⟩
  -- what the walk meets
  have W8 : 64 - (Lib.bitLen y : Int) = (s : Int) := by omega
  have W2 : IntKind.u64.wrap ((y : Int) * 2 ^ s) = (V : Int) := by
    rw [IntKind.wrap_u64, hVe, hK]; rw [hVe, hK] at hVhi
    have : ((y * 2 ^ s : Nat) : Int) = (y : Int) * 2 ^ s := by simp
    omega
  clear hb1 hb2
  have HW8 := Lib.hid W8
  have HW2 := Lib.hid W2
  have HV := Lib.hid hV
  have HQ1 := Lib.hid hQ1
  have HQ0 := Lib.hid hQ0
  have HU := Lib.hid (show U < V1 * 4294967296 + V0 by omega)
  have HR1 := Lib.hid (show R1 < V1 * 4294967296 + V0 by omega)
  have HQ1lt := Lib.hid hQ1lt
  have HQ0lt := Lib.hid hQ0lt
  have HDIV := Lib.hid hdiv
  have HE1 := Lib.hid hE1
  have HE0 := Lib.hid hE0
  have W9 := Lib.hid (show (V : Int) / 4294967296 = (V1 : Int) by omega)
  have W10 := Lib.hid (show bits .and .u64 (V : Int) 4294967295 = (V0 : Int) by
    rw [show (4294967295 : Int) = ((4294967295 : Nat) : Int) from rfl, bits_and_u64_nat V _ hVhi (by omega), show V &&& 4294967295 = V % 4294967296 from Nat.and_two_pow_sub_one_eq_mod V 32, hV0e])
  have W11 := Lib.hid (show bits .or .u64 (IntKind.u64.wrap ((hi : Int) * 2 ^ s)) ((lo : Int) / 2 ^ (64 - s)) = (U : Int) by
    have e1 : IntKind.u64.wrap ((hi : Int) * 2 ^ s) = ((hi * K : Nat) : Int) := by
      rw [IntKind.wrap_u64]
      have : ((hi * K : Nat) : Int) = (hi : Int) * 2 ^ s := by rw [hK]; simp
      omega
    have e2 : (lo : Int) / 2 ^ (64 - s) = (L : Int) := by
      rw [hLe]; simp
    rw [e1, e2, bits_or_u64_nat _ _ (by omega) (by omega), hUe]
    rw [Nat.mul_comm hi K, hK, Nat.two_pow_add_eq_or_of_lt (by rw [← hK]; exact hLK)])
  have W12 := Lib.hid (show IntKind.u64.wrap ((lo : Int) * 2 ^ s) = (T : Int) by
    rw [IntKind.wrap_u64, hTe, hK]; simp)
  have W13 := Lib.hid (show (T : Int) / 4294967296 = (u1 : Int) by omega)
  have W14 := Lib.hid (show bits .and .u64 (T : Int) 4294967295 = (u0 : Int) by
    rw [show (4294967295 : Int) = ((4294967295 : Nat) : Int) from rfl, bits_and_u64_nat T _ hT (by omega), show T &&& 4294967295 = T % 4294967296 from Nat.and_two_pow_sub_one_eq_mod T 32, hu0e])
  obtain ⟨qa, hqa⟩ : ∃ q, q = U / V1 := ⟨_, rfl⟩
  obtain ⟨ra, hra⟩ : ∃ q, q = U % V1 := ⟨_, rfl⟩
  have hqr : U = V1 * qa + ra := by rw [hqa, hra]; exact (Nat.div_add_mod _ _).symm
  have hqaU : qa ≤ U := by rw [hqa]; exact Nat.div_le_self _ _
  have hraV : ra < V1 := by rw [hra]; exact Nat.mod_lt _ hV1p
  have w15 : IntKind.u64.wrap ((U : Int) / (V1 : Int)) = (qa : Int) := by
    have e : ((U / V1 : Nat) : Int) = (U : Int) / (V1 : Int) := by simp
    rw [IntKind.wrap_u64, ← e, ← hqa]; omega
  have w16 : IntKind.u64.wrap ((U : Int) - IntKind.u64.wrap ((qa : Int) * (V1 : Int))) = (ra : Int) := by
    have e : ((V1 * qa : Nat) : Int) = (qa : Int) * (V1 : Int) := by rw [Nat.mul_comm]; simp
    rw [IntKind.wrap_u64, IntKind.wrap_u64, ← e]; omega
  have W15 := Lib.hid w15
  have W16 := Lib.hid w16
  clear w15 w16
  obtain ⟨qb, hqb⟩ : ∃ q, q = R1 / V1 := ⟨_, rfl⟩
  obtain ⟨rb, hrb⟩ : ∃ q, q = R1 % V1 := ⟨_, rfl⟩
  have hqrb : R1 = V1 * qb + rb := by rw [hqb, hrb]; exact (Nat.div_add_mod _ _).symm
  have hqbR : qb ≤ R1 := by rw [hqb]; exact Nat.div_le_self _ _
  have hrbV : rb < V1 := by rw [hrb]; exact Nat.mod_lt _ hV1p
  have w18 : IntKind.u64.wrap ((R1 : Int) / (V1 : Int)) = (qb : Int) := by
    have e : ((R1 / V1 : Nat) : Int) = (R1 : Int) / (V1 : Int) := by simp
    rw [IntKind.wrap_u64, ← e, ← hqb]; omega
  have w19 : IntKind.u64.wrap ((R1 : Int) - IntKind.u64.wrap ((qb : Int) * (V1 : Int))) = (rb : Int) := by
    have e : ((V1 * qb : Nat) : Int) = (qb : Int) * (V1 : Int) := by rw [Nat.mul_comm]; simp
    rw [IntKind.wrap_u64, IntKind.wrap_u64, ← e]; omega
  have w17 : IntKind.u64.wrap (IntKind.u64.wrap (IntKind.u64.wrap ((U : Int) * 4294967296) + (u1 : Int)) - IntKind.u64.wrap ((Q1 : Int) * (V : Int))) = (R1 : Int) := by
    have e : ((V * Q1 : Nat) : Int) = (Q1 : Int) * (V : Int) := by rw [Nat.mul_comm]; simp
    rw [IntKind.wrap_u64, IntKind.wrap_u64, IntKind.wrap_u64, IntKind.wrap_u64, ← e]; omega
  have w20 : IntKind.u64.wrap (IntKind.u64.wrap (IntKind.u64.wrap ((R1 : Int) * 4294967296) + (u0 : Int)) - IntKind.u64.wrap ((Q0 : Int) * (V : Int))) = (R0 : Int) := by
    have e : ((V * Q0 : Nat) : Int) = (Q0 : Int) * (V : Int) := by rw [Nat.mul_comm]; simp
    rw [IntKind.wrap_u64, IntKind.wrap_u64, IntKind.wrap_u64, IntKind.wrap_u64, ← e]; omega
  have W17 := Lib.hid w17
  have W18 := Lib.hid w18
  have W19 := Lib.hid w19
  have W20 := Lib.hid w20
  have HQB := Lib.hid hqb
  have HRB := Lib.hid hrb
  clear w17 w18 w19 w20 hqb hrb hqrb hqbR
  have HHrbV := Lib.hid hrbV
  clear hrbV
  have HQA := Lib.hid hqa
  have HRA := Lib.hid hra
  clear hqa hra hqr
  clear W8 W2 hs hVe hV hLe hLe2 hUe hTe hV1e hV0e hu1e hu0e hQ1 hR1 hQ0 hR0 hE1 hE0 hdiv hKK
  have HHV1 := Lib.hid hV1
  have HHV1p := Lib.hid hV1p
  have HHV1h := Lib.hid hV1h
  have HHV0 := Lib.hid hV0
  have HHu1 := Lib.hid hu1
  have HHu0 := Lib.hid hu0
  have HHVhi := Lib.hid hVhi
  have HHVlo := Lib.hid hVlo
  have HHraV := Lib.hid hraV
  have HHR1V := Lib.hid hR1V
  have HHR0V := Lib.hid hR0V
  have HHK0 := Lib.hid hK0
  have HHK := Lib.hid hK
  have HHs := Lib.hid hs63
  have hV1h' : (V1 : Int) < 4294967296 := by omega
  have hV1l' : (2147483648 : Int) ≤ (V1 : Int) := by omega
  have hV0' : (V0 : Int) < 4294967296 := by omega
  have hu1' : (u1 : Int) < 4294967296 := by omega
  have hu0' : (u0 : Int) < 4294967296 := by omega
  clear hK hV1 hV1p hV1h hV0 hu1 hu0 hhK hLK hUV hT hR1V hR0V hqaU hraV hQ1lt hQ0lt hK0
  go_enter Try.func113, Try.ntmps113
  go_upto_region 8 with (go_at_call 122; refine (lz64_any _ _ (by omega) (by omega)).mono ?_; rintro e w1 ⟨rfl, rfl⟩)
  rw [HW8.out]
  go_upto_region 9 with (fail)
  rw [HW2.out]
  go_upto_region 10 with (fail)
  rw [W9.out]
  go_upto_region 11 with (fail)
  rw [W10.out]
  go_upto_region 12 with (fail)
  rw [W11.out]
  go_upto_region 13 with (fail)
  rw [W12.out]
  go_upto_region 14 with (fail)
  rw [W13.out]
  go_upto_region 15 with (fail)
  rw [W14.out]
  go_upto_region 16 with (fail)
  rw [W15.out]
  go_upto_block 0 with (fail)
  rw [W16.out]

  go_cut [15] from 67 to 85 (fun qv w' => qv = .int .u64 (Q1 : Nat) ∧ w = w')
  case first =>
    clear hVhi hVlo hs63 hbl2 hbl z1 z2 z3 hy hl hh hh0
    go_wp2_with (fail)
    go_loopg [15, 16] qa (fun qn qv rv wr => ∃ rn : Nat, qv = .int .u64 (qn : Nat) ∧ rv = .int .u64 (rn : Nat) ∧ Hid (U = qn * V1 + rn) ∧ Hid (rn < 4294967296) ∧ Hid (Q1 ≤ qn) ∧ Hid (qn ≤ 4294967297) ∧ w = wr)
    case atStart =>
      refine ⟨ra, rfl, rfl, ?_, ?_, ?_, ?_, rfl⟩
      · show _ = _; rw [HQA.out, HRA.out, Nat.mul_comm]; exact (Nat.div_add_mod _ _).symm
      · show _ < _; have := HHraV.out; have := HHV1h.out; omega
      · show _ ≤ _; rw [HQ1.out, HV.out, HQA.out]; exact div_guess HHV1p.out HHu1.out
      · show _ ≤ _; rw [HQA.out]; exact div_guess_le HHV1.out HHV0.out HU.out
    case round =>
      obtain ⟨rn, rfl, rfl, hnq, hrn, hQ, hqb, rfl⟩ := hrel
      obtain ⟨qn, rfl⟩ : ∃ q, q = gk := ⟨_, rfl⟩
      by_cases hbig : 4294967296 ≤ qn
      · have HGT := Lib.hid (show Q1 < qn by have := HQ1lt.out; omega)
        have hbI : (4294967296 : Int) ≤ (qn : Int) := by omega
        have hbB : decide ((4294967296 : Int) ≤ (qn : Int)) = true := decide_eq_true hbI
        have hbN : ¬ ((qn : Int) < 4294967296) := by omega
        have hrn' : (rn : Int) < 4294967296 := by have := hrn.out; omega
        have hqb' : (qn : Int) ≤ 4294967297 := by have := hqb.out; omega
        clear hbig
        by_cases hov : 4294967296 ≤ rn + V1
        · have hoB : decide ((4294967296 : Int) ≤ (rn : Int) + (V1 : Int)) = true := decide_eq_true (by omega)
          have HOV := Lib.hid hov
          clear hov
          go_wp2_with (fail)
          go_meet
          case rel =>
            refine ⟨?_, rfl⟩
            have h1 := HGT.out
            have h2 := dexit (u := u1) (V0 := V0) hnq.out (by omega) hqb.out HHV0.out HHV1p.out HOV.out
            rw [← HV.out, ← HQ1.out] at h2
            rw [show (qn : Int) - 1 = ((Q1 : Nat) : Int) by omega]
        · have hoB : decide ((4294967296 : Int) ≤ (rn : Int) + (V1 : Int)) = false := decide_eq_false (by omega)
          have HOV := Lib.hid hov
          clear hov
          go_wp2_with (fail)
          go_roundg (qn - 1)
          case rel =>
            have h1 := HGT.out
            have h2 := HOV.out
            have h3 := hqb.out
            have h4 := dstep hnq.out (by omega)
            refine ⟨rn + V1, ?_, by simp, h4, ?_, ?_, ?_, rfl⟩
            · rw [show (qn : Int) - 1 = ((qn - 1 : Nat) : Int) by omega]
            · show _ < _; omega
            · show _ ≤ _; omega
            · show _ ≤ _; omega
          case measure => have := HGT.out; omega
      · have hm : qn * V0 ≤ 4294967295 * 4294967295 := Nat.mul_le_mul (by omega) (by have := HHV0.out; omega)
        have hbI : (qn : Int) < 4294967296 := by omega
        have hbB : decide ((4294967296 : Int) ≤ (qn : Int)) = false := decide_eq_false (by omega)
        have hrn' : (rn : Int) < 4294967296 := by have := hrn.out; omega
        clear hbig
        by_cases ht : 4294967296 * rn + u1 < qn * V0
        · have HGT := Lib.hid (show Q1 < qn by rw [HQ1.out, HV.out]; exact div_big hnq.out ht)
          have htB : decide (4294967296 * (rn : Int) + (u1 : Int) < (qn : Int) * (V0 : Int)) = true := decide_eq_true (by omega)
          have hq1 : (1 : Int) ≤ (qn : Int) := by have := HGT.out; omega
          clear ht
          by_cases hov : 4294967296 ≤ rn + V1
          · have hoB : decide ((4294967296 : Int) ≤ (rn : Int) + (V1 : Int)) = true := decide_eq_true (by omega)
            have HOV := Lib.hid hov
            clear hov
            go_wp2_with (fail)
            go_meet
            case rel =>
              refine ⟨?_, rfl⟩
              have h1 := HGT.out
              have h2 := dexit (u := u1) (V0 := V0) hnq.out (by omega) hqb.out HHV0.out HHV1p.out HOV.out
              rw [← HV.out, ← HQ1.out] at h2
              rw [show (qn : Int) - 1 = ((Q1 : Nat) : Int) by omega]
          · have hoB : decide ((4294967296 : Int) ≤ (rn : Int) + (V1 : Int)) = false := decide_eq_false (by omega)
            have HOV := Lib.hid hov
            clear hov
            go_wp2_with (fail)
            go_roundg (qn - 1)
            case rel =>
              have h1 := HGT.out
              have h2 := HOV.out
              have h3 := hqb.out
              have h4 := dstep hnq.out (by omega)
              refine ⟨rn + V1, ?_, by simp, h4, ?_, ?_, ?_, rfl⟩
              · rw [show (qn : Int) - 1 = ((qn - 1 : Nat) : Int) by omega]
              · show _ < _; omega
              · show _ ≤ _; omega
              · show _ ≤ _; omega
            case measure => have := HGT.out; omega
        · have htB : decide (4294967296 * (rn : Int) + (u1 : Int) < (qn : Int) * (V0 : Int)) = false := decide_eq_false (by omega)
          have HT := Lib.hid ht
          clear ht
          go_wp2_with (fail)
          go_meet
          case rel =>
            refine ⟨?_, rfl⟩
            have h2 := div_le HHV1p.out hnq.out HT.out
            rw [← HV.out, ← HQ1.out] at h2
            have h3 := hQ.out
            rw [show qn = Q1 by omega]
  case rest =>
    obtain ⟨rfl, rfl⟩ := hcut
    clear hVhi hVlo hs63 hbl2 hbl z1 z2 z3 hy hl hh hh0
    go_upto_region 22 with (fail)
    rw [W17.out]
    go_upto_region 23 with (fail)
    rw [W18.out]
    go_upto_block 2 with (fail)
    rw [W19.out]
    go_cut [18] from 102 to 120 (fun qv w' => qv = .int .u64 (Q0 : Nat) ∧ w = w')
    case first =>
      go_wp2_with (fail)
      go_loopg [18, 16] qb (fun qn qv rv wr => ∃ rn : Nat, qv = .int .u64 (qn : Nat) ∧ rv = .int .u64 (rn : Nat) ∧ Hid (R1 = qn * V1 + rn) ∧ Hid (rn < 4294967296) ∧ Hid (Q0 ≤ qn) ∧ Hid (qn ≤ 4294967297) ∧ w = wr)
      case atStart =>
        refine ⟨rb, rfl, rfl, ?_, ?_, ?_, ?_, rfl⟩
        · show _ = _; rw [HQB.out, HRB.out, Nat.mul_comm]; exact (Nat.div_add_mod _ _).symm
        · show _ < _; have := HHrbV.out; have := HHV1h.out; omega
        · show _ ≤ _; rw [HQ0.out, HV.out, HQB.out]; exact div_guess HHV1p.out HHu0.out
        · show _ ≤ _; rw [HQB.out]; exact div_guess_le HHV1.out HHV0.out HR1.out
      case round =>
        obtain ⟨rn, rfl, rfl, hnq, hrn, hQ, hqb, rfl⟩ := hrel
        obtain ⟨qn, rfl⟩ : ∃ q, q = gk := ⟨_, rfl⟩
        by_cases hbig : 4294967296 ≤ qn
        · have HGT := Lib.hid (show Q0 < qn by have := HQ0lt.out; omega)
          have hbI : (4294967296 : Int) ≤ (qn : Int) := by omega
          have hbB : decide ((4294967296 : Int) ≤ (qn : Int)) = true := decide_eq_true hbI
          have hbN : ¬ ((qn : Int) < 4294967296) := by omega
          have hrn' : (rn : Int) < 4294967296 := by have := hrn.out; omega
          have hqb' : (qn : Int) ≤ 4294967297 := by have := hqb.out; omega
          clear hbig
          by_cases hov : 4294967296 ≤ rn + V1
          · have hoB : decide ((4294967296 : Int) ≤ (rn : Int) + (V1 : Int)) = true := decide_eq_true (by omega)
            have HOV := Lib.hid hov
            clear hov
            go_wp2_with (fail)
            go_meet
            case rel =>
              refine ⟨?_, rfl⟩
              have h1 := HGT.out
              have h2 := dexit (u := u0) (V0 := V0) hnq.out (by omega) hqb.out HHV0.out HHV1p.out HOV.out
              rw [← HV.out, ← HQ0.out] at h2
              rw [show (qn : Int) - 1 = ((Q0 : Nat) : Int) by omega]
          · have hoB : decide ((4294967296 : Int) ≤ (rn : Int) + (V1 : Int)) = false := decide_eq_false (by omega)
            have HOV := Lib.hid hov
            clear hov
            go_wp2_with (fail)
            go_roundg (qn - 1)
            case rel =>
              have h1 := HGT.out
              have h2 := HOV.out
              have h3 := hqb.out
              have h4 := dstep hnq.out (by omega)
              refine ⟨rn + V1, ?_, by simp, h4, ?_, ?_, ?_, rfl⟩
              · rw [show (qn : Int) - 1 = ((qn - 1 : Nat) : Int) by omega]
              · show _ < _; omega
              · show _ ≤ _; omega
              · show _ ≤ _; omega
            case measure => have := HGT.out; omega
        · have hm : qn * V0 ≤ 4294967295 * 4294967295 := Nat.mul_le_mul (by omega) (by have := HHV0.out; omega)
          have hbI : (qn : Int) < 4294967296 := by omega
          have hbB : decide ((4294967296 : Int) ≤ (qn : Int)) = false := decide_eq_false (by omega)
          have hrn' : (rn : Int) < 4294967296 := by have := hrn.out; omega
          clear hbig
          by_cases ht : 4294967296 * rn + u0 < qn * V0
          · have HGT := Lib.hid (show Q0 < qn by rw [HQ0.out, HV.out]; exact div_big hnq.out ht)
            have htB : decide (4294967296 * (rn : Int) + (u0 : Int) < (qn : Int) * (V0 : Int)) = true := decide_eq_true (by omega)
            have hq1 : (1 : Int) ≤ (qn : Int) := by have := HGT.out; omega
            clear ht
            by_cases hov : 4294967296 ≤ rn + V1
            · have hoB : decide ((4294967296 : Int) ≤ (rn : Int) + (V1 : Int)) = true := decide_eq_true (by omega)
              have HOV := Lib.hid hov
              clear hov
              go_wp2_with (fail)
              go_meet
              case rel =>
                refine ⟨?_, rfl⟩
                have h1 := HGT.out
                have h2 := dexit (u := u0) (V0 := V0) hnq.out (by omega) hqb.out HHV0.out HHV1p.out HOV.out
                rw [← HV.out, ← HQ0.out] at h2
                rw [show (qn : Int) - 1 = ((Q0 : Nat) : Int) by omega]
            · have hoB : decide ((4294967296 : Int) ≤ (rn : Int) + (V1 : Int)) = false := decide_eq_false (by omega)
              have HOV := Lib.hid hov
              clear hov
              go_wp2_with (fail)
              go_roundg (qn - 1)
              case rel =>
                have h1 := HGT.out
                have h2 := HOV.out
                have h3 := hqb.out
                have h4 := dstep hnq.out (by omega)
                refine ⟨rn + V1, ?_, by simp, h4, ?_, ?_, ?_, rfl⟩
                · rw [show (qn : Int) - 1 = ((qn - 1 : Nat) : Int) by omega]
                · show _ < _; omega
                · show _ ≤ _; omega
                · show _ ≤ _; omega
              case measure => have := HGT.out; omega
          · have htB : decide (4294967296 * (rn : Int) + (u0 : Int) < (qn : Int) * (V0 : Int)) = false := decide_eq_false (by omega)
            have HT := Lib.hid ht
            clear ht
            go_wp2_with (fail)
            go_meet
            case rel =>
              refine ⟨?_, rfl⟩
              have h2 := div_le HHV1p.out hnq.out HT.out
              rw [← HV.out, ← HQ0.out] at h2
              have h3 := hQ.out
              rw [show qn = Q0 by omega]
    case rest =>
      obtain ⟨rfl, rfl⟩ := hcut
      go_wp2_with (fail)
      go_ret2
      refine ⟨ret2I ?_ ?_, rfl⟩
      · rw [HDIV.out.1, IntKind.wrap_u64, IntKind.wrap_u64]
        have h1 := HQ1lt.out
        have h2 := HQ0lt.out
        omega
      · rw [W20.out, HDIV.out.2, show min s 64 = s by have := HHs.out; omega, HHK.out]; simp
set_option maxRecDepth 100000 in
set_option maxHeartbeats 400000 in
theorem div64_small (lo y : Nat) (w : World) (hh : 0 < y) (hl : lo < 18446744073709551616) (hy : y < 18446744073709551616) :
    Calls Try.prog 113 #[.int .u64 0, .int .u64 lo, .int .u64 y] w fun e w' => e = .returned (.tuple #[.int .u64 ((lo / y : Nat) : Int), .int .u64 ((lo % y : Nat) : Int)]) ∧ Below w.heap.size w w' := by
  have z1 : ((y : Int) == 0) = false := by simp; omega
  have z3 : decide ((y : Int) ≤ 0) = false := by simp; omega
  have z4 : (0 : Int) < (y : Int) := by omega
  have b1 := Nat.div_le_self lo y
  have b2 := Nat.mod_le lo y
  have e1 : (lo : Int) / (y : Int) = ((lo / y : Nat) : Int) := by simp
  have e2 : (lo : Int) % (y : Int) = ((lo % y : Nat) : Int) := by simp
  have w1 : IntKind.u64.wrap ((lo : Int) / (y : Int)) = ((lo / y : Nat) : Int) := by
    rw [e1]; clear e1 e2 z1 z3 z4; generalize lo / y = q at *; rw [IntKind.wrap_u64]; omega
  have w2 : IntKind.u64.wrap ((lo : Int) % (y : Int)) = ((lo % y : Nat) : Int) := by
    rw [e2]; clear e1 e2 z1 z3 z4; generalize lo % y = q at *; rw [IntKind.wrap_u64]; omega
  have W1 := Lib.hid w1
  have W2 := Lib.hid w2
  have E2 := Lib.hid e2
  clear e1 e2 w1 w2 b1 b2 hl hy hh
  go_enter Try.func113, Try.ntmps113
  go_upto_region 6 with (fail)
  go_region
  go_wp2_with (fail)
  go_ret2
  refine ⟨ret2I ?_ ?_, by exact (Below.refl _ _).drew⟩
  · first | exact W1.out | simp
  · first | exact W2.out | exact E2.out | simp
theorem div64_any (hi lo y : Nat) (w : World) (hh : hi < y) (hl : lo < 18446744073709551616) (hy : y < 18446744073709551616) :
    Calls Try.prog 113 #[.int .u64 hi, .int .u64 lo, .int .u64 y] w fun e w' => e = .returned (.tuple #[.int .u64 (((hi * 18446744073709551616 + lo) / y : Nat) : Int), .int .u64 (((hi * 18446744073709551616 + lo) % y : Nat) : Int)]) ∧ Below w.heap.size w w' := by
  by_cases h0 : hi = 0
  · subst h0
    refine (div64_small lo y w hh hl hy).mono ?_
    rintro e w1 ⟨rfl, hb⟩
    rw [Nat.zero_mul, Nat.zero_add]
    exact ⟨rfl, hb⟩
  · refine (div64_big hi lo y w (by omega) hh hl hy).mono ?_
    rintro e w1 ⟨rfl, rfl⟩
    exact ⟨rfl, Below.refl _ _⟩
end Go.Proofs.Ythkklhfnmodpnaa
