/-
  (*wide).add of package fixed: what it leaves, as a number.
-/
import Derived.Test.YthkklhfnmodpnaaWide
set_option linter.unusedSimpArgs false
set_option linter.unusedVariables false
namespace Go.Proofs.Ythkklhfnmodpnaa
open Go.RowKit PM Dt
theorem wideC_nat {T : Int} {a0 a1 a2 : Nat} (h0 : (a0 : Int) = T % 18446744073709551616) (h1 : (a1 : Int) = T / 18446744073709551616 % 18446744073709551616) (h2 : (a2 : Int) = T / 340282366920938463463374607431768211456 % 18446744073709551616) :
    wideC T = #[.int .u64 (a0 : Nat), .int .u64 (a1 : Nat), .int .u64 (a2 : Nat)] := by unfold wideC; rw [← h0, ← h1, ← h2]
theorem add_step (a x c : Nat) (ha : a < 18446744073709551616) (hx : x < 18446744073709551616) (hc : c ≤ 1) : ∃ r d : Nat, a + x + c = d * 18446744073709551616 + r ∧ r < 18446744073709551616 ∧ d ≤ 1 :=
  ⟨(a + x + c) % 18446744073709551616, (a + x + c) / 18446744073709551616, by omega, by omega, by omega⟩
theorem sub_step (a x c : Nat) (ha : a < 18446744073709551616) (hx : x < 18446744073709551616) (hc : c ≤ 1) : ∃ r d : Nat, a + d * 18446744073709551616 = r + x + c ∧ r < 18446744073709551616 ∧ d ≤ 1 := by
  rcases Nat.lt_or_ge a (x + c) with h | h
  · exact ⟨a + 18446744073709551616 - (x + c), 1, by omega, by omega, by omega⟩
  · exact ⟨a - (x + c), 0, by omega, by omega, by omega⟩
theorem add_int {a x c d r : Nat} (h : a + x + c = d * 18446744073709551616 + r) : (a : Int) + (x : Int) + (c : Int) = (d : Int) * 18446744073709551616 + (r : Int) := by omega
theorem sub_int {a x c d r : Nat} (h : a + d * 18446744073709551616 = r + x + c) : (a : Int) + (d : Int) * 18446744073709551616 = (r : Int) + (x : Int) + (c : Int) := by omega
theorem add_int0 {a x d r : Nat} (h : a + x + 0 = d * 18446744073709551616 + r) : (a : Int) + (x : Int) = (d : Int) * 18446744073709551616 + (r : Int) := by omega
theorem add_int2 {a c d r : Nat} (h : a + 0 + c = d * 18446744073709551616 + r) : (a : Int) + (c : Int) = (d : Int) * 18446744073709551616 + (r : Int) := by omega
theorem sub_int0 {a x d r : Nat} (h : a + d * 18446744073709551616 = r + x + 0) : (a : Int) + (d : Int) * 18446744073709551616 = (r : Int) + (x : Int) := by omega
theorem sub_int2 {a c d r : Nat} (h : a + d * 18446744073709551616 = r + 0 + c) : (a : Int) + (d : Int) * 18446744073709551616 = (r : Int) + (c : Int) := by omega
theorem nat_bd {r : Nat} (h : r < 18446744073709551616) : 0 ≤ (r : Int) ∧ (r : Int) < 18446744073709551616 := by omega
theorem word_of (T : Int) : ∃ a : Nat, (a : Int) = T % 18446744073709551616 ∧ a < 18446744073709551616 := ⟨(T % 18446744073709551616).toNat, by omega, by omega⟩
theorem two_words (hi lo : Nat) : ((hi * 18446744073709551616 + lo : Nat) : Int) = (hi : Int) * 18446744073709551616 + (lo : Int) := by omega
theorem add_r0 (a x r d : Nat) (ha : a < 18446744073709551616) (hx : x < 18446744073709551616) (h : a + x + 0 = d * 18446744073709551616 + r) (hr : r < 18446744073709551616) :
    Hid (∀ w1, (callFunc 108 #[.int .u64 a, .int .u64 x, .int .u64 0]).run Try.prog w1 = .ok (.value (.tuple #[.int .u64 (r : Int), .int .u64 (d : Int)])) w1) := by
  intro w1
  have h := add64c_run a x 0 r d ha hx (Nat.zero_le _) h hr w1
  rw [show ((0 : Nat) : Int) = 0 from rfl] at h
  exact h
theorem add_r2 (a c r d : Nat) (ha : a < 18446744073709551616) (hc : c ≤ 1) (h : a + 0 + c = d * 18446744073709551616 + r) (hr : r < 18446744073709551616) :
    Hid (∀ w1, (callFunc 108 #[.int .u64 a, .int .u64 0, .int .u64 c]).run Try.prog w1 = .ok (.value (.tuple #[.int .u64 (r : Int), .int .u64 (d : Int)])) w1) := by
  intro w1
  have h := add64c_run a 0 c r d ha (by omega) hc h hr w1
  rw [show ((0 : Nat) : Int) = 0 from rfl] at h
  exact h
theorem sub_r0 (a x r d : Nat) (ha : a < 18446744073709551616) (hx : x < 18446744073709551616) (h : a + d * 18446744073709551616 = r + x + 0) (hr : r < 18446744073709551616) :
    Hid (∀ w1, (callFunc 121 #[.int .u64 a, .int .u64 x, .int .u64 0]).run Try.prog w1 = .ok (.value (.tuple #[.int .u64 (r : Int), .int .u64 (d : Int)])) w1) := by
  intro w1
  have h := sub64_run a x 0 r d ha hx (Nat.zero_le _) h hr w1
  rw [show ((0 : Nat) : Int) = 0 from rfl] at h
  exact h
theorem sub_r2 (a c r d : Nat) (ha : a < 18446744073709551616) (hc : c ≤ 1) (h : a + d * 18446744073709551616 = r + 0 + c) (hr : r < 18446744073709551616) :
    Hid (∀ w1, (callFunc 121 #[.int .u64 a, .int .u64 0, .int .u64 c]).run Try.prog w1 = .ok (.value (.tuple #[.int .u64 (r : Int), .int .u64 (d : Int)])) w1) := by
  intro w1
  have h := sub64_run a 0 c r d ha (by omega) hc h hr w1
  rw [show ((0 : Nat) : Int) = 0 from rfl] at h
  exact h
theorem wide_any (g hi lo : Nat) (neg : Bool) (T : Int) (w : World) (hh : hi < 18446744073709551616) (hl : lo < 18446744073709551616) (hb0 : blk w g (wideC T) 83) :
    Calls Try.prog 106 #[.pointer (some ⟨g, 0, none⟩), .bool neg, .int .u64 hi, .int .u64 lo] w fun e w' => e = .returned (.tuple #[]) ∧ Oth g w w' ∧ blk w' g (wideC (T + sgn neg (hi * 18446744073709551616 + lo))) 83 := by
  obtain ⟨a0, h0, b0⟩ := word_of T
  obtain ⟨a1, h1, b1⟩ := word_of (T / 18446744073709551616)
  obtain ⟨a2, h2, b2⟩ := word_of (T / 340282366920938463463374607431768211456)
  rw [wideC_nat h0 h1 h2] at hb0
  cases neg
  · obtain ⟨r0, c0, e0, l0, k0⟩ := add_step a0 lo 0 b0 hl (Nat.zero_le _)
    obtain ⟨r1, c1, e1, l1, k1⟩ := add_step a1 hi c0 b1 hh k0
    obtain ⟨r2, c2, e2, l2, k2⟩ := add_step a2 0 c1 b2 (by decide) k1
    have i0 := add_int0 e0
    have i1 := add_int e1
    have i2 := add_int2 e2
    have key := wide_plus h0 h1 h2 i0 i1 i2 (nat_bd l0) (nat_bd l1) (nat_bd l2)
    refine (wideAdd_step g hi lo a0 a1 a2 r0 c0 r1 c1 r2 c2 w (add_r0 a0 lo r0 c0 b0 hl e0 l0) (fun w1 => add64c_run a1 hi c0 r1 c1 b1 hh k0 e1 l1 w1) (add_r2 a2 c1 r2 c2 b2 k1 e2 l2) hb0).mono fun e w' h => ⟨h.1, h.2.1, ?_⟩
    have e : T + sgn false (hi * 18446744073709551616 + lo) = T + ((hi : Int) * 18446744073709551616 + (lo : Int)) := congrArg (T + ·) (two_words hi lo)
    rw [e, wideC_nat key.1 key.2.1 key.2.2]; exact h.2.2
  · obtain ⟨r0, c0, e0, l0, k0⟩ := sub_step a0 lo 0 b0 hl (Nat.zero_le _)
    obtain ⟨r1, c1, e1, l1, k1⟩ := sub_step a1 hi c0 b1 hh k0
    obtain ⟨r2, c2, e2, l2, k2⟩ := sub_step a2 0 c1 b2 (by decide) k1
    have i0 := sub_int0 e0
    have i1 := sub_int e1
    have i2 := sub_int2 e2
    have key := wide_minus h0 h1 h2 i0 i1 i2 (nat_bd l0) (nat_bd l1) (nat_bd l2)
    refine (wideSub_step g hi lo a0 a1 a2 r0 c0 r1 c1 r2 c2 w (sub_r0 a0 lo r0 c0 b0 hl e0 l0) (fun w1 => sub64_run a1 hi c0 r1 c1 b1 hh k0 e1 l1 w1) (sub_r2 a2 c1 r2 c2 b2 k1 e2 l2) hb0).mono fun e w' h => ⟨h.1, h.2.1, ?_⟩
    have e : T + sgn true (hi * 18446744073709551616 + lo) = T - ((hi : Int) * 18446744073709551616 + (lo : Int)) := by
      unfold sgn; rw [if_pos rfl, two_words, Int.sub_eq_add_neg]
    rw [e, wideC_nat key.1 key.2.1 key.2.2]; exact h.2.2
end Go.Proofs.Ythkklhfnmodpnaa
