/-
  Products, quotients and Clamp of package fixed: what they return.
-/
import Derived.Test.YthkklhfnmodpnaaDiv
set_option linter.unusedSimpArgs false
set_option linter.unusedVariables false
namespace Go.Proofs.Ythkklhfnmodpnaa
open Go.RowKit PM Dt
set_option maxHeartbeats 400000 in
theorem size_any (a : Int) (w : World) (h : I64 a) :
    Calls Try.prog 105 #[.int .i64 a] w fun e w' => e = .returned (.int .u64 (a.natAbs : Nat)) ∧ w = w' := by
  obtain ⟨h0, h1⟩ := h
  go_enter Try.func105, Try.ntmps105
  go_wp2
  all_goals go_ret
  · refine ⟨congrArg (fun n => Ending.returned (.int .u64 n)) ?_, rfl⟩
    simp only [IntKind.wrap_u64]; omega
  · refine ⟨congrArg (fun n => Ending.returned (.int .u64 n)) ?_, rfl⟩
    omega
set_option maxRecDepth 100000 in
set_option maxHeartbeats 400000 in
theorem signed_any (neg : Bool) (n : Nat) (w : World) (h : n < 18446744073709551616) :
    Calls Try.prog 114 #[.bool neg, .int .u64 n] w fun e w' => e = .returned (.tuple #[.int .i64 (fitV (sgn neg n)), .int .i64 (fitE (sgn neg n))]) ∧ w = w' := by
  have HF := Lib.hid (show ∀ neg, inI (sgn neg n) = true ↔ (if neg then n ≤ 9223372036854775808 else n ≤ 9223372036854775807) by
    intro neg; cases neg <;> simp [inI, sgn] <;> omega)
  cases neg
  all_goals
    go_enter Try.func114, Try.ntmps114
    go_wp2
  all_goals go_ret2
  · have hf : inI (sgn false n) = true := (HF.out false).2 (by simp; omega)
    exact ⟨ret2I (by rw [fitV_yes hf]; rfl) (by rw [fitE_yes hf]), rfl⟩
  · have hf : inI (sgn false n) = false := by
      rw [Bool.eq_false_iff]; intro hc; have := (HF.out false).1 hc; simp at this; omega
    exact ⟨ret2I (by rw [fitV_no hf]) (by rw [fitE_no hf]), rfl⟩
  · have hf : inI (sgn true n) = true := (HF.out true).2 (by simp; omega)
    refine ⟨ret2I ?_ (by rw [fitE_yes hf]), rfl⟩
    rw [fitV_yes hf]
    simp only [sgn, if_true, wrap64] <;> omega
  · have hf : inI (sgn true n) = false := by
      rw [Bool.eq_false_iff]; intro hc; have := (HF.out true).1 hc; simp at this; omega
    exact ⟨ret2I (by rw [fitV_no hf]) (by rw [fitE_no hf]), rfl⟩
theorem ratio_zero (a b : Int) : ratioV a b 0 = 0 ∧ ratioE a b 0 = 2 := ⟨rfl, rfl⟩
set_option maxRecDepth 100000 in
set_option maxHeartbeats 1000000 in
theorem ratio_any (a b c : Int) (w : World) (ha : I64 a) (hb : I64 b) (hc : I64 c) :
    Calls Try.prog 82 #[.int .i64 a, .int .i64 b, .int .i64 c] w fun e w' => e = .returned (.tuple #[.int .i64 (ratioV a b c), .int .i64 (ratioE a b c)]) ∧ Below w.heap.size w w' := by
  by_cases hc0 : c = 0
  · subst hc0
    go_enter Try.func82, Try.ntmps82
    go_wp2_with (fail)
    go_ret2
    exact ⟨rfl, Below.refl _ _⟩
  have hV : ratioV a b c = fitV (ratioQ a b c) := by unfold ratioV; rw [if_neg hc0]
  have hE : ratioE a b c = fitE (ratioQ a b c) := by unfold ratioE; rw [if_neg hc0]
  rw [hV, hE]
  clear hV hE
  have hcz : (c == 0) = false := by simpa using hc0
  obtain ⟨neg, hneg⟩ : ∃ neg, neg = ((decide (a < 0) != decide (b < 0)) != decide (c < 0)) := ⟨_, rfl⟩
  obtain ⟨A, hA⟩ : ∃ A, A = a.natAbs := ⟨_, rfl⟩
  obtain ⟨B, hB⟩ : ∃ B, B = b.natAbs := ⟨_, rfl⟩
  obtain ⟨C, hC⟩ : ∃ C, C = c.natAbs := ⟨_, rfl⟩
  have ha' := ha
  have hb' := hb
  have hc' := hc
  obtain ⟨ha1, ha2⟩ := ha'
  obtain ⟨hb1, hb2⟩ := hb'
  obtain ⟨hc1, hc2⟩ := hc'
  have hA64 : A < 18446744073709551616 := by omega
  have hB64 : B < 18446744073709551616 := by omega
  have hC63 : C ≤ 9223372036854775808 := by omega
  have hC0 : 0 < C := by omega
  obtain ⟨Q, hQ⟩ : ∃ Q, Q = A * B / C := ⟨_, rfl⟩
  obtain ⟨r, hr⟩ : ∃ r, r = A * B % C := ⟨_, rfl⟩
  have hqr : A * B = C * Q + r := by rw [hQ, hr]; exact (Nat.div_add_mod _ _).symm
  have hrC : r < C := by rw [hr]; exact Nat.mod_lt _ hC0
  have hrat := ratioQ_of (a := a) (b := b) (c := c) (A := A) (B := B) (C := C) (q := Q) (r := r) neg (by omega) (by omega) (by omega) (by omega) (by omega) (by omega)
    (by rw [← Int.natCast_mul, hqr, Int.natCast_add, Int.natCast_mul]) (by omega) (by omega) hneg
  obtain ⟨H, hH⟩ : ∃ H, H = A * B / 18446744073709551616 := ⟨_, rfl⟩
  obtain ⟨L, hL⟩ : ∃ L, L = A * B % 18446744073709551616 := ⟨_, rfl⟩
  have hHL : H * 18446744073709551616 + L = A * B := by rw [hH, hL]; omega
  have hL64 : L < 18446744073709551616 := by rw [hL]; omega
  have HRAT := Lib.hid hrat
  have HNEG := Lib.hid (show neg = !((!(decide (a < 0) == decide (b < 0))) == decide (c < 0)) from hneg)
  have HHH := Lib.hid hH
  have HHL := Lib.hid hL
  have HAA := Lib.hid hA
  have HBB := Lib.hid hB
  have HCC := Lib.hid hC
  have HQQ := Lib.hid hQ
  have HRR := Lib.hid hr
  have HSUM := Lib.hid hHL
  have HA64 := Lib.hid hA64
  have HB64 := Lib.hid hB64
  have HL64 := Lib.hid hL64
  have HC63 := Lib.hid hC63
  have HRC := Lib.hid hrC
  have HI1 := Lib.hid ha
  have HI2 := Lib.hid hb
  have HI3 := Lib.hid hc
  clear hrat hneg hH hL hA hB hC hQ hr hHL hA64 hB64 hL64 hC63 ha hb hc hqr hrC hc0 hC0 ha1 ha2 hb1 hb2 hc1 hc2
  go_enter Try.func82, Try.ntmps82
  go_upto_region 4 with (fail)
  rw [← HNEG.out]
  go_upto_region 5 with (first | (go_at_call 105; refine (size_any _ _ (by first | exact HI1.out | exact HI2.out)).mono ?_; rintro e w1 ⟨rfl, rfl⟩; first | rw [← HAA.out] | rw [← HBB.out]) | (go_at_call 104; refine (mul64_any _ _ _ HA64.out HB64.out).mono ?_; rintro e w1 ⟨rfl, rfl⟩; rw [← HHH.out, ← HHL.out]))
  go_upto_region 6 with (go_at_call 105; refine (size_any _ _ HI3.out).mono ?_; rintro e w1 ⟨rfl, rfl⟩; rw [← HCC.out])
  by_cases hHC : C ≤ H
  · have hd : decide (C ≤ H) = true := decide_eq_true hHC
    have hQb : 18446744073709551616 ≤ Q := by
      rw [HQQ.out, Nat.le_div_iff_mul_le (Nat.lt_of_le_of_lt (Nat.zero_le r) HRC.out)]
      rw [HHH.out, Nat.le_div_iff_mul_le (by omega), Nat.mul_comm] at hHC
      exact hHC
    have HQB := Lib.hid hQb
    clear hHC hQb
    go_wp2_with (fail)
    go_ret2
    have hf : inI (ratioQ a b c) = false := by
      have := HQB.out
      rw [HRAT.out]
      cases neg <;> simp only [inI, if_true, if_false, Bool.false_eq_true] <;> split <;> simp <;> omega
    exact ⟨ret2I (fitV_no hf).symm (fitE_no hf).symm, Below.refl _ _⟩
  · have hd : decide (C ≤ H) = false := decide_eq_false hHC
    have HHC := Lib.hid (show H < C by omega)
    have HC64 := Lib.hid (show C < 18446744073709551616 by have := HC63.out; omega)
    clear hHC
    go_upto_region 9 with (go_at_call 113; refine (div64_any H L C _ HHC.out HL64.out HC64.out).mono ?_; rintro e w1 ⟨rfl, hbw⟩; rw [HSUM.out, ← HQQ.out, ← HRR.out])
    by_cases hbig : 9223372036854775808 < Q
    · have hd2 : decide ((9223372036854775808 : Int) < (Q : Int)) = true := decide_eq_true (by omega)
      have HQB := Lib.hid hbig
      clear hbig
      go_wp2_with (fail)
      go_ret2
      have hf : inI (ratioQ a b c) = false := by
        have := HQB.out
        rw [HRAT.out]
        cases neg <;> simp only [inI, if_true, if_false, Bool.false_eq_true] <;> split <;> simp <;> omega
      exact ⟨ret2I (fitV_no hf).symm (fitE_no hf).symm, hbw⟩
    · have hd2 : decide ((9223372036854775808 : Int) < (Q : Int)) = false := decide_eq_false (by omega)
      have HQ63 := Lib.hid (show Q ≤ 9223372036854775808 by omega)
      have hw : IntKind.u64.wrap (2 * (r : Int)) = 2 * (r : Int) := by
        have := HRC.out; have := HC63.out; rw [IntKind.wrap_u64]; omega
      have hw2 : IntKind.u64.wrap ((Q : Int) + 1) = ((Q + 1 : Nat) : Int) := by
        have := HQ63.out; rw [IntKind.wrap_u64]; omega
      clear hbig
      by_cases h1 : C < 2 * r
      · have hd3 : decide ((C : Int) < 2 * (r : Int)) = true := decide_eq_true (by omega)
        have H1 := Lib.hid h1
        clear h1
        go_wp2_with (go_at_call 114; refine (signed_any _ (Q + 1) _ (by have := HQ63.out; omega)).mono ?_; rintro e w3 ⟨rfl, rfl⟩)
        go_ret2
        have e : ratioQ a b c = sgn neg (Q + 1) := by
          rw [HRAT.out]; have := H1.out; cases neg <;> simp only [sgn, if_true, if_false, Bool.false_eq_true] <;> split <;> omega
        exact ⟨ret2I (by rw [e]) (by rw [e]), hbw⟩
      · have hd3 : decide ((C : Int) < 2 * (r : Int)) = false := decide_eq_false (by omega)
        by_cases h2 : 2 * r = C
        · have hd4 : (2 * (r : Int) == (C : Int)) = true := by simp; omega
          have H2 := Lib.hid h2
          clear h1 h2
          cases neg
          · go_wp2_with (go_at_call 114; refine (signed_any _ (Q + 1) _ (by have := HQ63.out; omega)).mono ?_; rintro e w3 ⟨rfl, rfl⟩)
            go_ret2
            have e : ratioQ a b c = sgn false (Q + 1) := by
              rw [HRAT.out]; have := H2.out; simp only [sgn, if_false, Bool.false_eq_true]; split <;> omega
            exact ⟨ret2I (by rw [e]) (by rw [e]), hbw⟩
          · go_wp2_with (go_at_call 114; refine (signed_any _ Q _ (by have := HQ63.out; omega)).mono ?_; rintro e w3 ⟨rfl, rfl⟩)
            go_ret2
            have e : ratioQ a b c = sgn true (Q) := by
              rw [HRAT.out]; have := H2.out; simp only [sgn, if_true]; split <;> omega
            exact ⟨ret2I (by rw [e]) (by rw [e]), hbw⟩
        · have hd4 : (2 * (r : Int) == (C : Int)) = false := by simp; omega
          have H2 := Lib.hid (show 2 * r < C by omega)
          clear h1 h2
          go_wp2_with (go_at_call 114; refine (signed_any _ Q _ (by have := HQ63.out; omega)).mono ?_; rintro e w3 ⟨rfl, rfl⟩)
          go_ret2
          have e : ratioQ a b c = sgn neg (Q) := by
            rw [HRAT.out]; have := H2.out; cases neg <;> simp only [sgn, if_true, if_false, Bool.false_eq_true] <;> split <;> omega
          exact ⟨ret2I (by rw [e]) (by rw [e]), hbw⟩
set_option maxRecDepth 100000 in
set_option maxHeartbeats 400000 in
theorem mul_any (a b : Int) (w : World) (ha : I64 a) (hb : I64 b) :
    Calls Try.prog 100 #[.int .i64 a, .int .i64 b] w fun e w' => e = .returned (.tuple #[.int .i64 (ratioV a b 1073741824), .int .i64 (ratioE a b 1073741824)]) ∧ Below w.heap.size w w' := by
  go_enter Try.func100, Try.ntmps100
  go_wp2_with (go_at_call 82; refine (ratio_any _ _ _ _ ha hb (by unfold I64; omega)).mono ?_; rintro e w1 ⟨rfl, hb⟩)
  go_ret2
  exact ⟨rfl, hb⟩
/-- min(max(a, low), high). -/
def clampV (a low high : Int) : Int := if high < (if a < low then low else a) then high else (if a < low then low else a)
theorem ret1I {k : IntKind} {a b : Int} (h : a = b) : Ending.returned (.int k a) = Ending.returned (.int k b) := by rw [h]
end Go.Proofs.Ythkklhfnmodpnaa
