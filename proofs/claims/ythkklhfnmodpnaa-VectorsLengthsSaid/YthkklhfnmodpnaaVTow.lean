/-
  Shortened vectors, in the package: quotients toward zero, and Limit.
-/
import Derived.Test.YthkklhfnmodpnaaVLst
set_option linter.unusedSimpArgs false
set_option linter.unusedVariables false
namespace Go.Proofs.Ythkklhfnmodpnaa
open Go.RowKit PM Dt
def towV (a : Int) (m n : Nat) : Int := if a < 0 then -((a.natAbs * m / n : Nat) : Int) else ((a.natAbs * m / n : Nat) : Int)
theorem tow_le {x m n : Nat} (hn : 0 < n) (h : x ≤ n) : x * m / n ≤ m :=
  Nat.div_le_of_le_mul (Nat.mul_le_mul h (Nat.le_refl m))
theorem tow_hi {x m n : Nat} (hn : 0 < n) (h : x ≤ n) (hm : m ≤ 1099511627776) : x * m / 18446744073709551616 < n := by
  have h1 : x * m ≤ n * 1099511627776 := Nat.mul_le_mul h hm
  omega
theorem tow_wraps {q : Nat} (h : q ≤ 1099511627776) : IntKind.i64.wrap (q : Int) = (q : Int) ∧ IntKind.i64.wrap (-(q : Int)) = -(q : Int) ∧ wrap64 (q : Int) = (q : Int) ∧ wrap64 (-(q : Int)) = -(q : Int) :=
  ⟨by rw [IntKind.wrap_i64]; omega, by rw [IntKind.wrap_i64]; omega, by unfold wrap64; omega, by unfold wrap64; omega⟩
theorem tow_wrapA {a : Int} {A : Nat} (hA : A = a.natAbs) (h : A ≤ 2199023255552) : [wrap64 (-a)].foldl mx a = (A : Int) := by
  have hwn : wrap64 (-a) = -a := by unfold wrap64; omega
  rw [hwn]; show mx a (-a) = _; unfold mx; split <;> omega
theorem tow_wrapU {q : Nat} (h : q ≤ 2199023255552) : IntKind.u64.wrap (q : Int) = (q : Int) := by rw [IntKind.wrap_u64]; omega
set_option maxRecDepth 100000 in
set_option maxHeartbeats 1000000 in
theorem toward_any (a : Int) (m n : Nat) (w : World) (hn : 0 < n) (hN : n ≤ 2199023255552) (ha : a.natAbs ≤ n) (hm : m ≤ 1099511627776) :
    Calls Try.prog 91 #[.int .i64 a, .int .i64 m, .int .i64 n] w fun e w' => e = .returned (.int .i64 (towV a m n)) ∧ Below w.heap.size w w' := by
  obtain ⟨A, hA⟩ : ∃ A, A = a.natAbs := ⟨_, rfl⟩
  have M := Lib.hid (fun w => mul64_any A m w (by omega) (by omega))
  have hq := tow_le (m := m) hn ha
  have hh := tow_hi hn ha hm
  rw [← hA] at hq hh
  obtain ⟨R, hR⟩ : ∃ R, towV a m n = R := ⟨_, rfl⟩
  rw [hR]
  unfold towV at hR
  rw [← hA] at hR
  have D := Lib.hid (fun w => div64_any (A * m / 18446744073709551616) (A * m % 18446744073709551616) n w hh (by omega) (by omega))
  have e : A * m / 18446744073709551616 * 18446744073709551616 + A * m % 18446744073709551616 = A * m := by omega
  rw [e] at D
  clear e hh
  generalize A * m / 18446744073709551616 = H at *
  generalize A * m % 18446744073709551616 = L at *
  generalize A * m % n = R2 at *
  obtain ⟨q, hqq⟩ : ∃ q, A * m / n = q := ⟨_, rfl⟩
  rw [hqq] at D hq hR
  obtain ⟨hwq, hwq2, hwq', hwq2'⟩ := tow_wraps (Nat.le_trans hq hm)
  have hM := Lib.hid (tow_wrapA hA (Nat.le_trans (Nat.le_of_eq hA) (Nat.le_trans ha hN)))
  have hwA : IntKind.u64.wrap (A : Int) = (A : Int) := tow_wrapU (Nat.le_trans (Nat.le_of_eq hA) (Nat.le_trans ha hN))
  have hwm : IntKind.u64.wrap (m : Int) = (m : Int) := tow_wrapU (Nat.le_trans hm (by decide))
  have hwN : IntKind.u64.wrap (n : Int) = (n : Int) := tow_wrapU hN
  have HR := Lib.hid hR
  clear hR hq hqq hN hn ha hm hA
  by_cases h0 : a < 0
  · have d0 : decide (a < 0) = true := decide_eq_true h0
    have H0 := Lib.hid h0
    go_enter Try.func91, Try.ntmps91
    go_upto_region 2 with (first | (refine wpList_max rfl rfl _ _ _ hM.out rfl ?_) | (go_at_call 104; refine (M.out _).mono ?_; rintro e w1 ⟨rfl, rfl⟩))
    go_upto_region 3 with (go_at_call 113; refine (D.out _).mono ?_; rintro e w1 ⟨rfl, hb⟩)
    go_wp2_with (fail)
    go_ret
    refine ⟨?_, hb⟩
    rw [← HR.out, if_pos H0.out]; rfl
  · have d0 : decide (a < 0) = false := decide_eq_false h0
    have H0 := Lib.hid h0
    go_enter Try.func91, Try.ntmps91
    go_upto_region 2 with (first | (refine wpList_max rfl rfl _ _ _ hM.out rfl ?_) | (go_at_call 104; refine (M.out _).mono ?_; rintro e w1 ⟨rfl, rfl⟩))
    go_upto_region 3 with (go_at_call 113; refine (D.out _).mono ?_; rintro e w1 ⟨rfl, hb⟩)
    go_wp2_with (fail)
    go_ret
    refine ⟨?_, hb⟩
    rw [← HR.out, if_neg (by have := H0.out; omega)]; rfl
end Go.Proofs.Ythkklhfnmodpnaa
