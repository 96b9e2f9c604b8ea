/-
  FixedCircle returns true: the walk.
-/
import Derived.Test.YtmanfiphdmmgdaaCirc
import Derived.Test.YtmanfiphdmmgdaaNearF
set_option linter.unusedSimpArgs false
set_option linter.unusedVariables false
namespace Go.Proofs.Ytmanfiphdmmgdaa
open Go.RowKit PM Dt
/-- What the calls return. -/
structure CircF (t tn th tq tm : Nat) (s c : Int) : Prop where
  s0 : ∀ w, Calls Try.prog 46 #[.int .u32 t] w fun x w' => x = .returned (.int .i64 s) ∧ Below w.heap.size w w'
  c0 : ∀ w, Calls Try.prog 47 #[.int .u32 t] w fun x w' => x = .returned (.int .i64 c) ∧ Below w.heap.size w w'
  s1 : ∀ w, Calls Try.prog 46 #[.int .u32 tn] w fun x w' => x = .returned (.int .i64 (-s)) ∧ Below w.heap.size w w'
  s2 : ∀ w, Calls Try.prog 46 #[.int .u32 th] w fun x w' => x = .returned (.int .i64 (-s)) ∧ Below w.heap.size w w'
  c1 : ∀ w, Calls Try.prog 47 #[.int .u32 tn] w fun x w' => x = .returned (.int .i64 c) ∧ Below w.heap.size w w'
  s3 : ∀ w, Calls Try.prog 46 #[.int .u32 tq] w fun x w' => x = .returned (.int .i64 c) ∧ Below w.heap.size w w'
  s4 : ∀ w, Calls Try.prog 46 #[.int .u32 tm] w fun x w' => x = .returned (.int .i64 c) ∧ Below w.heap.size w w'
theorem circ_calls {t : Nat} (ht : t < 4294967296) : CircF t ((4294967296 - t) % 4294967296) ((t + 2147483648) % 4294967296) ((t + 1073741824) % 4294967296) ((5368709120 - t) % 4294967296) (sinV t) (cosV t) where
  s0 w := sin_any t w ht
  c0 w := cos_any t w ht
  s1 w := (sin_any _ w (by omega)).mono fun e w' h => ⟨h.1.trans (by rw [sinV_neg ht]), h.2⟩
  s2 w := (sin_any _ w (by omega)).mono fun e w' h => ⟨h.1.trans (by rw [sinV_half ht]), h.2⟩
  c1 w := (cos_any _ w (by omega)).mono fun e w' h => ⟨h.1.trans (by rw [show sinV (((4294967296 - t) % 4294967296 + 1073741824) % 4294967296) = cosV t from cosV_neg ht]), h.2⟩
  s3 w := sin_any _ w (by omega)
  s4 w := (sin_any _ w (by omega)).mono fun e w' h => ⟨h.1.trans (by rw [sin_other ht]), h.2⟩
theorem sq_le30 {s : Int} (h1 : -1073741824 ≤ s) (h2 : s ≤ 1073741824) : 0 ≤ s * s ∧ s * s ≤ 1152921504606846976 := by
  have := bmul h1 h2 h1 h2
  have h0 : 0 ≤ s * s := by
    rcases Int.le_total 0 s with h | h
    · exact Int.mul_nonneg h h
    · exact Int.mul_nonneg_of_nonpos_of_nonpos h h
  omega
set_option maxRecDepth 100000 in
set_option maxHeartbeats 2000000 in
theorem circle_any (t : Nat) (w : World) (ht : t < 4294967296) : Calls Try.prog 9 #[.int .u32 t] w fun e w' => e = .returned (.bool true) ∧ Below w.heap.size w w' := by
  have hC := circ_calls ht
  have h1 : IntKind.u32.wrap (-(t : Int)) = (((4294967296 - t) % 4294967296 : Nat) : Int) := by simp only [IntKind.wrap_u32]; omega
  have h2 : IntKind.u32.wrap ((t : Int) + 2147483648) = (((t + 2147483648) % 4294967296 : Nat) : Int) := by simp only [IntKind.wrap_u32]; omega
  have h3 : IntKind.u32.wrap ((t : Int) + 1073741824) = (((t + 1073741824) % 4294967296 : Nat) : Int) := by simp only [IntKind.wrap_u32]; omega
  have h4 : IntKind.u32.wrap (1073741824 - (t : Int)) = (((5368709120 - t) % 4294967296 : Nat) : Int) := by simp only [IntKind.wrap_u32]; omega
  have sb := sinV_bound ht
  have cb : -1073741824 ≤ cosV t ∧ cosV t ≤ 1073741824 := by unfold cosV; exact sinV_bound (by omega)
  have hq := circle ht
  generalize hs : sinV t = s at *
  generalize hc : cosV t = c at *
  generalize htn : (4294967296 - t) % 4294967296 = tn at *
  generalize hth : (t + 2147483648) % 4294967296 = th at *
  generalize htq : (t + 1073741824) % 4294967296 = tq at *
  generalize htm : (5368709120 - t) % 4294967296 = tm at *
  clear hs hc htn hth htq htm
  have HC := Lib.hid hC
  have d1 : decide (s < -1073741824) = false := decide_eq_false (by omega)
  have d2 : decide (1073741824 < s) = false := decide_eq_false (by omega)
  have d3 : decide (c < -1073741824) = false := decide_eq_false (by omega)
  have d4 : decide (1073741824 < c) = false := decide_eq_false (by omega)
  have w1 : wrap64 (-s) = -s := wrap64_I ⟨by omega, by omega⟩
  have qs := sq_le30 sb.1 sb.2
  have qc := sq_le30 cb.1 cb.2
  obtain ⟨P, hP⟩ : ∃ P, P = s * s := ⟨_, rfl⟩
  obtain ⟨Q, hQ⟩ : ∃ Q, Q = c * c := ⟨_, rfl⟩
  rw [← hP] at qs
  rw [← hQ] at qc
  rw [← hP, ← hQ] at hq
  have w2 : wrap64 (s * s) = P := by rw [← hP]; exact wrap64_I ⟨by omega, by omega⟩
  have w3 : wrap64 (c * c) = Q := by rw [← hQ]; exact wrap64_I ⟨by omega, by omega⟩
  have w4 : wrap64 (P + Q) = P + Q := wrap64_I ⟨by omega, by omega⟩
  have n1 := Lib.hid (show I64 (P + Q - 17179869184) from ⟨by omega, by omega⟩)
  have n2 := Lib.hid (show I64 (1152921504606846976 - 17179869184) from ⟨by omega, by omega⟩)
  have n3 := Lib.hid (show P + Q - 17179869184 ≤ 1152921504606846976 by omega)
  have n4 := Lib.hid (show (1152921504606846976 : Int) - 17179869184 ≤ P + Q by omega)
  clear hC sb cb qs qc hP hQ hq ht
  have hB : More w w := Below.refl _ _
  go_enter Try.func9, Try.ntmps9
  go_wp2_with (first
    | (go_at_call 46; with_reducible refine (HC.out.s0 _).mono ?_; rintro e1 w1 ⟨rfl, hb⟩; replace hB := More.trans hB hb; clear hb)
    | (go_at_call 46; with_reducible refine (HC.out.s1 _).mono ?_; rintro e1 w1 ⟨rfl, hb⟩; replace hB := More.trans hB hb; clear hb)
    | (go_at_call 46; with_reducible refine (HC.out.s2 _).mono ?_; rintro e1 w1 ⟨rfl, hb⟩; replace hB := More.trans hB hb; clear hb)
    | (go_at_call 46; with_reducible refine (HC.out.s3 _).mono ?_; rintro e1 w1 ⟨rfl, hb⟩; replace hB := More.trans hB hb; clear hb)
    | (go_at_call 46; with_reducible refine (HC.out.s4 _).mono ?_; rintro e1 w1 ⟨rfl, hb⟩; replace hB := More.trans hB hb; clear hb)
    | (go_at_call 47; with_reducible refine (HC.out.c0 _).mono ?_; rintro e1 w1 ⟨rfl, hb⟩; replace hB := More.trans hB hb; clear hb)
    | (go_at_call 47; with_reducible refine (HC.out.c1 _).mono ?_; rintro e1 w1 ⟨rfl, hb⟩; replace hB := More.trans hB hb; clear hb)
    | (rw [h1]) | (rw [h2]) | (rw [h3]) | (rw [h4])
    | (go_at_call 44; refine (near_any _ _ _ _ n1.out n2.out n3.out n4.out).mono ?_; rintro e1 w1 ⟨rfl, rfl⟩)
    | (go_at_call 42; refine (awakeF_any _).mono ?_; rintro e w1 ⟨rfl, hb⟩; replace hB := More.trans hB hb; clear hb))
  go_ret
  exact ⟨rfl, hB⟩
end Go.Proofs.Ytmanfiphdmmgdaa
