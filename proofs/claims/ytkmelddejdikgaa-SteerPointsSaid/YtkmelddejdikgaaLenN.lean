/-
  Vector products of small vectors: orthogonal to their factors within the bound, and of the other sign in the other order. No program in sight. Unit vectors and shortened vectors: their norms, directions and signs. No program in sight.
-/
import Derived.Test.YtkmelddejdikgaaVecG
import Derived.Test.YtkmelddejdikgaaLawVec
import Derived.Test.YtkmelddejdikgaaLenM
import Derived.Test.YtkmelddejdikgaaVLimP
set_option linter.unusedSimpArgs false
set_option linter.unusedVariables false
namespace Go.Proofs.Ytkmelddejdikgaa
open Go.RowKit PM Dt
theorem rnd_err (n : Int) : ∃ e, 1073741824 * rnd n = n + e ∧ -536870912 ≤ e ∧ e ≤ 536870912 := ⟨1073741824 * rnd n - n, by omega, by unfold rnd; omega, by unfold rnd; omega⟩
end Go.Proofs.Ytkmelddejdikgaa
namespace Go.Proofs.Ytkmelddejdikgaa
open Go.RowKit PM Dt
theorem norm_val {f : Nat → Int} (hk : okV f = true) : normE f = 0 ∧ ∃ N : Nat, normV f = N ∧ (N : Int) * N ≤ f 0 * f 0 + f 1 * f 1 + f 2 * f 2 ∧ f 0 * f 0 + f 1 * f 1 + f 2 * f 2 < ((N : Int) + 1) * ((N : Int) + 1) ∧ N < 2199023255552 := by
  obtain ⟨h1, h2, h3⟩ := lstN_spec hk
  have hh : hypQ [f 0, f 1, f 2] = ((lstN f : Nat) : Int) := rfl
  have hf := fit_of (q := ((lstN f : Nat) : Int)) (by omega) (by omega)
  have e := sqs3_i f
  refine ⟨by unfold normE; rw [hk, if_pos rfl, hh]; exact hf.2, lstN f, by unfold normV; rw [hk, if_pos rfl, hh]; exact hf.1, ?_, ?_, h3⟩
  · rw [← e]; exact_mod_cast h1
  · rw [← e]; exact_mod_cast h2
theorem sq_div {a m L : Nat} : (a * m / L * L) * (a * m / L * L) ≤ (a * a) * (m * m) := by
  have h := Nat.div_mul_le_self (a * m) L
  have := Nat.mul_le_mul h h
  have e : (a * m) * (a * m) = (a * a) * (m * m) := by grind
  omega
theorem lim_core {f : Nat → Int} {m : Int} (h : okL f m) : (∀ i, i < 3 → -m ≤ limF f m i ∧ limF f m i ≤ m) ∧ (∀ i, i < 3 → limF f m i ≠ 0 → (limF f m i < 0 ↔ f i < 0)) ∧
    limF f m 0 * limF f m 0 + limF f m 1 * limF f m 1 + limF f m 2 * limF f m 2 ≤ m * m := by
  obtain ⟨hk, h0, h1⟩ := h
  have hf : limF f m = if (lst f : Int) ≤ m then f else limX f m := by unfold limF; rw [if_pos ⟨hk, h0, h1⟩]
  obtain ⟨M, rfl⟩ : ∃ M : Nat, m = M := ⟨m.toNat, by omega⟩
  have hS := sqs3_i f
  have hp := fun i hi => lst_part hk i hi
  have hL : ¬ lst f * lst f < sq3 f := fun hh => Nat.lt_irrefl _ ((lst_above hk _).2 hh)
  have hS' : ((sq3 f : Nat) : Int) = f 0 * f 0 + f 1 * f 1 + f 2 * f 2 := hS
  by_cases hl : (lst f : Int) ≤ M
  · rw [hf, if_pos hl]
    refine ⟨fun i hi => by have := hp i hi; omega, fun i hi _ => Iff.rfl, ?_⟩
    have h3 : lst f * lst f ≤ M * M := Nat.mul_le_mul (by omega) (by omega)
    rw [← hS']
    have : sq3 f ≤ M * M := by omega
    exact_mod_cast this
  · rw [hf, if_neg hl]
    unfold limX
    rw [Int.toNat_natCast]
    generalize lst f = L at *
    have hL0 : 0 < L := by omega
    have hle := fun i hi => tow_le (m := M) hL0 (hp i hi)
    have sq : ∀ i, towV (f i) M L * towV (f i) M L = (((f i).natAbs * M / L * ((f i).natAbs * M / L) : Nat) : Int) := fun i => by
      unfold towV
      split
      · rw [Int.neg_mul_neg, Int.natCast_mul]
      · rw [Int.natCast_mul]
    refine ⟨fun i hi => ?_, fun i hi hne => ?_, ?_⟩
    · have := hle i hi
      unfold towV
      generalize (f i).natAbs * M / L = q at *
      split <;> omega
    · unfold towV at hne ⊢
      generalize (f i).natAbs * M / L = q at *
      split at hne <;> rename_i hc
      · rw [if_pos hc]; omega
      · rw [if_neg hc]; omega
    · rw [sq, sq, sq]
      have s0 := sq_div (a := (f 0).natAbs) (m := M) (L := L)
      have s1 := sq_div (a := (f 1).natAbs) (m := M) (L := L)
      have s2 := sq_div (a := (f 2).natAbs) (m := M) (L := L)
      have hsq : sq3 f = (f 0).natAbs * (f 0).natAbs + (f 1).natAbs * (f 1).natAbs + (f 2).natAbs * (f 2).natAbs := by
        unfold sq3
        rw [sqs_cons, sqs_cons, sqs_cons, sqs_nil]
        omega
      rw [hsq] at hL
      generalize (f 0).natAbs * M / L = q0 at *
      generalize (f 1).natAbs * M / L = q1 at *
      generalize (f 2).natAbs * M / L = q2 at *
      generalize (f 0).natAbs * (f 0).natAbs = A0 at *
      generalize (f 1).natAbs * (f 1).natAbs = A1 at *
      generalize (f 2).natAbs * (f 2).natAbs = A2 at *
      have key : (L * L) * (q0 * q0 + q1 * q1 + q2 * q2) ≤ (L * L) * (M * M) := by
        have e : (L * L) * (q0 * q0 + q1 * q1 + q2 * q2) = (q0 * L) * (q0 * L) + (q1 * L) * (q1 * L) + (q2 * L) * (q2 * L) := by grind
        have e2 : A0 * (M * M) + A1 * (M * M) + A2 * (M * M) = (A0 + A1 + A2) * (M * M) := by grind
        have e3 : (A0 + A1 + A2) * (M * M) ≤ (L * L) * (M * M) := Nat.mul_le_mul (by omega) (Nat.le_refl _)
        rw [e]
        omega
      have := Nat.le_of_mul_le_mul_left key (Nat.mul_pos hL0 hL0)
      exact_mod_cast this
end Go.Proofs.Ytkmelddejdikgaa
