/-
  Shortened vectors, in the package: sums of squares, the least integer that is not below a norm, quotients toward zero. Shortened vectors, in the package: the least integer that is not below a norm. Shortened vectors, in the package: quotients toward zero, and Limit. Shortened vectors: Limit of the package. Vector products of small vectors: orthogonal to their factors within the bound, and of the other sign in the other order. No program in sight. Unit vectors and shortened vectors: their norms, directions and signs. No program in sight.
-/
import Derived.Test.YtkmelddejdikgaaVUnit
import Derived.Test.YtkmelddejdikgaaShift
import Derived.Test.YtkmelddejdikgaaVecG
import Derived.Test.YtkmelddejdikgaaLawVec
import Derived.Test.YtkmelddejdikgaaLenM
set_option linter.unusedSimpArgs false
set_option linter.unusedVariables false
namespace Go.Proofs.Ytkmelddejdikgaa
open Go.RowKit PM Dt
end Go.Proofs.Ytkmelddejdikgaa
namespace Go.Proofs.Ytkmelddejdikgaa
open Go.RowKit PM Dt
def sq3 (f : Nat → Int) : Nat := sqs [f 0, f 1, f 2]
def lstN (f : Nat → Int) : Nat := isqrt (sq3 f)
theorem ok_sq {f : Nat → Int} (h : okV f = true) : sq3 f ≤ 3626777458843887524118528 := by
  have q : ∀ i, i < 3 → f i * f i ≤ 1208925819614629174706176 := fun i hi => by
    have hh := (vb_iff _).1 ((okV_iff f).1 h i hi)
    exact (bmul (P := 1099511627776) (R := 1099511627776) hh.1 hh.2 hh.1 hh.2).2
  have e := sqs3_i f
  have q0 := q 0 (by omega)
  have q1 := q 1 (by omega)
  have q2 := q 2 (by omega)
  unfold sq3
  omega
theorem lstN_spec {f : Nat → Int} (h : okV f = true) : lstN f * lstN f ≤ sq3 f ∧ sq3 f < (lstN f + 1) * (lstN f + 1) ∧ lstN f < 2199023255552 := by
  have hS := ok_sq h
  unfold lstN
  generalize sq3 f = S at *
  have h4 : S < 4 ^ 200 := Nat.lt_of_le_of_lt hS (by decide)
  exact ⟨(isqrt_ge h4).1 (Nat.le_refl _), (isqrt_lt h4).1 (Nat.lt_succ_self _), (isqrt_lt h4).2 (by omega)⟩
end Go.Proofs.Ytkmelddejdikgaa
namespace Go.Proofs.Ytkmelddejdikgaa
open Go.RowKit PM Dt
end Go.Proofs.Ytkmelddejdikgaa
namespace Go.Proofs.Ytkmelddejdikgaa
open Go.RowKit PM Dt
def okL (f : Nat → Int) (m : Int) : Prop := okV f = true ∧ 0 ≤ m ∧ m ≤ 1099511627776
instance (f : Nat → Int) (m : Int) : Decidable (okL f m) := by unfold okL; infer_instance
end Go.Proofs.Ytkmelddejdikgaa
namespace Go.Proofs.Ytkmelddejdikgaa
open Go.RowKit PM Dt
theorem rnd_err (n : Int) : ∃ e, 1073741824 * rnd n = n + e ∧ -536870912 ≤ e ∧ e ≤ 536870912 := ⟨1073741824 * rnd n - n, by omega, by unfold rnd; omega, by unfold rnd; omega⟩
end Go.Proofs.Ytkmelddejdikgaa
namespace Go.Proofs.Ytkmelddejdikgaa
open Go.RowKit PM Dt
/-- The norm of a valid vector, by its square. -/
theorem norm_val {f : Nat → Int} (hk : okV f = true) : normE f = 0 ∧ ∃ N : Nat, normV f = N ∧ (N : Int) * N ≤ f 0 * f 0 + f 1 * f 1 + f 2 * f 2 ∧ f 0 * f 0 + f 1 * f 1 + f 2 * f 2 < ((N : Int) + 1) * ((N : Int) + 1) ∧ N < 2199023255552 := by
  obtain ⟨h1, h2, h3⟩ := lstN_spec hk
  have hh : hypQ [f 0, f 1, f 2] = ((lstN f : Nat) : Int) := rfl
  have hf := fit_of (q := ((lstN f : Nat) : Int)) (by omega) (by omega)
  have e := sqs3_i f
  refine ⟨by unfold normE; rw [hk, if_pos rfl, hh]; exact hf.2, lstN f, by unfold normV; rw [hk, if_pos rfl, hh]; exact hf.1, ?_, ?_, h3⟩
  · rw [← e]; exact_mod_cast h1
  · rw [← e]; exact_mod_cast h2
end Go.Proofs.Ytkmelddejdikgaa
