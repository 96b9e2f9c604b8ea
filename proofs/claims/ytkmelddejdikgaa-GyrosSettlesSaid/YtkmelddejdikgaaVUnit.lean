/-
  Unit vectors, in the package and in the specification.
-/
import Derived.Test.YtkmelddejdikgaaShift
set_option linter.unusedSimpArgs false
set_option linter.unusedVariables false
namespace Go.Proofs.Ytkmelddejdikgaa
open Go.RowKit PM Dt
def n3 (f : Nat → Int) : Int := hypQ [f 0, f 1, f 2]
theorem sqv_lt {a b : Int} (hb : 0 ≤ b) (h : a * a < b * b) : -b < a ∧ a < b := by
  have key : ∀ x : Int, b ≤ x → b * b ≤ x * x := fun x hx => Int.mul_le_mul hx hx hb (by omega)
  constructor
  · apply Classical.byContradiction; intro hc
    have := key (-a) (by omega)
    rw [Int.neg_mul_neg] at this
    omega
  · apply Classical.byContradiction; intro hc
    have := key a (by omega)
    omega
theorem sqs3_i (f : Nat → Int) : ((sqs [f 0, f 1, f 2] : Nat) : Int) = f 0 * f 0 + f 1 * f 1 + f 2 * f 2 := by
  rw [sqs_cons, sqs_cons, sqs_cons, sqs_nil]
  have e : ∀ a : Int, ((a.natAbs * a.natAbs : Nat) : Int) = a * a := fun a => by rw [Int.natCast_mul]; exact Int.natAbs_mul_self' a
  have := e (f 0)
  have := e (f 1)
  have := e (f 2)
  omega
def zV (f : Nat → Int) : Bool := (List.range 3).all fun j => f j == 0
theorem shft_done : ∀ (k n : Nat) (f : Nat → Int), low n k f → sml n (shft n k f) = false
  | 0, n, f, h => low_zero h
  | k + 1, n, f, h => by
    by_cases hs : sml n f = true
    · rw [shft_step hs]; exact shft_done k n (dbl f) (low_step h)
    · rw [shft_big (by simpa using hs)]; simpa using hs
theorem vec_eq0 (f : Nat → Int) (w : World) : (Op.equalIn 10000 31 (.agg (vfn f)) (.agg #[.int .i64 0, .int .i64 0, .int .i64 0])).run Try.prog w = .ok (zV f) w := by
  rw [zero_vec]
  obtain ⟨i, hi⟩ : ∃ i, Try.prog.info? 2 = some i := Option.isSome_iff_exists.1 (by kernel_rfl)
  have hc : Try.prog.cellsOf 2 = 1 := by kernel_rfl
  exact run_equalIn_ints (P := Try.prog) Try.underlying31 hi hc Try.underlying2 f (fun _ => 0) (vfn f) (vfn fun _ => 0) (fun j hj => vfn_get _ hj) (fun j hj => vfn_get _ hj) 9998 w
end Go.Proofs.Ytkmelddejdikgaa
