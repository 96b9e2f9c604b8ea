/-
  What the statements on vectors ask for first, and the equality of vectors.
-/
import Derived.Test.YtnkjbdfhdenbcaaVecF
set_option linter.unusedSimpArgs false
set_option linter.unusedVariables false
namespace Go.Proofs.Ytnkjbdfhdenbcaa
open Go.RowKit PM Dt
/-- The components of a vector out of three numbers. -/
def of3 (a b c : Int) : Nat → Int
  | 0 => a
  | 1 => b
  | _ => c
theorem of3_cells (a b c : Int) : #[Value.int .i64 a, .int .i64 b, .int .i64 c] = vfn (of3 a b c) := by unfold vfn; rfl
theorem vec_eq (f g : Nat → Int) (w : World) :
    (Op.equalIn 10000 39 (.agg (vfn f)) (.agg (vfn g))).run Try.prog w = .ok ((List.range 3).all fun j => f j == g j) w := by
  obtain ⟨i, hi⟩ : ∃ i, Try.prog.info? 2 = some i := Option.isSome_iff_exists.1 (by kernel_rfl)
  have hc : Try.prog.cellsOf 2 = 1 := by kernel_rfl
  exact run_equalIn_ints (P := Try.prog) Try.underlying39 hi hc Try.underlying2 f g (vfn f) (vfn g) (fun j hj => vfn_get _ hj) (fun j hj => vfn_get _ hj) 9998 w
theorem vec_eq_self (f : Nat → Int) (w : World) : (Op.equalIn 10000 39 (.agg (vfn f)) (.agg (vfn f))).run Try.prog w = .ok true w := by
  rw [vec_eq]; congr 1; simp
theorem aw_cross : vcrossF (of3 1073741824 0 0) (of3 0 1073741824 0) = crossX (of3 1073741824 0 0) (of3 0 1073741824 0) ∧ vcrossE (of3 1073741824 0 0) (of3 0 1073741824 0) = 0 := by
  have h1 : okV (of3 1073741824 0 0) = true := by decide +kernel
  have h2 : okV (of3 0 1073741824 0) = true := by decide +kernel
  have h3 : okV (crossX (of3 1073741824 0 0) (of3 0 1073741824 0)) = true := by decide +kernel
  unfold vcrossF vcrossE
  rw [h1, h2, h3]
  exact ⟨rfl, rfl⟩
theorem aw_cells : vfn (vcrossF (of3 1073741824 0 0) (of3 0 1073741824 0)) = vfn (of3 0 0 1073741824) := by
  rw [aw_cross.1]
  apply vfn_congr
  intro i hi
  have : i = 0 ∨ i = 1 ∨ i = 2 := by omega
  rcases this with rfl | rfl | rfl <;> decide +kernel
theorem aw_norm : normV (of3 3 4 12) = 13 ∧ normE (of3 3 4 12) = 0 := by
  have h1 : okV (of3 3 4 12) = true := by decide +kernel
  have h : sqs [of3 3 4 12 0, of3 3 4 12 1, of3 3 4 12 2] = 169 := by rw [sqs_cons, sqs_cons, sqs_cons, sqs_nil]; rfl
  have h2 : hypQ [of3 3 4 12 0, of3 3 4 12 1, of3 3 4 12 2] = 13 := by
    unfold hypQ; rw [h, show isqrt 169 = 13 from isqrt_eq (by decide) (by decide) (by decide)]; rfl
  unfold normV normE
  rw [h1, if_pos rfl, if_pos rfl, h2]
  exact ⟨rfl, rfl⟩
end Go.Proofs.Ytnkjbdfhdenbcaa
