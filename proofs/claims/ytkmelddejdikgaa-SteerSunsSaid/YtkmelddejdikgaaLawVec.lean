/-
  What the statements on vectors ask for first, and the equality of vectors.
-/
import Derived.Test.YtkmelddejdikgaaVecF
set_option linter.unusedSimpArgs false
set_option linter.unusedVariables false
namespace Go.Proofs.Ytkmelddejdikgaa
open Go.RowKit PM Dt
def of3 (a b c : Int) : Nat → Int
  | 0 => a
  | 1 => b
  | _ => c
theorem of3_cells (a b c : Int) : #[Value.int .i64 a, .int .i64 b, .int .i64 c] = vfn (of3 a b c) := by unfold vfn; rfl
theorem vec_eq (f g : Nat → Int) (w : World) :
    (Op.equalIn 10000 31 (.agg (vfn f)) (.agg (vfn g))).run Try.prog w = .ok ((List.range 3).all fun j => f j == g j) w := by
  obtain ⟨i, hi⟩ : ∃ i, Try.prog.info? 2 = some i := Option.isSome_iff_exists.1 (by kernel_rfl)
  have hc : Try.prog.cellsOf 2 = 1 := by kernel_rfl
  exact run_equalIn_ints (P := Try.prog) Try.underlying31 hi hc Try.underlying2 f g (vfn f) (vfn g) (fun j hj => vfn_get _ hj) (fun j hj => vfn_get _ hj) 9998 w
theorem vec_eq_self (f : Nat → Int) (w : World) : (Op.equalIn 10000 31 (.agg (vfn f)) (.agg (vfn f))).run Try.prog w = .ok true w := by
  rw [vec_eq]; congr 1; simp
end Go.Proofs.Ytkmelddejdikgaa
