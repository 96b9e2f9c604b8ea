/-
  Quaternions out of four numbers, and their equality.
-/
import Derived.Test.YtkmelddejdikgaaQuatD
import Derived.Test.YtkmelddejdikgaaLawVec
set_option linter.unusedSimpArgs false
set_option linter.unusedVariables false
namespace Go.Proofs.Ytkmelddejdikgaa
open Go.RowKit PM Dt
/-- The components of a quaternion out of four numbers. -/
def of4 (a b c d : Int) : Nat → Int
  | 0 => a
  | 1 => b
  | 2 => c
  | _ => d
theorem of4_cells (a b c d : Int) : #[Value.int .i64 a, .int .i64 b, .int .i64 c, .int .i64 d] = qfn (of4 a b c d) := by unfold qfn; rfl
theorem quat_eq (f g : Nat → Int) (w : World) :
    (Op.equalIn 10000 23 (.agg (qfn f)) (.agg (qfn g))).run Try.prog w = .ok ((List.range 4).all fun j => f j == g j) w := by
  obtain ⟨i, hi⟩ : ∃ i, Try.prog.info? 2 = some i := Option.isSome_iff_exists.1 (by kernel_rfl)
  have hc : Try.prog.cellsOf 2 = 1 := by kernel_rfl
  exact run_equalIn_ints (P := Try.prog) Try.underlying23 hi hc Try.underlying2 f g (qfn f) (qfn g) (fun j hj => qfn_get _ hj) (fun j hj => qfn_get _ hj) 9998 w
theorem quat_eq_self (f : Nat → Int) (w : World) : (Op.equalIn 10000 23 (.agg (qfn f)) (.agg (qfn f))).run Try.prog w = .ok true w := by
  rw [quat_eq]; congr 1; simp
theorem validQ_ok {f : Nat → Int} (hI : ∀ i, i < 4 → I64 (f i)) (h : validQ f = true) : okQ f = true := by
  cases hb : okQ f with
  | true => rfl
  | false => rw [nQ_bad hI hb] at h; cases h
theorem of4_I {a b c d : Int} (ha : I64 a) (hb : I64 b) (hc : I64 c) (hd : I64 d) : ∀ i, i < 4 → I64 (of4 a b c d i) := by
  intro i hi
  have : i = 0 ∨ i = 1 ∨ i = 2 ∨ i = 3 := by omega
  rcases this with rfl | rfl | rfl | rfl <;> assumption
end Go.Proofs.Ytkmelddejdikgaa
