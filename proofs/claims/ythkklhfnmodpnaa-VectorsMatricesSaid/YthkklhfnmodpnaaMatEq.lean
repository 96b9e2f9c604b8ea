/-
  The equality of matrices.
-/
import Derived.Test.YthkklhfnmodpnaaVecT
import Derived.Test.YthkklhfnmodpnaaLawVec
set_option linter.unusedSimpArgs false
set_option linter.unusedVariables false
namespace Go.Proofs.Ythkklhfnmodpnaa
open Go.RowKit PM Dt
theorem mat_part (F : Nat → Int) (j : Nat) (hj : j < 3) (w : World) : (part 23 (mfn F) (j * 3)).run Try.prog w = .ok (.agg (vfn (mrow F j))) w := by
  obtain ⟨i, hi⟩ : ∃ i, Try.prog.info? 23 = some i := Option.isSome_iff_exists.1 (by kernel_rfl)
  have hc : Try.prog.cellsOf 23 = 3 := by kernel_rfl
  have hagg : (isAgg 23).run Try.prog w = .ok true w := by
    unfold isAgg; rw [Sem.run_bind, run_underlying Try.underlying23 w]; rfl
  have hsz : (sizeOf 23).run Try.prog w = .ok 3 w := by rw [run_sizeOf w hi, hc]
  have he : (mfn F).extract (j * 3) (j * 3 + 3) = vfn (mrow F j) := by
    have : j = 0 ∨ j = 1 ∨ j = 2 := by omega
    unfold mfn vfn mrow
    rcases this with rfl | rfl | rfl <;> rfl
  unfold part
  simp only [Sem.run_bind, hagg, Result.andThen_ok, if_true, hsz, Sem.run_pure, he]
theorem mat_eq_self (F : Nat → Int) (w : World) : (Op.equalIn 10000 25 (.agg (mfn F)) (.agg (mfn F))).run Try.prog w = .ok true w := by
  obtain ⟨i, hi⟩ : ∃ i, Try.prog.info? 23 = some i := Option.isSome_iff_exists.1 (by kernel_rfl)
  have hc : Try.prog.cellsOf 23 = 3 := by kernel_rfl
  obtain ⟨i2, hi2⟩ : ∃ i, Try.prog.info? 2 = some i := Option.isSome_iff_exists.1 (by kernel_rfl)
  have hc2 : Try.prog.cellsOf 2 = 1 := by kernel_rfl
  have hv : ∀ f : Nat → Int, (Op.equalIn 9999 23 (.agg (vfn f)) (.agg (vfn f))).run Try.prog w = .ok true w := fun f => by
    have h : (Op.equalIn 9999 23 (.agg (vfn f)) (.agg (vfn f))).run Try.prog w = .ok ((List.range 3).all fun j => f j == f j) w :=
      run_equalIn_ints (P := Try.prog) Try.underlying23 hi2 hc2 Try.underlying2 f f (vfn f) (vfn f) (fun j hj => vfn_get _ hj) (fun j hj => vfn_get _ hj) 9997 w
    have e : ((List.range 3).all fun j => f j == f j) = true := by simp
    rw [h, e]
  rw [run_equalIn_array (P := Try.prog) (w := w) 9999 (mfn F) (mfn F) Try.underlying25 hi, hc]
  have p0 : (part 23 (mfn F) 0).run Try.prog w = .ok (.agg (vfn (mrow F 0))) w := mat_part F 0 (by omega) w
  have p1 : (part 23 (mfn F) 3).run Try.prog w = .ok (.agg (vfn (mrow F 1))) w := mat_part F 1 (by omega) w
  have p2 : (part 23 (mfn F) 6).run Try.prog w = .ok (.agg (vfn (mrow F 2))) w := mat_part F 2 (by omega) w
  show (Op.eqItems 9999 23 3 (mfn F) (mfn F) [0, 1, 2]).run Try.prog w = .ok true w
  simp [Op.eqItems, Sem.run_bind, p0, p1, p2, hv]
end Go.Proofs.Ythkklhfnmodpnaa
