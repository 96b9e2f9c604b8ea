/-
  Bodies: New.
-/
import Derived.Test.YtkmelddejdikgaaGreatWhC
set_option linter.unusedSimpArgs false
set_option linter.unusedVariables false
namespace Go.Proofs.YtkmelddejdikgaaGreat
open Go.RowKit PM Dt
theorem vidx3 (f : Nat → Int) {k : Nat} (h : k < 3) (w : World) : (Instr.index 27 (.agg (vfn f)) (.int .i64 k)).run Tryz.prog w = .ok (.int .i64 (f k)) w := by
 obtain ⟨i, hi⟩ : ∃ i, Tryz.prog.info? 2 = some i := Option.isSome_iff_exists.1 (by kernel_rfl)
 exact run_index_cell (P := Tryz.prog) (n := 3) Tryz.underlying27 Tryz.underlying2 rfl hi (by kernel_rfl) h (vfn_get f h) w
end Go.Proofs.YtkmelddejdikgaaGreat
