/-
  Filters, call by call: the specification's contracts in one form.
-/
import Derived.Test.YtnkjbdfhdenbcaaFlQ
import Derived.Test.YtnkjbdfhdenbcaaFilP
set_option linter.unusedSimpArgs false
set_option linter.unusedVariables false
namespace Go.Proofs.Ytnkjbdfhdenbcaa
open Go.RowKit PM Dt
theorem rpred_any (Q B r : Nat → Int) (w : World) (h : FI Q B) : Calls Try.prog 40 #[.agg (fltc (Q, B)), .agg (vfn r)] w fun e w' => e = .returned (.tuple #[.agg (fltc (predQ Q B r, B)), .int .i64 (predE r)]) ∧ Below w.heap.size w w' := by
  unfold predE predQ
  cases hr : smallB r 268435456 with
  | true => exact rfpred_ok Q B r w hr h.i h.b
  | false => exact rfpred_no Q B r w hr
theorem rcor_any (Q B q : Nat → Int) (w : World) (h : FI Q B) (hq : ∀ i, i < 4 → I64 (q i)) : Calls Try.prog 39 #[.agg (fltc (Q, B)), .agg (qfn q)] w fun e w' => e = .returned (.tuple #[.agg (fltc (corQ Q q, corB Q B q)), .int .i64 (betE Q q)]) ∧ Below w.heap.size w w' := by
  unfold corQ corB
  rcases betE_cases Q q with he | he
  · cases hw : smallB (offF (betF Q q)) 1048576 with
    | true =>
      rw [if_pos he, if_pos ⟨he, rfl⟩, he]
      exact rfcor_yes Q B q w h.i hq he hw h.b
    | false =>
      rw [if_pos he, if_neg (by simp), he]
      exact rfcor_off Q B q w h.i hq he hw
  · rw [if_neg (by omega), if_neg (by omega), he]
    exact rfcor_no Q B q w h.i hq he
end Go.Proofs.Ytnkjbdfhdenbcaa
