/-
  The results that each statement on package fixed asks for first.
-/
import Derived.Test.YtnkjbdfhdenbcaaSin
import Derived.Great.BuildSlice
set_option linter.unusedSimpArgs false
set_option linter.unusedVariables false
namespace Go.Proofs.Ytnkjbdfhdenbcaa
open Go.RowKit PM Dt
theorem awk1 : ratioV 3 536870912 1073741824 = 2 := by decide +kernel
theorem awk2 : ratioE 3 536870912 1073741824 = 0 := by decide +kernel
theorem awk3 : ratioV 1 1073741824 3 = 357913941 := by decide +kernel
theorem awk4 : ratioE 1 1073741824 3 = 0 := by decide +kernel
theorem awk5 : fitV (hypQ [3, 4]) = 5 := by
  have : isqrt 25 = 5 := isqrt_eq (by decide) (by decide) (by decide)
  have h : sqs [3, 4] = 25 := by rw [sqs_cons, sqs_cons, sqs_nil]; rfl
  unfold hypQ; rw [h, this]; rfl
theorem awk6 : fitE (hypQ [3, 4]) = 0 := by
  have : isqrt 25 = 5 := isqrt_eq (by decide) (by decide) (by decide)
  have h : sqs [3, 4] = 25 := by rw [sqs_cons, sqs_cons, sqs_nil]; rfl
  unfold hypQ; rw [h, this]; rfl
theorem mulV_eq (a b : Int) : mulV a b = ratioV a b 1073741824 := by unfold mulV; rfl
theorem mulV_zero (b : Int) : mulV 0 b = 0 := by
  rw [mulV_eq]; unfold ratioV ratioQ
  rw [if_neg (by decide), if_neg (by decide), Int.zero_mul]
  decide
theorem awk7 : sinV 1073741824 = 1073741824 := by
  have h1 : sinV 1073741824 = waveV (1073741824 - (0 : Nat)) := rfl
  have h2 : waveV (1073741824 - (0 : Nat)) = wrap64 (1073741824 - poly (mulV (arcV 0) (arcV 0)) 536870912 44739243 1491308 26631 296) := rfl
  have h3 : arcV 0 = 0 := by decide +kernel
  rw [h1, h2, h3, mulV_zero]
  unfold poly
  rw [mulV_zero]
  unfold wrap64; decide
theorem awkM (w : World) : Calls Try.prog 117 #[.int .i64 3, .int .i64 536870912] w fun e w' => e = .returned (.tuple #[.int .i64 2, .int .i64 0]) ∧ Below w.heap.size w w' :=
  (mul_any 3 536870912 w (by unfold I64; omega) (by unfold I64; omega)).mono fun e w' h => ⟨h.1.trans (by rw [awk1, awk2]), h.2⟩
theorem awkS (w : World) : Calls Try.prog 61 #[.int .u32 1073741824] w fun e w' => e = .returned (.int .i64 1073741824) ∧ Below w.heap.size w w' :=
  (sin_any 1073741824 w (by omega)).mono fun e w' h => ⟨h.1.trans (by rw [awk7]), h.2⟩
theorem awkH (b : Nat) (w : World) (h : blk w b #[.int .i64 3, .int .i64 4] 2) : Calls Try.prog 76 #[.slice (some ⟨b, 0, none⟩) 2 2] w fun e w' => e = .returned (.tuple #[.int .i64 5, .int .i64 0]) ∧ w = w' :=
  (hypot_any [3, 4] _ w (Or.inr ⟨by decide, b, 0, 2, rfl, h.lt, fun k hk => by
    rcases k with _ | _ | k
    · exact h.cellIs rfl
    · exact h.cellIs rfl
    · simp at hk; omega⟩) (fun k hk => by
    rcases k with _ | _ | k
    · unfold I64; decide
    · unfold I64; decide
    · simp at hk; omega)).mono fun e w' h => ⟨h.1.trans (by rw [if_neg (by decide), if_neg (by decide), awk5, awk6]), h.2⟩
end Go.Proofs.Ytnkjbdfhdenbcaa
