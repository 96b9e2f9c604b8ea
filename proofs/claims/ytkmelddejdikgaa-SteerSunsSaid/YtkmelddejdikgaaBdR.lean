/-
  A body at rest, plainly. No program in sight.
-/
import Derived.Test.YtkmelddejdikgaaBdC
import Derived.Test.YtkmelddejdikgaaBdP
import Derived.Test.YtkmelddejdikgaaWhD
set_option linter.unusedSimpArgs false
set_option linter.unusedVariables false
namespace Go.Proofs.Ytkmelddejdikgaa
open Go.RowKit PM Dt
theorem clampW_id {x : Int} (h : -16777216 ≤ x ∧ x ≤ 16777216) : clampV x (-16777216) 16777216 = x := by
  unfold clampV; split <;> (try split) <;> omega
theorem clampT_id {x : Int} (h : -1048576 ≤ x ∧ x ≤ 1048576) : clampV x (-1048576) 1048576 = x := by
  unfold clampV; split <;> (try split) <;> omega
theorem allocF_sum (d : Nat → Int) (f : Int) {i : Nat} (hi : i < 3) : sumW (allocF d f) i = d i := by
  unfold sumW
  rcases (show i = 0 ∨ i = 1 ∨ i = 2 by omega) with rfl | rfl | rfl
  · show d 0 - allocZ d f + allocZ d f = d 0; omega
  · show d 1 - allocZ d f + allocZ d f = d 1; omega
  · show d 2 - allocZ d f + allocZ d f = d 2; omega
theorem allocZ_bd {d : Nat → Int} {f m : Int} (hm : 0 ≤ m) (h : ∀ i, i < 3 → -m ≤ d i ∧ d i ≤ m) (hf : isW f = true) : -m ≤ allocZ d f ∧ allocZ d f ≤ m := by
  simp only [isW, Bool.and_eq_true, decide_eq_true_eq] at hf
  unfold allocZ
  split
  · have := mx3_bd hm h
    unfold spanZ; omega
  · split
    · omega
    · exact h _ (by omega)
theorem allocF_bd {d : Nat → Int} {f m : Int} (hm : 0 ≤ m) (h : ∀ i, i < 3 → -m ≤ d i ∧ d i ≤ m) (hf : isW f = true) : ∀ i, -(2 * m) ≤ allocF d f i ∧ allocF d f i ≤ 2 * m := fun i => by
  have hz := allocZ_bd hm h hf
  match i with
  | 0 => have := h 0 (by omega); show _ ≤ d 0 - allocZ d f ∧ d 0 - allocZ d f ≤ _; omega
  | 1 => have := h 1 (by omega); show _ ≤ d 1 - allocZ d f ∧ d 1 - allocZ d f ≤ _; omega
  | 2 => have := h 2 (by omega); show _ ≤ d 2 - allocZ d f ∧ d 2 - allocZ d f ≤ _; omega
  | (n + 3) => show _ ≤ allocZ d f ∧ allocZ d f ≤ _; omega
theorem allocF_failed {d : Nat → Int} {f : Int} {i : Nat} (hi : i < 4) (hf : (i : Int) = f) : allocF d f i = 0 := by
  subst hf
  rcases (show i = 0 ∨ i = 1 ∨ i = 2 ∨ i = 3 by omega) with rfl | rfl | rfl | rfl
  · show d 0 - d 0 = 0; omega
  · show d 1 - d 1 = 0; omega
  · show d 2 - d 2 = 0; omega
  · rfl
theorem newB_of {h : Nat → Int} {f : Int} (hf : isW f = true) (hb : ∀ i, i < 4 → -16777216 ≤ h i ∧ h i ≤ 16777216) (hz : ∀ i : Nat, i < 4 → (i : Int) = f → h i = 0) : newB h f = true := by
  have key : ∀ k, k < 4 → whB h f k = true := fun k hk => by
    unfold whB
    rw [decide_eq_true (hb k hk).1, decide_eq_true (hb k hk).2]
    by_cases e : (k : Int) = f
    · rw [decide_eq_true e, decide_eq_true (hz k hk e)]; rfl
    · rw [decide_eq_false e]; rfl
  exact newB_all hf key
theorem zV_of {l : Nat → Int} (h : ∀ i, i < 3 → l i = 0) : zV l = true := by
  unfold zV
  rw [List.all_eq_true]
  intro j hj
  rw [h j (List.mem_range.1 hj)]; rfl
theorem vv0 {v : Nat → Int} (h : ∀ i, i < 3 → v i = 0) : vv v ≤ 0 * 0 := by
  unfold vv; rw [h 0 (by omega), h 1 (by omega), h 2 (by omega)]; decide
end Go.Proofs.Ytkmelddejdikgaa
