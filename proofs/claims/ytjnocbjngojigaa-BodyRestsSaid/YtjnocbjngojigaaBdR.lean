/-
  A body at rest, plainly. No program in sight.
-/
import Derived.Test.YtjnocbjngojigaaBdC
import Derived.Test.YtjnocbjngojigaaBdP
import Derived.Test.YtjnocbjngojigaaWhD
set_option linter.unusedSimpArgs false
set_option linter.unusedVariables false
namespace Go.Proofs.Ytjnocbjngojigaa
open Go.RowKit PM Dt
theorem clampW_id {x : Int} (h : -16777216 ≤ x ∧ x ≤ 16777216) : clampV x (-16777216) 16777216 = x := by
  unfold clampV; split <;> (try split) <;> omega
theorem clampT_id {x : Int} (h : -1048576 ≤ x ∧ x ≤ 1048576) : clampV x (-1048576) 1048576 = x := by
  unfold clampV; split <;> (try split) <;> omega
theorem allocF_sum (d : Nat → Int) (f : Int) {i : Nat} (hi : i < 3) : sumW (allocF d f) i = d i := by
  unfold sumW
  rcases (show i = 0 ∨ i = 1 ∨ i = 2 by omega) with rfl | rfl | rfl
  · show d 0 - allocZ d f + allocZ d f = d 0; omega
  · show d 1 - allocZ d f + allocZ d f = d 1; omega
  · show d 2 - allocZ d f + allocZ d f = d 2; omega
theorem allocZ_bd {d : Nat → Int} {f m : Int} (hm : 0 ≤ m) (h : ∀ i, i < 3 → -m ≤ d i ∧ d i ≤ m) (hf : isW f = true) : -m ≤ allocZ d f ∧ allocZ d f ≤ m := by
  simp only [isW, Bool.and_eq_true, decide_eq_true_eq] at hf
  unfold allocZ
  split
  · have := mx3_bd hm h
    unfold spanZ; omega
  · split
    · omega
    · exact h _ (by omega)
theorem allocF_bd {d : Nat → Int} {f m : Int} (hm : 0 ≤ m) (h : ∀ i, i < 3 → -m ≤ d i ∧ d i ≤ m) (hf : isW f = true) : ∀ i, -(2 * m) ≤ allocF d f i ∧ allocF d f i ≤ 2 * m := fun i => by
  have hz := allocZ_bd hm h hf
  match i with
  | 0 => have := h 0 (by omega); show _ ≤ d 0 - allocZ d f ∧ d 0 - allocZ d f ≤ _; omega
  | 1 => have := h 1 (by omega); show _ ≤ d 1 - allocZ d f ∧ d 1 - allocZ d f ≤ _; omega
  | 2 => have := h 2 (by omega); show _ ≤ d 2 - allocZ d f ∧ d 2 - allocZ d f ≤ _; omega
  | (n + 3) => show _ ≤ allocZ d f ∧ allocZ d f ≤ _; omega
theorem allocF_failed {d : Nat → Int} {f : Int} {i : Nat} (hi : i < 4) (hf : (i : Int) = f) : allocF d f i = 0 := by
  subst hf
  rcases (show i = 0 ∨ i = 1 ∨ i = 2 ∨ i = 3 by omega) with rfl | rfl | rfl | rfl
  · show d 0 - d 0 = 0; omega
  · show d 1 - d 1 = 0; omega
  · show d 2 - d 2 = 0; omega
  · rfl
theorem newB_of {h : Nat → Int} {f : Int} (hf : isW f = true) (hb : ∀ i, i < 4 → -16777216 ≤ h i ∧ h i ≤ 16777216) (hz : ∀ i : Nat, i < 4 → (i : Int) = f → h i = 0) : newB h f = true := by
  have key : ∀ k, k < 4 → whB h f k = true := fun k hk => by
    unfold whB
    rw [decide_eq_true (hb k hk).1, decide_eq_true (hb k hk).2]
    by_cases e : (k : Int) = f
    · rw [decide_eq_true e, decide_eq_true (hz k hk e)]; rfl
    · rw [decide_eq_false e]; rfl
  exact newB_all hf key
theorem allocF_new {d : Nat → Int} {f m : Int} (hm : 0 ≤ m) (hm2 : m ≤ 8388608) (h : ∀ i, i < 3 → -m ≤ d i ∧ d i ≤ m) (hf : isW f = true) : newB (allocF d f) f = true :=
  newB_of hf (fun i hi => by have := allocF_bd hm h hf i; omega) fun i hi e => allocF_failed hi e
/-- Wheels that are commanded to their own speeds keep them. -/
theorem keep_F {h : Nat → Int} {f : Int} (hb : ∀ i, -16777216 ≤ h i ∧ h i ≤ 16777216) : stpF h f (cmdF h f h) = h := by
  funext i
  unfold stpF
  split
  · rfl
  · rename_i hne
    have hc : cmdF h f h i = frW (h i) := by
      unfold cmdF cmdX
      rw [if_neg hne, clampW_id (hb i)]; omega
    unfold stpX
    have := frW_bd (hb i)
    rw [hc, clampT_id (by omega), show h i - frW (h i) + frW (h i) = h i by omega, clampW_id (hb i)]
theorem zV_of {l : Nat → Int} (h : ∀ i, i < 3 → l i = 0) : zV l = true := by
  unfold zV
  rw [List.all_eq_true]
  intro j hj
  rw [h j (List.mem_range.1 hj)]; rfl
theorem vv0 {v : Nat → Int} (h : ∀ i, i < 3 → v i = 0) : vv v ≤ 0 * 0 := by
  unfold vv; rw [h 0 (by omega), h 1 (by omega), h 2 (by omega)]; decide
/-- A body that has no momentum of its own, whose wheels are told to keep their speeds and do. -/
theorem rest_tick {X : BSt} (k : BI X) {c : Nat → Int} (hc : stpF X.h X.f c = X.h) (hz : ∀ i, i < 3 → momF X i = 0) {t : Nat → Int} (ht : ∀ i, i < 3 → t i = 0) :
    vfn (tickC X c t) = vfn (fun _ => 0) ∧ tickE t = 0 ∧ qfn (tickX X c t).Q = qfn X.Q ∧ vfn (tickX X c t).T = vfn X.T ∧ qfn (tickX X c t).h = qfn X.h ∧ (tickX X c t).f = X.f := by
  have hs : smallB t 1048576 = true := (smallB_iff _ _).2 fun i hi => (sb_iff _ _).2 (by rw [ht i hi]; decide)
  have hH : tickH X c = X.h := hc
  have hL : tickL X c = momF X := by unfold tickL; rw [hH]; rfl
  have hQ : tickQ X c = X.Q := by unfold tickQ attG; rw [hL, zV_of hz]; rfl
  obtain ⟨_, _, hb⟩ := valid_back k.q k.v (by decide) (by decide) (vv0 ht)
  have hD : ∀ i, i < 3 → tickD X c t i = 0 := fun i hi => by unfold tickD; rw [hQ]; have := (hb i hi).2; omega
  have bT := fun i hi => (allB_bd k.t).1 i hi
  have kT : okV X.T = true := (okV_iff _).2 fun i hi => (vb_iff _).2 (by have := bT i hi; omega)
  have kD : okV (tickD X c t) = true := (okV_iff _).2 fun i hi => (vb_iff _).2 (by rw [hD i hi]; decide)
  have kA : okV (addF X.T (tickD X c t)) = true := (okV_iff _).2 fun i hi => (vb_iff _).2 (by unfold addF; rw [hD i hi]; have := bT i hi; omega)
  have hS : ∀ i, i < 3 → tickS X c t i = X.T i := fun i hi => by
    unfold tickS vaddF resF
    rw [kT, kD, kA]
    show addF X.T (tickD X c t) i = _
    unfold addF; rw [hD i hi]; omega
  refine ⟨?_, ?_, ?_, ?_, ?_, ?_⟩
  · unfold tickC
    split
    · exact vfn_congr fun i hi => hD i hi
    · rfl
  · unfold tickE; rw [hs]; rfl
  · unfold tickX; rw [hs]; show qfn (tickQ X c) = _; rw [hQ]
  · unfold tickX; rw [hs]
    show vfn (if allB (tickS X c t) = true then tickS X c t else X.T) = _
    split
    · exact vfn_congr fun i hi => hS i hi
    · rfl
  · unfold tickX; rw [hs]; show qfn (tickH X c) = _; rw [hH]
  · unfold tickX; rw [hs]; rfl
end Go.Proofs.Ytjnocbjngojigaa
