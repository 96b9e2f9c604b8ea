/-
  What a step of a body's acts leaves balanced. No program in sight.
-/
import Derived.Test.YtjnocbjngojigaaBdD
set_option linter.unusedSimpArgs false
set_option linter.unusedVariables false
namespace Go.Proofs.Ytjnocbjngojigaa
open Go.RowKit PM Dt
theorem vadd_ok {f g : Nat → Int} (hf : ∀ i, i < 3 → -4194304 ≤ f i ∧ f i ≤ 4194304) (hg : ∀ i, i < 3 → -4194304 ≤ g i ∧ g i ≤ 4194304) : vaddE f g = 0 ∧ ∀ i, vaddF f g i = f i + g i := by
  have k1 : okV f = true := (okV_iff _).2 fun i hi => (vb_iff _).2 (by have := hf i hi; omega)
  have k2 : okV g = true := (okV_iff _).2 fun i hi => (vb_iff _).2 (by have := hg i hi; omega)
  have k3 : okV (addF f g) = true := (okV_iff _).2 fun i hi => (vb_iff _).2 (by have := hf i hi; have := hg i hi; unfold addF; omega)
  unfold vaddE vaddF resE resF
  rw [k1, k2, k3]
  exact ⟨rfl, fun i => rfl⟩
theorem small_vv {t : Nat → Int} (h : smallB t 1048576 = true) : vv t ≤ 2097152 * 2097152 := by
  have b := fun i hi => (sb_iff _ _).1 ((smallB_iff t _).1 h i hi)
  have b0 := b 0 (by omega); have b1 := b 1 (by omega); have b2 := b 2 (by omega)
  have q0 := bmul (P := 1048576) (R := 1048576) b0.1 b0.2 b0.1 b0.2
  have q1 := bmul (P := 1048576) (R := 1048576) b1.1 b1.2 b1.1 b1.2
  have q2 := bmul (P := 1048576) (R := 1048576) b2.1 b2.2 b2.1 b2.2
  unfold vv; omega
theorem StepB.bal {X Y : BSt} {D : Nat → Int} (h : StepB X Y D) (k : BI X) : vaddE X.T D = 0 ∧ vfn (vaddF X.T D) = vfn Y.T := by
  have bT := fun i hi => (allB_bd k.t).1 i hi
  have z : vaddE X.T (fun _ => 0) = 0 ∧ vfn (vaddF X.T fun _ => 0) = vfn X.T := by
    obtain ⟨e, f⟩ := vadd_ok (f := X.T) (g := fun _ => 0) (fun i hi => by have := bT i hi; omega) (fun i hi => ⟨by decide, by decide⟩)
    exact ⟨e, vfn_congr fun i hi => by rw [f i]; exact Int.add_zero _⟩
  rcases h with ⟨i, rfl, rfl⟩ | ⟨c, t, rfl, rfl⟩
  · exact z
  · unfold tickC tickX
    cases ht : smallB t 1048576 with
    | false => exact z
    | true =>
      cases ha : allB (tickS X c t) with
      | false => exact z
      | true =>
        obtain ⟨qI, qv⟩ := k.att c
        obtain ⟨_, _, hb⟩ := valid_back qI qv (by decide) (by decide) (small_vv ht)
        obtain ⟨e, f⟩ := vadd_ok (f := X.T) (g := tickD X c t) (fun i hi => by have := bT i hi; omega) (fun i hi => by have := (hb i hi).2; unfold tickD; omega)
        exact ⟨e, rfl⟩
end Go.Proofs.Ytjnocbjngojigaa
