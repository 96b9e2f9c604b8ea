/-
  Controls, plainly: what they stay within. No function of the program is walked here.
-/
import Derived.Test.YtkmelddejdikgaaStE
import Derived.Test.YtkmelddejdikgaaLenQ
import Derived.Test.YtkmelddejdikgaaBdP
set_option linter.unusedSimpArgs false
set_option linter.unusedVariables false
namespace Go.Proofs.Ytkmelddejdikgaa
open Go.RowKit PM Dt
theorem z0 {N : Int} (h : 0 ≤ N) : -N ≤ (0 : Int) ∧ (0 : Int) ≤ N := by omega
structure SSI (X : SSt) : Prop where
  d : ∀ i, i < 3 → -4194304 ≤ X.D i ∧ X.D i ≤ 4194304
  a : ∀ i, i < 3 → -1073741824 ≤ X.A i ∧ X.A i ≤ 1073741824
theorem clampR_two (x : Int) : clampV x (-262144) 262144 = x ∨ (clampV x (-262144) 262144 = 262144 ∧ 262144 < x) ∨ (clampV x (-262144) 262144 = -262144 ∧ x < -262144) := by
  unfold clampV; split <;> (try split) <;> omega
theorem stD_bd {X : SSt} (k : SSI X) (a : Bool) {To : Nat → Int} (hT : ∀ i, i < 3 → -4194304 ≤ To i ∧ To i ≤ 4194304) {i : Nat} (hi : i < 3) :
    (-4194304 ≤ stD a X To i ∧ stD a X To i ≤ 4194304) ∧ -262144 ≤ stD a X To i - X.D i ∧ stD a X To i - X.D i ≤ 262144 := by
  have h1 := k.d i hi
  have h2 := hT i hi
  unfold stD
  cases a
  · simp; omega
  · have h3 := clampR_bd (To i - X.D i)
    have h4 := clampR_two (To i - X.D i)
    show (-4194304 ≤ X.D i + clampV (To i - X.D i) (-262144) 262144 ∧ X.D i + clampV (To i - X.D i) (-262144) 262144 ≤ 4194304) ∧ -262144 ≤ X.D i + clampV (To i - X.D i) (-262144) 262144 - X.D i ∧ X.D i + clampV (To i - X.D i) (-262144) 262144 - X.D i ≤ 262144
    omega
theorem SSI.step {X : SSt} (k : SSI X) (V : SeT) {A To : Nat → Int} (hA : ∀ i, i < 3 → -1073741824 ≤ A i ∧ A i ≤ 1073741824) (hT : ∀ i, i < 3 → -4194304 ≤ To i ∧ To i ≤ 4194304) : SSI (stX X V A To) :=
  ⟨fun i hi => (stD_bd k _ hT hi).1, hA⟩
theorem vun_le {f : Nat → Int} : ∀ i, i < 3 → -1073741824 ≤ vunF f i ∧ vunF f i ≤ 1073741824 := fun i hi => by
  cases hk : okV f with
  | false => have : vunF f i = 0 := by unfold vunF; rw [hk]; rfl
             omega
  | true =>
    cases hz : zV f with
    | true => have : vunF f i = 0 := by unfold vunF; rw [hk, hz]; rfl
              omega
    | false =>
      obtain ⟨_, _, _, _, h⟩ := vun_core hk hz
      have n0 := sq_nn (vunF f 0); have n1 := sq_nn (vunF f 1); have n2 := sq_nn (vunF f 2)
      have : vunF f i * vunF f i < 1073741825 * 1073741825 := by
        rcases (show i = 0 ∨ i = 1 ∨ i = 2 by omega) with rfl | rfl | rfl <;> omega
      have := sqv_lt (a := vunF f i) (b := 1073741825) (by decide) this
      omega
theorem acr_le (S : Nat → Int) : ∀ i, i < 3 → -1073741824 ≤ acrF S i ∧ acrF S i ≤ 1073741824 := fun i hi => by
  unfold acrF
  split
  · rcases (show i = 0 ∨ i = 1 ∨ i = 2 by omega) with rfl | rfl | rfl <;> decide
  · exact vun_le i hi
theorem sunA_le {X : SSt} (k : SSI X) (V : SeT) : ∀ i, i < 3 → -1073741824 ≤ sunAx X V i ∧ sunAx X V i ≤ 1073741824 := fun i hi => by
  unfold sunAx sunA
  split
  · exact acr_le _ i hi
  · unfold sunA1
    split
    · exact z0 (by decide)
    · exact k.a i hi
theorem scale_le {A : Nat → Int} (hA : ∀ i, i < 3 → -1073741824 ≤ A i ∧ A i ≤ 1073741824) : ∀ i, i < 3 → -4194304 ≤ vscaleF A 4194304 i ∧ vscaleF A 4194304 i ≤ 4194304 := fun i hi => by
  unfold vscaleF eachF
  split
  · split
    · have := hA i hi
      show -4194304 ≤ ratioV (A i) 4194304 1073741824 ∧ ratioV (A i) 4194304 1073741824 ≤ 4194304
      unfold ratioV
      rw [if_neg (by decide)]
      have e : ratioQ (A i) 4194304 1073741824 = (2 * (A i * 4194304) + 1073741824) / (2 * 1073741824) := by
        unfold ratioQ nearest; rw [if_neg (by decide)]
      unfold fitV
      rw [e]
      split <;> omega
    · exact z0 (by decide)
  · exact z0 (by decide)
theorem sunT_le {X : SSt} (k : SSI X) (V : SeT) : ∀ i, i < 3 → -4194304 ≤ sunT X V i ∧ sunT X V i ≤ 4194304 := scale_le (sunA_le k V)
def restX (X : SSt) (V : SeT) : SSt := if senseOk V then stX X V (fun _ => 0) (fun _ => 0) else X
def restC (X : SSt) (V : SeT) : Nat → Int := if senseOk V then stC X V (fun _ => 0) else fun _ => 0
def StepS (X Y : SSt) : Prop := SSI Y ∧ ∀ i, i < 3 → (-4194304 ≤ Y.D i ∧ Y.D i ≤ 4194304) ∧ -262144 ≤ Y.D i - X.D i ∧ Y.D i - X.D i ≤ 262144
theorem StepS.same {X : SSt} (k : SSI X) : StepS X X := ⟨k, fun i hi => ⟨k.d i hi, by omega, by omega⟩⟩
theorem StepS.step {X : SSt} (k : SSI X) (V : SeT) {A To : Nat → Int} (hA : ∀ i, i < 3 → -1073741824 ≤ A i ∧ A i ≤ 1073741824) (hT : ∀ i, i < 3 → -4194304 ≤ To i ∧ To i ≤ 4194304) : StepS X (stX X V A To) :=
  ⟨k.step V hA hT, fun i hi => stD_bd k _ hT hi⟩
theorem z3 : ∀ i, i < 3 → (-1073741824 : Int) ≤ (fun _ => 0 : Nat → Int) i ∧ (fun _ => 0 : Nat → Int) i ≤ 1073741824 := fun i hi => z0 (by decide)
theorem restX_S {X : SSt} (k : SSI X) (V : SeT) : StepS X (restX X V) := by
  unfold restX; split
  · exact .step k V z3 (fun i hi => z0 (by decide))
  · exact .same k
end Go.Proofs.Ytkmelddejdikgaa
