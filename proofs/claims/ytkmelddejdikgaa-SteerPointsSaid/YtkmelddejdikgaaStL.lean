/-
  Controls, plainly: what they stay within. No function of the program is walked here.
-/
import Derived.Test.YtkmelddejdikgaaStE
import Derived.Test.YtkmelddejdikgaaLenQ
import Derived.Test.YtkmelddejdikgaaBdP
set_option linter.unusedSimpArgs false
set_option linter.unusedVariables false
namespace Go.Proofs.Ytkmelddejdikgaa
open Go.RowKit PM Dt
theorem z0 {N : Int} (h : 0 ≤ N) : -N ≤ (0 : Int) ∧ (0 : Int) ≤ N := by omega
structure SSI (X : SSt) : Prop where
  d : ∀ i, i < 3 → -4194304 ≤ X.D i ∧ X.D i ≤ 4194304
  a : ∀ i, i < 3 → -1073741824 ≤ X.A i ∧ X.A i ≤ 1073741824
theorem clampR_two (x : Int) : clampV x (-262144) 262144 = x ∨ (clampV x (-262144) 262144 = 262144 ∧ 262144 < x) ∨ (clampV x (-262144) 262144 = -262144 ∧ x < -262144) := by
  unfold clampV; split <;> (try split) <;> omega
theorem stD_bd {X : SSt} (k : SSI X) (a : Bool) {To : Nat → Int} (hT : ∀ i, i < 3 → -4194304 ≤ To i ∧ To i ≤ 4194304) {i : Nat} (hi : i < 3) :
    (-4194304 ≤ stD a X To i ∧ stD a X To i ≤ 4194304) ∧ -262144 ≤ stD a X To i - X.D i ∧ stD a X To i - X.D i ≤ 262144 := by
  have h1 := k.d i hi
  have h2 := hT i hi
  unfold stD
  cases a
  · simp; omega
  · have h3 := clampR_bd (To i - X.D i)
    have h4 := clampR_two (To i - X.D i)
    show (-4194304 ≤ X.D i + clampV (To i - X.D i) (-262144) 262144 ∧ X.D i + clampV (To i - X.D i) (-262144) 262144 ≤ 4194304) ∧ -262144 ≤ X.D i + clampV (To i - X.D i) (-262144) 262144 - X.D i ∧ X.D i + clampV (To i - X.D i) (-262144) 262144 - X.D i ≤ 262144
    omega
theorem SSI.step {X : SSt} (k : SSI X) (V : SeT) {A To : Nat → Int} (hA : ∀ i, i < 3 → -1073741824 ≤ A i ∧ A i ≤ 1073741824) (hT : ∀ i, i < 3 → -4194304 ≤ To i ∧ To i ≤ 4194304) : SSI (stX X V A To) :=
  ⟨fun i hi => (stD_bd k _ hT hi).1, hA⟩
theorem ptTo_le (L : Nat → Int) : ∀ i, i < 3 → -4194304 ≤ ptTo L i ∧ ptTo L i ≤ 4194304 := fun i hi => by
  unfold ptTo
  by_cases h : okL (ptV L) 4194304
  · exact (lim_core h).1 i hi
  · unfold limF; rw [if_neg h]; exact z0 (by decide)
theorem bet_le {f g : Nat → Int} (hI : ∀ i, i < 4 → I64 (f i)) (hJ : ∀ i, i < 4 → I64 (g i)) : ∀ i, i < 4 → -1099511627776 ≤ betF f g i ∧ betF f g i ≤ 1099511627776 := fun i hi => by
  unfold betF
  cases hf : validQ f with
  | false => exact z0 (by decide)
  | true =>
    cases hg : validQ g with
    | false => exact z0 (by decide)
    | true =>
      obtain ⟨k1, _, u1⟩ := valid_nn hI hf
      obtain ⟨k2, _, u2⟩ := valid_nn hJ hg
      have c1 := fun j (hj : j < 4) => vcomp u1 hj
      have c2 := fun j (hj : j < 4) => vcomp u2 hj
      have w : ∀ j, j < 4 → wrap64 (-f j) = -f j := fun j hj => by have := c1 j hj; unfold wrap64; omega
      have c3 : ∀ j, j < 4 → -1073741828 ≤ conjF f j ∧ conjF f j ≤ 1073741828 := fun j hj => by
        have := c1 j hj
        unfold conjF
        split
        · exact c1 0 (by omega)
        · rw [w j hj]; omega
      have kc : okQ (conjF f) = true := (okQ_iff _).2 fun j hj => (vb_iff _).2 (by have := c3 j hj; omega)
      have key : ∀ i, i < 4 → -1099511627776 ≤ qprodF (conjF f) g i ∧ qprodF (conjF f) g i ≤ 1099511627776 := fun i hi => by
        obtain ⟨e, he, l, u⟩ := prod_err kc k2 hi
        have p := fun a (ha : a < 4) b (hb : b < 4) => bmul (P := 1073741828) (R := 1073741828) (c3 a ha).1 (c3 a ha).2 (c2 b hb).1 (c2 b hb).2
        generalize conjF f = C at *
        have hp : -8589934592000000000 ≤ pe C g i ∧ pe C g i ≤ 8589934592000000000 := by
          rcases (show i = 0 ∨ i = 1 ∨ i = 2 ∨ i = 3 by omega) with rfl | rfl | rfl | rfl
          · have := p 0 (by omega) 0 (by omega); have := p 1 (by omega) 1 (by omega); have := p 2 (by omega) 2 (by omega); have := p 3 (by omega) 3 (by omega)
            simp only [pe]; omega
          · have := p 0 (by omega) 1 (by omega); have := p 1 (by omega) 0 (by omega); have := p 2 (by omega) 3 (by omega); have := p 3 (by omega) 2 (by omega)
            simp only [pe]; omega
          · have := p 0 (by omega) 2 (by omega); have := p 1 (by omega) 3 (by omega); have := p 2 (by omega) 0 (by omega); have := p 3 (by omega) 1 (by omega)
            simp only [pe]; omega
          · have := p 0 (by omega) 3 (by omega); have := p 1 (by omega) 2 (by omega); have := p 2 (by omega) 1 (by omega); have := p 3 (by omega) 0 (by omega)
            simp only [pe]; omega
        omega
      show -1099511627776 ≤ betX f g i ∧ betX f g i ≤ 1099511627776
      unfold betX
      split
      · have := key i hi; unfold negF; omega
      · exact key i hi
def restX (X : SSt) (V : SeT) : SSt := if senseOk V then stX X V (fun _ => 0) (fun _ => 0) else X
def restC (X : SSt) (V : SeT) : Nat → Int := if senseOk V then stC X V (fun _ => 0) else fun _ => 0
def StepS (X Y : SSt) : Prop := SSI Y ∧ ∀ i, i < 3 → (-4194304 ≤ Y.D i ∧ Y.D i ≤ 4194304) ∧ -262144 ≤ Y.D i - X.D i ∧ Y.D i - X.D i ≤ 262144
theorem StepS.same {X : SSt} (k : SSI X) : StepS X X := ⟨k, fun i hi => ⟨k.d i hi, by omega, by omega⟩⟩
theorem StepS.step {X : SSt} (k : SSI X) (V : SeT) {A To : Nat → Int} (hA : ∀ i, i < 3 → -1073741824 ≤ A i ∧ A i ≤ 1073741824) (hT : ∀ i, i < 3 → -4194304 ≤ To i ∧ To i ≤ 4194304) : StepS X (stX X V A To) :=
  ⟨k.step V hA hT, fun i hi => stD_bd k _ hT hi⟩
theorem z3 : ∀ i, i < 3 → (-1073741824 : Int) ≤ (fun _ => 0 : Nat → Int) i ∧ (fun _ => 0 : Nat → Int) i ≤ 1073741824 := fun i hi => z0 (by decide)
theorem restX_S {X : SSt} (k : SSI X) (V : SeT) : StepS X (restX X V) := by
  unfold restX; split
  · exact .step k V z3 (fun i hi => z0 (by decide))
  · exact .same k
end Go.Proofs.Ytkmelddejdikgaa
