/-
  Wheels and bodies, plainly: what a tick does to them. No function of the program is walked here.
-/
import Derived.Test.YtjnocbjngojigaaSave
import Derived.Test.YtjnocbjngojigaaLawQ
import Derived.Test.YtjnocbjngojigaaVUnit
import Derived.Test.YtjnocbjngojigaaVecI
import Derived.Test.YtjnocbjngojigaaBet
set_option linter.unusedSimpArgs false
set_option linter.unusedVariables false
namespace Go.Proofs.Ytjnocbjngojigaa
open Go.RowKit PM Dt
/-- A wheel's loss. -/
def frW (h : Int) : Int := h.tdiv 1024
def stpX (h c : Int) : Int := clampV (h - frW h + clampV c (-1048576) 1048576) (-16777216) 16777216
/-- The speeds behind a step. -/
def stpF (h : Nat → Int) (f : Int) (c : Nat → Int) : Nat → Int := fun i => if (i : Int) = f then h i else stpX (h i) (c i)
def setF (h : Nat → Int) (j : Nat) : Nat → Int := fun i => if i = j then 0 else h i
def isW (f : Int) : Bool := decide (-1 ≤ f) && decide (f ≤ 3)
/-- A wheel that New takes. -/
def whB (h : Nat → Int) (f : Int) (i : Nat) : Bool := decide (-16777216 ≤ h i) && (decide (h i ≤ 16777216) && !(decide ((i : Int) = f) && !decide (h i = 0)))
def newB (h : Nat → Int) (f : Int) : Bool := isW f && (whB h f 0 && (whB h f 1 && (whB h f 2 && whB h f 3)))
def sumW (h : Nat → Int) : Nat → Int := fun i => h i + h 3
structure SI (h : Nat → Int) (f : Int) : Prop where
  b : ∀ i, i < 4 → -16777216 ≤ h i ∧ h i ≤ 16777216
  l : -1 ≤ f
  u : f ≤ 3
theorem whB_bd {h : Nat → Int} {f : Int} {i : Nat} (k : whB h f i = true) : -16777216 ≤ h i ∧ h i ≤ 16777216 ∧ ((i : Int) = f → h i = 0) := by
  simp only [whB, Bool.and_eq_true, decide_eq_true_eq, Bool.not_eq_true', Bool.and_eq_false_imp, Bool.not_eq_false'] at k
  exact ⟨k.1, k.2.1, fun e => by simpa using k.2.2 e⟩
theorem newB_SI {h : Nat → Int} {f : Int} (k : newB h f = true) : SI h f ∧ ∀ i : Nat, i < 4 → (i : Int) = f → h i = 0 := by
  simp only [newB, isW, Bool.and_eq_true, decide_eq_true_eq] at k
  obtain ⟨⟨k1, k2⟩, a, b, c, d⟩ := k
  have A := whB_bd a; have B := whB_bd b; have C := whB_bd c; have D := whB_bd d
  refine ⟨⟨fun i hi => ?_, k1, k2⟩, fun i hi => ?_⟩
  · rcases (show i = 0 ∨ i = 1 ∨ i = 2 ∨ i = 3 by omega) with rfl | rfl | rfl | rfl
    all_goals first | exact ⟨A.1, A.2.1⟩ | exact ⟨B.1, B.2.1⟩ | exact ⟨C.1, C.2.1⟩ | exact ⟨D.1, D.2.1⟩
  · rcases (show i = 0 ∨ i = 1 ∨ i = 2 ∨ i = 3 by omega) with rfl | rfl | rfl | rfl
    all_goals first | exact A.2.2 | exact B.2.2 | exact C.2.2 | exact D.2.2
theorem clampW_bd (x : Int) : -16777216 ≤ clampV x (-16777216) 16777216 ∧ clampV x (-16777216) 16777216 ≤ 16777216 := by
  unfold clampV; split <;> (try split) <;> omega
theorem frW_bd {h : Int} (hh : -16777216 ≤ h ∧ h ≤ 16777216) : -16384 ≤ frW h ∧ frW h ≤ 16384 := by
  unfold frW
  rcases Int.le_total 0 h with h0 | h0
  · rw [Int.tdiv_eq_ediv_of_nonneg h0]; omega
  · have e : h.tdiv 1024 = -((-h) / 1024) := by
      rw [← Int.tdiv_eq_ediv_of_nonneg (show 0 ≤ -h by omega), Int.neg_tdiv]; omega
    rw [e]; omega
theorem SI.step {h : Nat → Int} {f : Int} (k : SI h f) (c : Nat → Int) : SI (stpF h f c) f :=
  ⟨fun i hi => by
    unfold stpF
    split
    · exact k.b i hi
    · exact clampW_bd _, k.l, k.u⟩
theorem SI.fail {h : Nat → Int} {f : Int} (k : SI h f) {j : Nat} (hj : j < 4) : SI (setF h j) j :=
  ⟨fun i hi => by
    unfold setF
    split
    · omega
    · exact k.b i hi, by omega, by omega⟩
theorem sumW_bd {h : Nat → Int} {f : Int} (k : SI h f) {i : Nat} (hi : i < 3) : -33554432 ≤ sumW h i ∧ sumW h i ≤ 33554432 := by
  have := k.b i (by omega); have := k.b 3 (by omega)
  unfold sumW; omega
/-- A body. -/
structure BSt where
  Q : Nat → Int
  T : Nat → Int
  h : Nat → Int
  f : Int
def sqV (h : Nat → Int) : Int := h 0 * h 0 + h 1 * h 1 + h 2 * h 2
def allB (h : Nat → Int) : Bool := smallB h 1048576 && decide (sqV h ≤ 1099511627776)
def momG (Q T h : Nat → Int) : Nat → Int := vsubF (qbackF Q T) (sumW h)
def mulF (k : Int) (l : Nat → Int) : Nat → Int := fun i => k * l i
def attG (Q l : Nat → Int) : Nat → Int := if zV l then Q else turnF Q (mulF 2 l)
def tickH (X : BSt) (c : Nat → Int) : Nat → Int := stpF X.h X.f c
def tickL (X : BSt) (c : Nat → Int) : Nat → Int := momG X.Q X.T (tickH X c)
def tickQ (X : BSt) (c : Nat → Int) : Nat → Int := attG X.Q (tickL X c)
structure BI (X : BSt) : Prop where
  q : ∀ i, i < 4 → I64 (X.Q i)
  v : validQ X.Q = true
  t : allB X.T = true
  s : SI X.h X.f
end Go.Proofs.Ytjnocbjngojigaa
