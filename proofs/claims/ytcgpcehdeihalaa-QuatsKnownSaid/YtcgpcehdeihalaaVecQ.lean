/-
  The transposed matrix of the specification, and its product with a vector. Back of the specification: the transposed matrix times a vector.
-/
import Derived.Test.YtcgpcehdeihalaaVecO
set_option linter.unusedSimpArgs false
set_option linter.unusedVariables false
namespace Go.Proofs.Ytcgpcehdeihalaa
open Go.RowKit PM Dt
/-- The transposed matrix. -/
def mtr (g : Nat → Int) : Nat → Int := fun j => g (3 * (j % 3) + j / 3)
def tpre (g : Nat → Int) (n : Nat) : Nat → Int := fun j => if 3 * (j % 3) + j / 3 < n then g (3 * (j % 3) + j / 3) else 0
end Go.Proofs.Ytcgpcehdeihalaa
namespace Go.Proofs.Ytcgpcehdeihalaa
open Go.RowKit PM Dt
theorem mtr_cell (g : Nat → Int) {r k : Nat} (hr : r < 3) (hk : k < 3) : mtr g (3 * r + k) = g (3 * k + r) := by
  unfold mtr
  rw [show (3 * r + k) % 3 = k by omega, show (3 * r + k) / 3 = r by omega]
theorem okM_mtr (g : Nat → Int) : okM (mtr g) = okM g := by
  rw [Bool.eq_iff_iff]
  constructor
  · intro h
    refine okM_of fun i hi => ?_
    have := okM_cell h (i := 3 * (i % 3) + i / 3) (by omega)
    rw [mtr_cell g (r := i % 3) (k := i / 3) (by omega) (by omega), show 3 * (i / 3) + i % 3 = i by omega] at this
    exact this
  · intro h
    refine okM_of fun i hi => ?_
    exact okM_cell h (by omega)
theorem okV_same {x y : Nat → Int} (h : ∀ i, i < 3 → x i = y i) : okV x = okV y := by unfold okV; rw [h 0 (by omega), h 1 (by omega), h 2 (by omega)]
theorem res_same {x y : Nat → Int} (h : ∀ i, i < 3 → x i = y i) : vfn (resF x) = vfn (resF y) ∧ resE x = resE y := by
  unfold resF resE
  rw [okV_same h]
  cases okV y
  · exact ⟨rfl, rfl⟩
  · exact ⟨vfn_congr h, rfl⟩
theorem apply_tr (g f : Nat → Int) (i : Nat) (hi : i < 3) : applyX (mtr g) f i = backX g f i := by
  unfold applyX backX d3
  have e : ∀ k, k < 3 → mrow (mtr g) i k = mcol g i k := fun k hk => mtr_cell g hi hk
  rw [e 0 (by omega), e 1 (by omega), e 2 (by omega)]
theorem back_tr (g f : Nat → Int) : vfn (vapplyF (mtr g) f) = vfn (vbackF g f) ∧ vapplyE (mtr g) f = vbackE g f := by
  unfold vapplyF vapplyE vbackF vbackE
  rw [okM_mtr]
  cases okM g && okV f
  · show vfn (fun _ => 0) = vfn (fun _ => 0) ∧ (2 : Int) = 2
    exact ⟨rfl, rfl⟩
  · show vfn (resF (applyX (mtr g) f)) = vfn (resF (backX g f)) ∧ resE (applyX (mtr g) f) = resE (backX g f)
    exact res_same fun i hi => apply_tr g f i hi
end Go.Proofs.Ytcgpcehdeihalaa
