/-
  Products of quaternions, in the package: the four components. Products of quaternions, in the package and in its specification.
-/
import Derived.Test.YtkmelddejdikgaaQuatB
import Derived.Test.YtkmelddejdikgaaBase
set_option linter.unusedSimpArgs false
set_option linter.unusedVariables false
namespace Go.Proofs.Ytkmelddejdikgaa
open Go.RowKit PM Dt
theorem qfn_set {f g : Nat → Int} {i : Nat} {v : Int} (h : i < 4) (hx : v = g i) (hg : ∀ j, j < 4 → j ≠ i → f j = g j) : (qfn f).setIfInBounds i (.int .i64 v) = qfn g := by
  subst hx
  have : i = 0 ∨ i = 1 ∨ i = 2 ∨ i = 3 := by omega
  rcases this with rfl | rfl | rfl | rfl
  · unfold qfn; rw [hg 1 (by omega) (by omega), hg 2 (by omega) (by omega), hg 3 (by omega) (by omega)]; rfl
  · unfold qfn; rw [hg 0 (by omega) (by omega), hg 2 (by omega) (by omega), hg 3 (by omega) (by omega)]; rfl
  · unfold qfn; rw [hg 0 (by omega) (by omega), hg 1 (by omega) (by omega), hg 3 (by omega) (by omega)]; rfl
  · unfold qfn; rw [hg 0 (by omega) (by omega), hg 1 (by omega) (by omega), hg 2 (by omega) (by omega)]; rfl
/-- The product of two lists of four numbers, as an integer. -/
def d4 (f g : Nat → Int) : Int := dotS [f 0, f 1, f 2, f 3] [g 0, g 1, g 2, g 3]
def pre4 (x : Nat → Int) (k : Nat) : Nat → Int := fun j => if j < k then x j else 0
/-- The signs of the terms, as cells. -/
def sgnA : Array Value := #[.int .i64 1, .int .i64 (-1), .int .i64 (-1), .int .i64 (-1), .int .i64 1, .int .i64 1, .int .i64 1, .int .i64 (-1), .int .i64 1, .int .i64 (-1), .int .i64 1, .int .i64 1, .int .i64 1, .int .i64 1, .int .i64 (-1), .int .i64 1]
attribute [irreducible] sgnA
end Go.Proofs.Ytkmelddejdikgaa
namespace Go.Proofs.Ytkmelddejdikgaa
open Go.RowKit PM Dt
theorem sum_any (xs ys : List Int) (v u : Value) (w : World) (hv : Ints w v xs) (hu : Ints w u ys) (hx : ∀ k, k < xs.length → I64 (xs.getD k 0)) (hy : ∀ k, k < ys.length → I64 (ys.getD k 0)) :
    Calls Try.prog 163 #[v, u] w fun e w' => e = .returned (.int .i64 (dotV xs ys)) ∧ Below w.heap.size w w' := by
  have H := Lib.hid (rdot_any xs ys v u w hv hu hx hy)
  generalize dotV xs ys = X at *
  generalize dotE xs ys = E at *
  clear hv hu hx hy
  go_enter Try.func163, Try.ntmps163
  go_wp2_with (go_at_call 191; refine H.out.mono ?_; rintro e w1 ⟨rfl, hB⟩)
  go_ret
  exact ⟨rfl, hB⟩
end Go.Proofs.Ytkmelddejdikgaa
