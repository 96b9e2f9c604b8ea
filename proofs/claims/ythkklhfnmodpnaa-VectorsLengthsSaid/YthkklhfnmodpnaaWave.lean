/-
  Sines and cosines of package fixed and of its specification: what they return.
-/
import Derived.Test.YthkklhfnmodpnaaHyp
set_option linter.unusedSimpArgs false
set_option linter.unusedVariables false
namespace Go.Proofs.Ythkklhfnmodpnaa
open Go.RowKit PM Dt
/-- A product. -/
def mulV (a b : Int) : Int := ratioV a b 1073741824
theorem fitV_I (q : Int) : I64 (fitV q) := by
  unfold fitV inI I64
  split
  · rename_i h; simp at h; omega
  · omega
theorem ratioV_I (a b c : Int) : I64 (ratioV a b c) := by
  unfold ratioV
  split
  · unfold I64; omega
  · exact fitV_I _
theorem mulV_I (a b : Int) : I64 (mulV a b) := ratioV_I _ _ _
theorem wrap_I (a : Int) : I64 (wrap64 a) := by unfold I64 wrap64; omega
/-- A sum of five terms. -/
def poly (y a b c d e : Int) : Int := mulV y (wrap64 (a - mulV y (wrap64 (b - mulV y (wrap64 (c - mulV y (wrap64 (d - mulV y e))))))))
/-- The part of a turn in radians. -/
def arcV (r : Int) : Int := ratioV r 6746518852 4294967296
/-- The sine of a part of a quarter of a turn. -/
def waveV (r : Int) : Int :=
  if r ≤ 536870912 then mulV (arcV r) (wrap64 (1073741824 - poly (mulV (arcV r) (arcV r)) 178956971 8947849 213044 2959 27))
  else wrap64 (1073741824 - poly (mulV (arcV (1073741824 - r)) (arcV (1073741824 - r))) 536870912 44739243 1491308 26631 296)
/-- The sum of k terms, the last first. -/
def psum (y : Int) (t : Nat → Int) : Nat → Int
  | 0 => 0
  | k + 1 => mulV y (wrap64 (t (4 - k) - psum y t k))
theorem psum_succ (y : Int) (t : Nat → Int) (k : Nat) : psum y t (k + 1) = mulV y (wrap64 (t (4 - k) - psum y t k)) := rfl
theorem psum_zero (y : Int) (t : Nat → Int) : psum y t 0 = 0 := rfl
def tab (a b c d e : Int) : Nat → Int
  | 0 => a
  | 1 => b
  | 2 => c
  | 3 => d
  | _ => e
theorem wrap64_I {a : Int} (h : I64 a) : wrap64 a = a := by unfold I64 at h; unfold wrap64; omega
theorem psum_five (y a b c d e : Int) (h : I64 e) : psum y (tab a b c d e) 5 = poly y a b c d e := by
  have h0 : psum y (tab a b c d e) 1 = mulV y e := by
    rw [psum_succ, psum_zero, Int.sub_zero]
    show mulV y (wrap64 e) = _
    rw [wrap64_I h]
  rw [psum_succ, psum_succ, psum_succ, psum_succ, h0]
  rfl
theorem psum_I (y : Int) (t : Nat → Int) : ∀ k, I64 (psum y t k)
  | 0 => by unfold psum I64; omega
  | k + 1 => mulV_I _ _
attribute [irreducible] psum mulV
end Go.Proofs.Ythkklhfnmodpnaa
