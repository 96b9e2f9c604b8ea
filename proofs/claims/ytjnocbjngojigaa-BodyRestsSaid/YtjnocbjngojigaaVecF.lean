/-
  Sines and cosines of package fixed and of its specification: what they return. The same of the specification of vectors: dot, two, Dot, Norm, result, Cross. Vector products, in the package and in its specification. Vector products as a whole, in the package and in its specification.
-/
import Derived.Test.YtjnocbjngojigaaHyp
import Derived.Test.YtjnocbjngojigaaVecA
import Derived.Test.YtjnocbjngojigaaBase
set_option linter.unusedSimpArgs false
set_option linter.unusedVariables false
namespace Go.Proofs.Ytjnocbjngojigaa
open Go.RowKit PM Dt
/-- A product. -/
def mulV (a b : Int) : Int := ratioV a b 1073741824
theorem fitV_I (q : Int) : I64 (fitV q) := by
  unfold fitV inI I64
  split
  · rename_i h; simp at h; omega
  · omega
/-- The sum of k terms, the last first. -/
def psum (y : Int) (t : Nat → Int) : Nat → Int
  | 0 => 0
  | k + 1 => mulV y (wrap64 (t (4 - k) - psum y t k))
attribute [irreducible] psum mulV
end Go.Proofs.Ytjnocbjngojigaa
namespace Go.Proofs.Ytjnocbjngojigaa
open Go.RowKit PM Dt
theorem list_J2 {a b : Int} (ha : I64 a) (hb : I64 b) : ∀ k, k < [a, b].length → I64 ([a, b].getD k 0) := by
  intro k hk
  rcases k with _ | _ | k
  · exact ha
  · exact hb
  · simp at hk; omega
theorem intsJ2 {w : World} {b : Nat} {a c : Int} {t : TypeId} (h : blk w b #[.int .i64 a, .int .i64 c] t) : Ints w (.slice (some ⟨b, 0, none⟩) 2 2) [a, c] :=
  Or.inr ⟨by simp, b, 0, 2, rfl, h.lt, fun k hk => by
    rcases k with _ | _ | k
    · exact h.cellIs rfl
    · exact h.cellIs rfl
    · simp at hk; omega⟩
theorem vb_neg {a : Int} (h : vb a = true) : vb (-a) = true := (vb_iff _).2 (by have := (vb_iff a).1 h; omega)
end Go.Proofs.Ytjnocbjngojigaa
namespace Go.Proofs.Ytjnocbjngojigaa
open Go.RowKit PM Dt
end Go.Proofs.Ytjnocbjngojigaa
namespace Go.Proofs.Ytjnocbjngojigaa
open Go.RowKit PM Dt
theorem good_zero (x : Nat → Int) : goodE x (fun _ => 0) = okV x := by unfold goodE okV; simp
def resF (x : Nat → Int) : Nat → Int := if okV x then x else fun _ => 0
def resE (x : Nat → Int) : Int := if okV x then 0 else 7
theorem each_res (x : Nat → Int) : eachF x (fun _ => 0) = resF x ∧ eachE x (fun _ => 0) = resE x := by
  unfold eachF eachE resF resE; rw [good_zero]; exact ⟨rfl, rfl⟩
end Go.Proofs.Ytjnocbjngojigaa
