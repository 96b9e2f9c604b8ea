/-
  Acts on bodies.
-/
import Derived.Test.YtkmelddejdikgaaBdC
import Derived.Test.YtkmelddejdikgaaBdP
import Derived.Test.YtkmelddejdikgaaLawVec
import Derived.Test.YtkmelddejdikgaaQEq
import Derived.Test.YtkmelddejdikgaaArg
set_option linter.unusedSimpArgs false
set_option linter.unusedVariables false
namespace Go.Proofs.Ytkmelddejdikgaa
open Go.RowKit PM Dt
def stc (x : (Nat → Int) × (Nat → Int) × (Nat → Int) × Int) : Array Value := rbc ⟨x.1, x.2.1, x.2.2.1, x.2.2.2⟩
theorem BI.fail {X : BSt} (k : BI X) (i : Int) : BI (failX X i) := by
  refine ⟨k.q, k.v, k.t, ?_⟩
  show SI (failH X.h X.f i) (failF X.f i)
  unfold failH failF
  split
  · rename_i h
    have hi : 0 ≤ i ∧ i ≤ 3 := by
      unfold failE at h
      by_cases h1 : i < 0
      · simp [h1] at h
      · by_cases h2 : 3 < i
        · simp [h1, h2] at h
        · omega
    obtain ⟨j, rfl⟩ : ∃ j : Nat, i = j := ⟨i.toNat, by omega⟩
    rw [Int.toNat_natCast]
    exact k.s.fail (by omega)
  · exact k.s
end Go.Proofs.Ytkmelddejdikgaa
