/-
  More ways on in a statement whose order of evaluation is open: two operations, or one, that make memory.
-/
import Derived.Test.YthkklhfnmodpnaaDet2
set_option linter.unusedSimpArgs false
set_option linter.unusedVariables false
namespace Go.Proofs.Ythkklhfnmodpnaa.Dt
open Go Go.RowKit
section
variable {P : Program}
/-- BRANCH: one of two may come up now, each of which makes memory alone. -/
theorem wpY_two {l : List Oper} {e : Nat} {Q : Exit → Act → World → Prop} {f : Nat} {listed : Array Bool} {a : Act} {w : World} (i j : Nat) {oi oj : Oper} (hoi' : l[i]? = some oi) (hgi : oi.guard = none) (hoj' : l[j]? = some oj) (hgj : oj.guard = none)
    (hr : Region.ready .any l.toArray listed = [i, j])
    (h1 : ∀ w1, More w w1 → ∀ K : Act → World → Prop, (∀ a' w', More w1 w' → wpY P .any l.toArray e Q f (listed.setIfInBounds i true) a' w' → K a' w') → oi.wp P a w1 K NoQ)
    (h2 : ∀ w1, More w w1 → ∀ K : Act → World → Prop, (∀ a' w', More w1 w' → wpY P .any l.toArray e Q f (listed.setIfInBounds j true) a' w' → K a' w') → oj.wp P a w1 K NoQ) : wpY P .any l.toArray e Q (f + 1) listed a w := by
  have hoi : l.toArray[i]? = some oi := by simpa using hoi'
  have hoj : l.toArray[j]? = some oj := by simpa using hoj'
  intro w1 hm1
  refine ⟨by rw [hr]; simp, fun k hk => ?_⟩
  rw [hr] at hk
  have : k = i ∨ k = j := by simpa using hk
  rcases this with rfl | rfl
  · unfold Go.wpOp
    simp only [hoi, Region.wanted, hgi, if_true]
    exact .inl (h1 w1 hm1 _ fun a' w' hm hx => ⟨fun _ => hm, hx⟩)
  · unfold Go.wpOp
    simp only [hoj, Region.wanted, hgj, if_true]
    exact .inl (h2 w1 hm1 _ fun a' w' hm hx => ⟨fun _ => hm, hx⟩)
/-- One alone may come up now, which makes memory alone. -/
theorem wpY_more1 {l : List Oper} {e : Nat} {Q : Exit → Act → World → Prop} {f : Nat} {listed : Array Bool} {a : Act} {w : World} (i : Nat) {o : Oper} (ho' : l[i]? = some o) (hg : o.guard = none)
    (hr : Region.ready .any l.toArray listed = [i])
    (h : ∀ w1, More w w1 → ∀ K : Act → World → Prop, (∀ a' w', More w1 w' → wpY P .any l.toArray e Q f (listed.setIfInBounds i true) a' w' → K a' w') → o.wp P a w1 K NoQ) : wpY P .any l.toArray e Q (f + 1) listed a w := by
  have ho : l.toArray[i]? = some o := by simpa using ho'
  intro w1 h1
  refine ⟨by rw [hr]; simp, fun j hj => ?_⟩
  rw [hr] at hj
  have : j = i := by simpa using hj
  subst this
  unfold Go.wpOp
  simp only [ho, Region.wanted, hg, if_true]
  exact .inl (h w1 h1 _ fun a' w' hm hx => ⟨fun _ => hm, hx⟩)
end
end Go.Proofs.Ythkklhfnmodpnaa.Dt
