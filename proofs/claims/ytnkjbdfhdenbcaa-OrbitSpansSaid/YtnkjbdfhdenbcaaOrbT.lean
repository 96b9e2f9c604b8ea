/-
  Orbits: what the spans in view are. No program in sight.
-/
import Derived.Test.YtnkjbdfhdenbcaaWinB
set_option linter.unusedSimpArgs false
set_option linter.unusedVariables false
namespace Go.Proofs.Ytnkjbdfhdenbcaa
open Go.RowKit PM Dt
/-- A span of a list. -/
def spa (L : List (Int × Int)) (i : Nat) : Int := (L.getD i (0, 0)).1
def spb (L : List (Int × Int)) (i : Nat) : Int := (L.getD i (0, 0)).2
theorem getD_lt {L M : List (Int × Int)} {i : Nat} (h : i < L.length) : (L ++ M).getD i (0, 0) = L.getD i (0, 0) := by
  simp only [List.getD_eq_getElem?_getD, List.getElem?_append_left h]
theorem getD_at (L : List (Int × Int)) (p : Int × Int) : (L ++ [p]).getD L.length (0, 0) = p := by
  simp [List.getD_eq_getElem?_getD]
theorem spa_lt {L M : List (Int × Int)} {i : Nat} (h : i < L.length) : spa (L ++ M) i = spa L i := by unfold spa; rw [getD_lt h]
theorem spb_lt {L M : List (Int × Int)} {i : Nat} (h : i < L.length) : spb (L ++ M) i = spb L i := by unfold spb; rw [getD_lt h]
theorem spa_at (L : List (Int × Int)) (p : Int × Int) : spa (L ++ [p]) L.length = p.1 := by unfold spa; rw [getD_at]
theorem spb_at (L : List (Int × Int)) (p : Int × Int) : spb (L ++ [p]) L.length = p.2 := by unfold spb; rw [getD_at]
theorem len_at (L : List (Int × Int)) (p : Int × Int) : (L ++ [p]).length = L.length + 1 := by simp
/-- What the spans of k ticks are. -/
structure WInv (v : Int → Bool) (a : Int) (k : Nat) (L : List (Int × Int)) : Prop where
  one : ∀ i, i < L.length → a ≤ spa L i ∧ spa L i < spb L i ∧ spb L i ≤ a + k
  two : ∀ i, i + 1 < L.length → spb L i < spa L (i + 1)
  hit : ∀ t, a ≤ t → t < a + k → v t = true → ∃ i, i < L.length ∧ spa L i ≤ t ∧ t < spb L i
  mis : ∀ t, a ≤ t → t < a + k → v t = false → ∀ i, i < L.length → ¬ (spa L i ≤ t ∧ t < spb L i)
theorem WInv.new {v : Int → Bool} {a x : Int} {k : Nat} {L : List (Int × Int)} (h : WInv v a k L) (hx : x = a + k) (hv : v x = true) (hl : ∀ i, i < L.length → spb L i < x) : WInv v a (k + 1) (L ++ [(x, x + 1)]) := by
  have e1 := spa_at L (x, x + 1)
  have e2 := spb_at L (x, x + 1)
  have hc : ((k + 1 : Nat) : Int) = k + 1 := by omega
  refine ⟨fun i hi => ?_, fun i hi => ?_, fun t h1 h2 hh => ?_, fun t h1 h2 hh i hi => ?_⟩
  · rw [len_at] at hi
    rw [hc]
    by_cases hq : i < L.length
    · have := h.one i hq
      rw [spa_lt hq, spb_lt hq]; omega
    · obtain rfl : i = L.length := by omega
      rw [e1, e2]
      show a ≤ x ∧ x < x + 1 ∧ x + 1 ≤ a + (k + 1)
      omega
  · rw [len_at] at hi
    have hi' : i < L.length := by omega
    rw [spb_lt hi']
    by_cases hq : i + 1 < L.length
    · rw [spa_lt hq]; exact h.two i hq
    · have : i + 1 = L.length := by omega
      rw [this, e1]; exact hl i hi'
  · by_cases ht : t < a + k
    · obtain ⟨i, hi, hb⟩ := h.hit t h1 ht hh
      exact ⟨i, by rw [len_at]; omega, by rw [spa_lt hi, spb_lt hi]; exact hb⟩
    · refine ⟨L.length, by rw [len_at]; omega, ?_⟩
      rw [e1, e2]
      show x ≤ t ∧ t < x + 1
      omega
  · rw [len_at] at hi
    have ht : t < a + k := by
      apply Classical.byContradiction; intro hn
      have : t = x := by omega
      rw [this, hv] at hh; cases hh
    by_cases hq : i < L.length
    · rw [spa_lt hq, spb_lt hq]; exact h.mis t h1 ht hh i hq
    · obtain rfl : i = L.length := by omega
      rw [e1]
      show ¬ (x ≤ t ∧ _)
      omega
theorem WInv.grow {v : Int → Bool} {a x c : Int} {k : Nat} {L : List (Int × Int)} (h : WInv v a k (L ++ [(c, x)])) (hx : x = a + k) (hv : v x = true) : WInv v a (k + 1) (L ++ [(c, x + 1)]) := by
  have e1 := spa_at L (c, x + 1)
  have e2 := spb_at L (c, x + 1)
  have f1 := spa_at L (c, x)
  have f2 := spb_at L (c, x)
  have hc : ((k + 1 : Nat) : Int) = k + 1 := by omega
  have g := h.one L.length (by rw [len_at]; omega)
  rw [f1, f2] at g
  have g' : a ≤ c ∧ c < x := ⟨g.1, g.2.1⟩
  refine ⟨fun i hi => ?_, fun i hi => ?_, fun t h1 h2 hh => ?_, fun t h1 h2 hh i hi => ?_⟩
  · rw [len_at] at hi
    rw [hc]
    by_cases hq : i < L.length
    · have := h.one i (by rw [len_at]; omega)
      rw [spa_lt hq, spb_lt hq] at this ⊢; omega
    · obtain rfl : i = L.length := by omega
      rw [e1, e2]
      show a ≤ c ∧ c < x + 1 ∧ x + 1 ≤ a + (k + 1)
      omega
  · rw [len_at] at hi
    have hi' : i < L.length := by omega
    have := h.two i (by rw [len_at]; omega)
    rw [spb_lt hi'] at this ⊢
    by_cases hq : i + 1 < L.length
    · rw [spa_lt hq] at this ⊢; exact this
    · have e : i + 1 = L.length := by omega
      rw [e] at this ⊢
      rw [f1] at this
      rw [e1]; exact this
  · by_cases ht : t < a + k
    · obtain ⟨i, hi, hb⟩ := h.hit t h1 ht hh
      rw [len_at] at hi
      refine ⟨i, by rw [len_at]; omega, ?_⟩
      by_cases hq : i < L.length
      · rw [spa_lt hq, spb_lt hq] at hb ⊢; exact hb
      · obtain rfl : i = L.length := by omega
        rw [f1, f2] at hb
        rw [e1, e2]
        have hb' : c ≤ t ∧ t < x := hb
        show c ≤ t ∧ t < x + 1
        omega
    · refine ⟨L.length, by rw [len_at]; omega, ?_⟩
      rw [e1, e2]
      show c ≤ t ∧ t < x + 1
      omega
  · rw [len_at] at hi
    have ht : t < a + k := by
      apply Classical.byContradiction; intro hn
      have : t = x := by omega
      rw [this, hv] at hh; cases hh
    have := h.mis t h1 ht hh i (by rw [len_at]; omega)
    by_cases hq : i < L.length
    · rw [spa_lt hq, spb_lt hq] at this ⊢; exact this
    · obtain rfl : i = L.length := by omega
      rw [f1, f2] at this
      rw [e1, e2]
      have this' : ¬ (c ≤ t ∧ t < x) := this
      show ¬ (c ≤ t ∧ t < x + 1)
      omega
theorem WInv.skip {v : Int → Bool} {a : Int} {k : Nat} {L : List (Int × Int)} (h : WInv v a k L) (hv : v (a + k) = false) : WInv v a (k + 1) L := by
  have hc : ((k + 1 : Nat) : Int) = k + 1 := by omega
  refine ⟨fun i hi => ?_, h.two, fun t h1 h2 hh => ?_, fun t h1 h2 hh i hi => ?_⟩
  · have := h.one i hi
    rw [hc]; omega
  · have ht : t < a + k := by
      apply Classical.byContradiction; intro hn
      have : t = a + k := by omega
      rw [this, hv] at hh; cases hh
    exact h.hit t h1 ht hh
  · by_cases ht : t < a + k
    · exact h.mis t h1 ht hh i hi
    · have := h.one i hi
      omega
theorem win_inv (f g : Nat → Int) (a : Int) (ha : 0 ≤ a) : ∀ k : Nat, a + k ≤ 2199023255552 → WInv (viewB f g) a k (win (tick f g a k)) := by
  intro k
  induction k with
  | zero => exact fun _ => ⟨fun i hi => (by simp [tick, win] at hi), fun i hi => (by simp [tick, win] at hi), fun t h1 h2 => (by omega), fun t h1 h2 => (by omega)⟩
  | succ k ih =>
    intro hk
    have h := ih (by omega)
    cases hv : viewB f g (a + k) with
    | false => rw [tick_no hv]; exact h.skip hv
    | true =>
      rw [tick_yes hv, win_snoc]
      have w : wrap64 (a + (k : Int) + 1) = a + k + 1 := by unfold wrap64; omega
      rcases List.eq_nil_or_concat (win (tick f g a k)) with hW | ⟨L, ⟨c, d⟩, hW⟩
      · rw [hW] at h ⊢
        rw [winS_nil, w]
        exact h.new rfl hv (fun i hi => by simp at hi)
      · rw [List.concat_eq_append] at hW
        rw [hW] at h ⊢
        have hd := h.one L.length (by rw [len_at]; omega)
        rw [spa_at, spb_at] at hd
        by_cases hq : d = a + k
        · rw [winS_eq _ _ _ _ hq]
          subst hq
          rw [w]
          exact h.grow rfl hv
        · rw [winS_ne _ _ _ _ hq, w]
          refine h.new rfl hv (fun i hi => ?_)
          rw [len_at] at hi
          by_cases hi' : i < L.length
          · have h1 := h.one i (by rw [len_at]; omega)
            by_cases hl : i + 1 < (L ++ [(c, d)]).length
            · have h2 := h.two i hl
              have h3 := h.one (i + 1) hl
              omega
            · rw [len_at] at hl; omega
          · obtain rfl : i = L.length := by omega
            rw [spb_at]
            have hd' : a ≤ c ∧ c < d ∧ d ≤ a + k := hd
            show d < a + k
            omega
/-- The spans' ends rise. -/
theorem WInv.mono {v : Int → Bool} {a : Int} {k : Nat} {L : List (Int × Int)} (h : WInv v a k L) : ∀ (n i : Nat), i + 1 + n < L.length → spb L i < spa L (i + 1 + n) := by
  intro n
  induction n with
  | zero => exact fun i hi => h.two i hi
  | succ n ih =>
    intro i hi
    have h1 := ih i (by omega)
    have h2 := h.one (i + 1 + n) (by omega)
    have h3 := h.two (i + 1 + n) (by omega)
    have e : i + 1 + (n + 1) = i + 1 + n + 1 := by omega
    rw [e]; omega
theorem WInv.lt {v : Int → Bool} {a : Int} {k : Nat} {L : List (Int × Int)} (h : WInv v a k L) {i j : Nat} (hij : i < j) (hj : j < L.length) : spb L i < spa L j := by
  obtain ⟨n, rfl⟩ : ∃ n, j = i + 1 + n := ⟨j - i - 1, by omega⟩
  exact h.mono n i hj
/-- Where the walk over the ticks stands in the list: behind the spans that have ended. -/
def Stands (L : List (Int × Int)) (q : Nat) (t : Int) : Prop := q ≤ L.length ∧ (∀ j, j < q → spb L j ≤ t) ∧ ∀ j, q ≤ j → j < L.length → t < spb L j
theorem Stands.step {v : Int → Bool} {a : Int} {k : Nat} {L : List (Int × Int)} (h : WInv v a k L) {q : Nat} {t : Int} (hs : Stands L q (t - 1)) : (q < L.length ∧ spb L q ≤ t → Stands L (q + 1) t) ∧ (¬ (q < L.length ∧ spb L q ≤ t) → Stands L q t) := by
  obtain ⟨h1, h2, h3⟩ := hs
  refine ⟨fun hc => ⟨by omega, fun j hj => ?_, fun j hj hl => ?_⟩, fun hc => ⟨h1, fun j hj => by have := h2 j hj; omega, fun j hj hl => ?_⟩⟩
  · by_cases hq : j < q
    · have := h2 j hq; omega
    · obtain rfl : j = q := by omega
      exact hc.2
  · have a1 := h3 q (Nat.le_refl _) hc.1
    have a2 := h.lt (i := q) (j := j) (by omega) hl
    have a3 := h.one j hl
    omega
  · have b1 : ¬ spb L q ≤ t := fun hx => hc ⟨by omega, hx⟩
    by_cases hq : j = q
    · subst hq; omega
    · have a2 := h.lt (i := q) (j := j) (by omega) hl
      have a3 := h.one j hl
      omega
theorem Stands.view {v : Int → Bool} {a : Int} {k : Nat} {L : List (Int × Int)} (h : WInv v a k L) {q : Nat} {t : Int} (hs : Stands L q t) (h1 : a ≤ t) (h2 : t < a + k) : v t = (decide (q < L.length) && (decide (spa L q ≤ t) && decide (t < spb L q))) := by
  obtain ⟨s1, s2, s3⟩ := hs
  cases hv : v t with
  | true =>
    obtain ⟨i, hi, hb⟩ := h.hit t h1 h2 hv
    have hiq : i = q := by
      by_cases x : i < q
      · have := s2 i x; omega
      · by_cases y : q < i
        · have a1 := s3 q (Nat.le_refl _) (by omega)
          have a2 := h.lt y hi
          omega
        · omega
    subst hiq
    rw [decide_eq_true hi, decide_eq_true hb.1, decide_eq_true hb.2]; rfl
  | false =>
    by_cases hq : q < L.length
    · have := h.mis t h1 h2 hv q hq
      by_cases x : spa L q ≤ t
      · have y : ¬ t < spb L q := fun hh => this ⟨x, hh⟩
        rw [decide_eq_false y, Bool.and_false, Bool.and_false]
      · rw [decide_eq_false x, Bool.false_and, Bool.and_false]
    · rw [decide_eq_false hq, Bool.false_and]
end Go.Proofs.Ytnkjbdfhdenbcaa
