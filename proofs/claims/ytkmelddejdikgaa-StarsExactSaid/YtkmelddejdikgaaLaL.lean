/-
  The rotation from an attitude to the one that was turned is the turn, within a bound: arithmetic. No program in sight. The attitude that is found lies along the quaternion. Stars that are seen exactly: the first matrix, in the basis of the attitude, and exchanged. The bounds of what the statements compare: the rotation that is left, and the residual.
-/
import Derived.Test.YtkmelddejdikgaaBet
import Derived.Test.YtkmelddejdikgaaKeep
import Derived.Test.YtkmelddejdikgaaLaF
import Derived.Test.YtkmelddejdikgaaLaJ
import Derived.Test.YtkmelddejdikgaaSkK
set_option linter.unusedSimpArgs false
set_option linter.unusedVariables false
namespace Go.Proofs.Ytkmelddejdikgaa
open Go.RowKit PM Dt
theorem nn_comp {x : Nat → Int} {X : Int} (hX : 0 ≤ X) (h : nn x ≤ X * X) {i : Nat} (hi : i < 4) : -X ≤ x i ∧ x i ≤ X := by
  have n0 := sq_nn (x 0)
  have n1 := sq_nn (x 1)
  have n2 := sq_nn (x 2)
  have n3 := sq_nn (x 3)
  refine abs_le_of_sq hX ?_
  unfold nn at h
  have : i = 0 ∨ i = 1 ∨ i = 2 ∨ i = 3 := by omega
  rcases this with rfl | rfl | rfl | rfl <;> omega
/-- The conjugate, plainly. -/
def cj (f : Nat → Int) : Nat → Int
  | 0 => f 0
  | 1 => -f 1
  | 2 => -f 2
  | _ => -f 3
theorem nn_cj (f : Nat → Int) : nn (cj f) = nn f := by unfold nn cj; grind
end Go.Proofs.Ytkmelddejdikgaa
namespace Go.Proofs.Ytkmelddejdikgaa.La
open Go.RowKit PM Dt
theorem nn_dt (f : Nat → Int) : nn f = dt f f := rfl
theorem dt_lin3 {q c d u : Nat → Int} {a b : Int} (h : ∀ i, i < 4 → a * q i = b * c i + d i) : a * dt q u = b * dt c u + dt d u := by
  have h0 := h 0 (by omega); have h1 := h 1 (by omega); have h2 := h 2 (by omega); have h3 := h 3 (by omega)
  have x0 : d 0 = a * q 0 - b * c 0 := by omega
  have x1 : d 1 = a * q 1 - b * c 1 := by omega
  have x2 : d 2 = a * q 2 - b * c 2 := by omega
  have x3 : d 3 = a * q 3 - b * c 3 := by omega
  unfold dt; rw [x0, x1, x2, x3]; grind
/-- The unit of a vector along a quaternion. -/
theorem unit_ang {c u : Nat → Int} {R P E C : Int} (hk : okQ c = true) (hz : zQ c = false) (hN : 0 < dt u u) (hR : 0 ≤ R) (hNR : dt u u ≤ R * R) (hE : 0 < E) (hP : 0 ≤ P)
    (hv : NB 3 (fun j => E * dt c (En u (j + 1))) (P * (dt c (En u 0)).natAbs)) (hC : ∀ M : Int, 35184372088832 ≤ M → 2147483648 * P * R * (M + 1) + 2 * E * R * M ≤ 2 * E * C * M) :
    okQ (qunF c) = true ∧ 1073741822 * 1073741822 ≤ nn (qunF c) ∧ nn (qunF c) < 1073741826 * 1073741826 ∧ NB 3 (fun j => dt (qunF c) (En u (j + 1))) C := by
  obtain ⟨_, h1, ⟨M, Q, hM, hQ, hq1, hq2, hd⟩, h2, h3⟩ := qun_core hk hz
  refine ⟨h1, h2, h3, ?_⟩
  obtain ⟨d, hd⟩ : ∃ d : Nat → Int, ∀ i, i < 4 → 2 * (M * qunF c i) = 2 * (1073741824 * (Q * c i)) + d i ∧ -M ≤ d i ∧ d i ≤ M := by
    have := fun i => Classical.propDecidable (i < 4)
    have key : ∀ i, ∃ x, i < 4 → 2 * (M * qunF c i) = 2 * (1073741824 * (Q * c i)) + x ∧ -M ≤ x ∧ x ≤ M := fun i => by
      by_cases hi : i < 4
      · obtain ⟨x, hx⟩ := hd i hi; exact ⟨x, fun _ => hx⟩
      · exact ⟨0, fun h => absurd h hi⟩
    exact Classical.skolem.1 key
  have lin : ∀ a, 2 * M * dt (qunF c) (En u a) = 2147483648 * Q * dt c (En u a) + dt d (En u a) := fun a => dt_lin3 fun i hi => by
    have := (hd i hi).1
    have e1 : 2 * M * qunF c i = 2 * (M * qunF c i) := by grind
    have e2 : 2147483648 * Q * c i = 2 * (1073741824 * (Q * c i)) := by grind
    omega
  have hRM : 0 ≤ 2 * M * R := Int.mul_nonneg (by omega) hR
  have nd : NB 3 (fun j => dt d (En u (j + 1))) (2 * M * R) := by
    refine ⟨hRM, ?_⟩
    have f := compl u d d
    have g : dt d d ≤ 4 * (M * M) := by
      have q : ∀ i, i < 4 → d i * d i ≤ M * M := fun i hi => sq_le (hd i hi).2.1 (hd i hi).2.2
      have q0 := q 0 (by omega); have q1 := q 1 (by omega); have q2 := q 2 (by omega); have q3 := q 3 (by omega)
      unfold dt; omega
    have h0 := sqn (dt d (En u 0))
    have h4 : dt u u * dt d d ≤ (R * R) * (4 * (M * M)) := by
      refine mulm (by omega) hNR ?_ g
      have a0 := sqn (d 0); have a1 := sqn (d 1); have a2 := sqn (d 2); have a3 := sqn (d 3)
      unfold dt; omega
    have e : 2 * M * R * (2 * M * R) = (R * R) * (4 * (M * M)) := by grind
    rw [e]
    simp only [sm, Nat.reduceAdd]
    omega
  -- the scalar's bound
  obtain ⟨Y, hY⟩ : ∃ Y : Int, Y = (dt c (En u 0)).natAbs := ⟨_, rfl⟩
  rw [← hY] at hv
  have hY2 : Y * Y = dt c (En u 0) * dt c (En u 0) := by rw [hY]; exact abs_sq _
  have hY0 : 0 ≤ Y := by omega
  have hQY : Q * Y ≤ R * (M + 1) := by
    apply le_of_sq (Int.mul_nonneg hR (by omega))
    have f := compl u c c
    have s1 := sqn (dt c (En u 1)); have s2 := sqn (dt c (En u 2)); have s3 := sqn (dt c (En u 3))
    have f1 : Y * Y ≤ dt u u * dt c c := by omega
    have f2 : Q * Q * (Y * Y) ≤ Q * Q * (dt u u * dt c c) := Int.mul_le_mul_of_nonneg_left f1 (sqn Q)
    have f3 : dt u u * (Q * Q * dt c c) ≤ (R * R) * ((M + 1) * (M + 1)) := mulm (by omega) hNR (Int.mul_nonneg (sqn Q) (by
      have a0 := sqn (c 0); have a1 := sqn (c 1); have a2 := sqn (c 2); have a3 := sqn (c 3)
      unfold dt; omega)) (by rw [← nn_dt]; omega)
    have e1 : Q * Y * (Q * Y) = Q * Q * (Y * Y) := by grind
    have e2 : Q * Q * (dt u u * dt c c) = dt u u * (Q * Q * dt c c) := by grind
    have e3 : R * (M + 1) * (R * (M + 1)) = (R * R) * ((M + 1) * (M + 1)) := by grind
    omega
  have hME : 0 < 2 * M * E := Int.mul_pos (by omega) hE
  refine NB.cancel hME ((((hv.mul (c := 2147483648 * Q) (by omega)).add (nd.mul (c := E) (by omega))).congr fun j hj => ?_).mono ?_)
  · have := lin (j + 1)
    have e : 2 * M * E * dt (qunF c) (En u (j + 1)) = E * (2 * M * dt (qunF c) (En u (j + 1))) := by grind
    rw [e, this]; grind
  · have g := hC M hM
    have g1 : 2147483648 * P * (Q * Y) ≤ 2147483648 * P * (R * (M + 1)) := Int.mul_le_mul_of_nonneg_left hQY (by omega)
    have e1 : 2147483648 * Q * (P * Y) = 2147483648 * P * (Q * Y) := by grind
    have e2 : 2147483648 * P * (R * (M + 1)) = 2147483648 * P * R * (M + 1) := by grind
    have e3 : E * (2 * M * R) = 2 * E * R * M := by grind
    have e4 : 2 * M * E * C = 2 * E * C * M := by grind
    omega
theorem pos_ang {q u : Nat → Int} {C : Int} (h1 : okQ q = true) (h3 : nn q < 1073741826 * 1073741826) (h : NB 3 (fun j => dt q (En u (j + 1))) C) : okQ (posF q) = true ∧ nn (posF q) = nn q ∧ NB 3 (fun j => dt (posF q) (En u (j + 1))) C := by
  unfold posF
  split
  · have hw : ∀ i, i < 4 → negW q i = -q i := fun i hi => by
      have := nn_comp (x := q) (X := 1073741826) (by omega) (by omega) hi
      unfold negW wrap64; omega
    have w0 := hw 0 (by omega); have w1 := hw 1 (by omega); have w2 := hw 2 (by omega); have w3 := hw 3 (by omega)
    refine ⟨(okQ_iff _).2 fun i hi => (vb_iff _).2 ?_, ?_, h.neg.congr fun j hj => ?_⟩
    · have := nn_comp (x := q) (X := 1073741826) (by omega) (by omega) hi
      rw [hw i hi]; omega
    · unfold nn; rw [w0, w1, w2, w3, Int.neg_mul_neg, Int.neg_mul_neg, Int.neg_mul_neg, Int.neg_mul_neg]
    · unfold dt; rw [w0, w1, w2, w3]; grind
  · exact ⟨h1, rfl, h⟩
/-- The numbers of the solution. -/
theorem sol_ang {S u : Nat → Int} (hN1 : 1073741822 * 1073741822 ≤ nn u) (hN2 : nn u < 1073741826 * 1073741826) (V : StV 1152921504606846976 1073741724 21474836480 1134765199415806193 S u ∧ bnd S) :
    okQ (solF (itrF S 12)) = true ∧ 1073741822 * 1073741822 ≤ nn (solF (itrF S 12)) ∧ nn (solF (itrF S 12)) < 1073741826 * 1073741826 ∧ NB 3 (fun j => dt (solF (itrF S 12)) (En u (j + 1))) 2006823469056 := by
  rw [nn_dt] at hN1 hN2
  have hN : 0 < dt u u := by omega
  obtain ⟨V12, b12⟩ := iter12 hN V
  have hB := bst_lt (itrF S 12) 4 (Nat.le_refl _)
  obtain ⟨c1, c2⟩ := col_fin (by decide) (by decide) (by decide) (by decide) (by decide) hN V12 hB (bst_max (itrF S 12) 4 (Nat.le_refl _))
  unfold solF
  generalize itrF S 12 = T at *
  generalize bstF T 4 = B at *
  have hc : ∀ i, i < 4 → -2147483648 ≤ colF T B i ∧ colF T B i ≤ 2147483648 := fun i hi => by
    rcases (show i = 0 ∨ i = 1 ∨ i = 2 ∨ i = 3 by omega) with rfl | rfl | rfl | rfl
    · exact b12 B (by omega)
    · exact b12 (4 + B) (by omega)
    · exact b12 (8 + B) (by omega)
    · exact b12 (12 + B) (by omega)
  have hk : okQ (colF T B) = true := (okQ_iff _).2 fun i hi => (vb_iff _).2 (by have := hc i hi; omega)
  have hz : zQ (colF T B) = false := by
    cases h : zQ (colF T B) with
    | false => rfl
    | true =>
      unfold zQ at h
      rw [List.all_eq_true] at h
      have z := fun i (hi : i < 4) => beq_iff_eq.1 (h i (List.mem_range.2 hi))
      unfold dt at c1
      rw [z 0 (by omega), z 1 (by omega), z 2 (by omega), z 3 (by omega)] at c1
      omega
  obtain ⟨u1, u2, u3, u4⟩ := unit_ang (R := 1073741826) (C := 2006823469056) hk hz hN (by decide) (by omega) (by decide) (by decide) c2 (fun M hM => by omega)
  obtain ⟨p1, p2, p3⟩ := pos_ang u1 u3 u4
  exact ⟨p1, by omega, by omega, p3⟩
end Go.Proofs.Ytkmelddejdikgaa.La
namespace Go.Proofs.Ytkmelddejdikgaa.La
open Go.RowKit PM Dt
theorem sm3 (f : Nat → Int) : sm 3 f = f 0 + f 1 + f 2 := by simp [sm]
theorem nb3 (v : Nat → Int) {a : Int} (ha : 0 ≤ a) (h : d3e v v ≤ a * a) : NB 3 v a := ⟨ha, by rw [sm3]; exact h⟩
theorem nb3' {v : Nat → Int} {a : Int} (h : NB 3 v a) : d3e v v ≤ a * a := by have := h.2; rw [sm3] at this; exact this
theorem gv_nn (u a : Nat → Int) : d3e (gv u a) (gv u a) = dt u u * dt u u * d3e a a := qent_orth' u a
theorem gv_dot (u a b : Nat → Int) : d3e (gv u a) (gv u b) = dt u u * dt u u * d3e a b := by
  simp only [d3e, gv0, gv1, gv2, dt]; grind
theorem gv_nb {u a : Nat → Int} {A : Int} (hN : 0 ≤ dt u u) (hA : 0 ≤ A) (h : d3e a a ≤ A * A) : NB 3 (gv u a) (dt u u * A) := by
  refine nb3 _ (Int.mul_nonneg hN hA) ?_
  rw [gv_nn]
  have := Int.mul_le_mul_of_nonneg_left h (sqn (dt u u))
  have e : dt u u * A * (dt u u * A) = dt u u * dt u u * (A * A) := by grind
  omega
structure Seen (u a b : Nat → Int) : Prop where
  kb : okV b = true
  db : dirB b = true
  e : ∃ e : Nat → Int, (∀ j, j < 3 → 1152921504606846976 * b j = gv u a j + e j) ∧ NB 3 e 2745763108414298253
  b1 : 1073741816 * 1073741816 ≤ d3e b b
  b2 : d3e b b ≤ 1073741832 * 1073741832
structure Star (a : Nat → Int) : Prop where
  ka : okV a = true
  da : dirB a = true
  a1 : 1073741823 * 1073741823 ≤ d3e a a
  a2 : d3e a a ≤ 1073741825 * 1073741825
theorem star_of {a : Nat → Int} (ka : okV a = true) (h : normV a = 1073741824 ∨ normV a = 1073741823) : Star a := by
  obtain ⟨hE, N, hN, h1, h2, _⟩ := norm_val ka
  refine ⟨ka, ?_, ?_, ?_⟩
  · unfold dirB; rw [hE]; rcases h with h | h <;> rw [h] <;> decide
  · have : (1073741823 : Int) ≤ N := by omega
    have := mulm (by omega) this (by omega) this
    unfold d3e; omega
  · have : (N : Int) + 1 ≤ 1073741825 := by omega
    have := mulm (by omega) this (by omega) this
    unfold d3e; omega
theorem seen_of {u a : Nat → Int} (vu : validQ u = true) (lo : 1073741822 * 1073741822 ≤ nn u) (hi : nn u < 1073741826 * 1073741826) (ka : okV a = true) (hn : normV a = 1073741824 ∨ normV a = 1073741823) :
    qbackE u a = 0 ∧ Seen u a (qbackF u a) := by
  have st := star_of ka hn
  have hM := mat_ok hi
  obtain ⟨nE, n, hn0, n1, n2, n3⟩ := norm_val ka
  obtain ⟨D, hD, kx, xE, m, hm, m0, m1, m2, g1, g2⟩ := rot_some (tr (qent u)) (tr (qmatX u)) a (backX (qmatX u) a) (mat_err' u) (fun i hi => back_ap _ _ hi) (n := n) (by omega) n1 n2 lo hi (qent_orth' u a) (by omega)
  have eB : qbackF u a = backX (qmatX u) a ∧ qbackE u a = 0 := by
    unfold qbackF qbackE vbackF vbackE resF resE
    rw [vu, hM, ka, kx]; exact ⟨rfl, rfl⟩
  rw [eB.1, eB.2]
  generalize backX (qmatX u) a = b at *
  have hDj : ∀ j, j < 3 → -1585267069773938688 ≤ D j ∧ D j ≤ 1585267069773938688 := fun j hj => by have := hD j hj; omega
  have hDN : NB 3 D 2745763108414298253 := NB.of hDj (by omega) (by omega)
  rw [nn_dt] at lo hi
  have hg := gv_nb (u := u) (a := a) (A := 1073741825) (by omega) (by omega) st.a2
  have e0 : ∀ j, j < 3 → 1152921504606846976 * b j = gv u a j + D j := fun j hj => (hD j hj).1
  refine ⟨rfl, kx, ?_, ⟨D, e0, hDN⟩, ?_, ?_⟩
  · unfold dirB; rw [xE, hm]
    have h1 : (1073741760 : Int) ≤ m := by omega
    have h2 : m ≤ 1073741888 := by omega
    rw [decide_eq_true h1, decide_eq_true h2]; rfl
  · apply Int.not_lt.1; intro hc
    have hb : NB 3 b 1073741816 := nb3 _ (by omega) (by omega)
    have h1 := ((hb.mul (c := 1152921504606846976) (by omega)).add hDN.neg).congr (w := gv u a) fun j hj => by have := e0 j hj; omega
    have h2 := nb3' h1
    rw [gv_nn] at h2
    have h3 : 1073741822 * 1073741822 * (1073741822 * 1073741822) ≤ dt u u * dt u u := mulm (by omega) lo (by omega) lo
    have h4 := mulm (by omega) h3 (by omega) st.a1
    omega
  · have h1 := ((hg.add hDN).congr (w := fun j => 1152921504606846976 * b j) fun j hj => (e0 j hj).symm).mono (b := 1152921504606846976 * 1073741832) (by omega)
    exact nb3' (NB.cancel (by omega) h1)
/-- Among the stars there are two that are apart. -/
theorem sprK_le (S : Nat → Sgt) (i : Nat) (acc : Int) {c : Int} : ∀ k, c ≤ sprK S i acc k → c ≤ acc ∨ ∃ t, t < k ∧ t ≠ i ∧ c ≤ normV (vcrossF (S i).a (S t).a)
  | 0, h => .inl h
  | k + 1, h => by
    unfold sprK at h
    split at h
    · rcases sprK_le S i acc k h with h | ⟨t, h1, h2, h3⟩
      · exact .inl h
      · exact .inr ⟨t, by omega, h2, h3⟩
    · rename_i hne
      unfold mx at h
      split at h
      · exact .inr ⟨k, by omega, hne, h⟩
      · rcases sprK_le S i acc k h with h | ⟨t, h1, h2, h3⟩
        · exact .inl h
        · exact .inr ⟨t, by omega, h2, h3⟩
theorem sprI_le (S : Nat → Sgt) (n : Nat) {c : Int} (hc : 0 < c) : ∀ i, c ≤ sprI S n i → ∃ s t, s < i ∧ t < n ∧ t ≠ s ∧ c ≤ normV (vcrossF (S s).a (S t).a)
  | 0, h => by unfold sprI at h; omega
  | i + 1, h => by
    unfold sprI at h
    rcases sprK_le S i _ n h with h | ⟨t, h1, h2, h3⟩
    · obtain ⟨s, t, a, b, d, e⟩ := sprI_le S n hc i h
      exact ⟨s, t, by omega, b, d, e⟩
    · exact ⟨i, t, by omega, h1, h2, h3⟩
/-- The exact vector product. -/
def crE (f g : Nat → Int) (i : Nat) : Int := f ((i + 1) % 3) * g ((i + 2) % 3) - f ((i + 2) % 3) * g ((i + 1) % 3)
theorem crE_sq (f g : Nat → Int) : d3e (crE f g) (crE f g) = d3e f f * d3e g g - d3e f g * d3e f g := by
  simp only [d3e, crE, Nat.reduceAdd, Nat.reduceMod]; grind
theorem cr_er {a b : Nat → Int} (ha : dirB a = true) (hb : dirB b = true) : okV (vcrossF a b) = true ∧ ∀ i, i < 3 → ∃ e, 1073741824 * vcrossF a b i = crE a b i + e ∧ -536870912 ≤ e ∧ e ≤ 536870912 := by
  have hs : sgOk ⟨b, a, 1⟩ = true := by unfold sgOk; rw [ha, hb]; rfl
  have kv : okV (vcrossF a b) = true := (okV_iff _).2 fun i hi => (vb_iff _).2 (by have := cross_dir hs hi; show -_ ≤ vcrossF a b i ∧ _; simp only at this; omega)
  exact ⟨kv, fun i hi => crs_er hs hi⟩
theorem cross_dot {a b : Nat → Int} (ha : Star a) (hb : Star b) (h : 536870912 ≤ normV (vcrossF a b)) : -998459314658532848 ≤ d3e a b ∧ d3e a b ≤ 998459314658532848 := by
  obtain ⟨kv, hc⟩ := cr_er ha.da hb.da
  obtain ⟨_, N, hN, h1, _, _⟩ := norm_val kv
  have h2 : (536870912 : Int) ≤ N := by omega
  have h3 := mulm (by omega) h2 (by omega) h2
  have key : 576460751229681664 * 576460751229681664 ≤ d3e (crE a b) (crE a b) := by
    apply Int.not_lt.1; intro hlt
    have q1 : NB 3 (crE a b) 576460751229681664 := nb3 _ (by omega) (by omega)
    obtain ⟨e, he⟩ : ∃ e : Nat → Int, ∀ i, i < 3 → 1073741824 * vcrossF a b i = crE a b i + e i ∧ -536870912 ≤ e i ∧ e i ≤ 536870912 := by
      have key : ∀ i, ∃ x, i < 3 → 1073741824 * vcrossF a b i = crE a b i + x ∧ -536870912 ≤ x ∧ x ≤ 536870912 := fun i => by
        by_cases hi : i < 3
        · obtain ⟨x, hx⟩ := hc i hi; exact ⟨x, fun _ => hx⟩
        · exact ⟨0, fun h => absurd h hi⟩
      exact Classical.skolem.1 key
    have q2 : NB 3 e 929887698 := NB.of (fun i hi => (he i hi).2) (by omega) (by omega)
    have q3 := nb3' ((q1.add q2).congr (w := fun i => 1073741824 * vcrossF a b i) fun i hi => ((he i hi).1).symm)
    have q4 : d3e (fun i => 1073741824 * vcrossF a b i) (fun i => 1073741824 * vcrossF a b i) = 1152921504606846976 * (vcrossF a b 0 * vcrossF a b 0 + vcrossF a b 1 * vcrossF a b 1 + vcrossF a b 2 * vcrossF a b 2) := by unfold d3e; grind
    omega
  rw [crE_sq] at key
  have a0 : 0 ≤ d3e a a := by have := ha.a1; omega
  have b0 : 0 ≤ d3e b b := by have := hb.a1; omega
  have k2 := mulm a0 ha.a2 b0 hb.a2
  have k3 : d3e a b * d3e a b ≤ 998459314658532848 * 998459314658532848 := by omega
  constructor
  · have := le_of_sq (x := -d3e a b) (y := 998459314658532848) (by omega) (by rw [Int.neg_mul_neg]; exact k3)
    omega
  · exact le_of_sq (by omega) k3
/-- What the stars are apart, as they are seen. -/
theorem seen_dot {u a a' b b' : Nat → Int} (lo : 1073741822 * 1073741822 ≤ dt u u) (hi : dt u u < 1073741826 * 1073741826) (sa : Star a) (sa' : Star a') (h : Seen u a b) (h' : Seen u a' b') (hp : -998459314658532848 ≤ d3e a a' ∧ d3e a a' ≤ 998459314658532848) : -998459368456895649 ≤ d3e b b' ∧ d3e b b' ≤ 998459368456895649 := by
  obtain ⟨e, e1, e2⟩ := h.e
  obtain ⟨e', f1, f2⟩ := h'.e
  have g := gv_nb (u := u) (a := a) (A := 1073741825) (by omega) (by omega) sa.a2
  have g' := gv_nb (u := u) (a := a') (A := 1073741825) (by omega) (by omega) sa'.a2
  have d1 := dot_le g f2
  have d2 := dot_le e2 g'
  have d3 := dot_le e2 f2
  rw [sm3] at d1 d2 d3
  have key : 1152921504606846976 * 1152921504606846976 * d3e b b' = dt u u * dt u u * d3e a a' + (gv u a 0 * e' 0 + gv u a 1 * e' 1 + gv u a 2 * e' 2) + (e 0 * gv u a' 0 + e 1 * gv u a' 1 + e 2 * gv u a' 2) + (e 0 * e' 0 + e 1 * e' 1 + e 2 * e' 2) := by
    rw [← gv_dot]
    have x0 := e1 0 (by omega); have x1 := e1 1 (by omega); have x2 := e1 2 (by omega)
    have y0 := f1 0 (by omega); have y1 := f1 1 (by omega); have y2 := f1 2 (by omega)
    have z : 1152921504606846976 * 1152921504606846976 * d3e b b' = (1152921504606846976 * b 0) * (1152921504606846976 * b' 0) + (1152921504606846976 * b 1) * (1152921504606846976 * b' 1) + (1152921504606846976 * b 2) * (1152921504606846976 * b' 2) := by unfold d3e; grind
    rw [z, x0, x1, x2, y0, y1, y2]; unfold d3e; grind
  have hNN : dt u u * dt u u ≤ 1073741826 * 1073741826 * (1073741826 * 1073741826) := mulm (by omega) (by omega) (by omega) (by omega)
  have hN0 : 0 ≤ dt u u * dt u u := sqn _
  generalize dt u u * dt u u = M at *
  have k1 : M * d3e a a' ≤ M * 998459314658532848 := Int.mul_le_mul_of_nonneg_left hp.2 hN0
  have k2 : M * -998459314658532848 ≤ M * d3e a a' := Int.mul_le_mul_of_nonneg_left hp.1 hN0
  generalize dt u u = N at *
  omega
/-- The sights of stars that are seen exactly. -/
def sgS (a b : Nat → Nat → Int) : Nat → Sgt := fun s => ⟨a s, b s, 1⟩
theorem exact_st {u : Nat → Int} {a b : Nat → Nat → Int} {n : Nat} (hn : 2 ≤ n) (h4 : n ≤ 4) (lo : 1073741822 * 1073741822 ≤ nn u) (hi : nn u < 1073741826 * 1073741826) (ha : ∀ s, s < n → Star (a s)) (hb : ∀ s, s < n → Seen u (a s) (b s))
    (hs : 536870912 ≤ sprI (sgS a b) n n) : StV 1152921504606846976 1073741724 21474836480 1134765199415806193 (hlfF (matF (sgS a b) n)) u ∧ bnd (hlfF (matF (sgS a b) n)) := by
  rw [nn_dt] at lo hi
  obtain ⟨i, k, hi', hk', hne, hc⟩ := sprI_le _ _ (by omega) n hs
  have hd := cross_dot (ha i hi') (ha k hk') hc
  refine init_st hn h4 (fun s hs => ?_) (fun s hs => rfl) lo hi (fun s hs => ?_) (fun s hs => ?_) (fun s hs => ⟨(hb s hs).b1, (hb s hs).b2⟩) hi' hk' (Ne.symm hne) (seen_dot lo hi (ha i hi') (ha k hk') (hb i hi') (hb k hk') hd)
  · show sgOk ⟨a s, b s, 1⟩ = true
    unfold sgOk; rw [(ha s hs).da, (hb s hs).db]; rfl
  · obtain ⟨e, e1, e2⟩ := (hb s hs).e
    exact ⟨e, e1, nb3' (e2.mono (by omega))⟩
  · have := (ha s hs).a2; show d3e (a s) (a s) ≤ _; omega
end Go.Proofs.Ytkmelddejdikgaa.La
namespace Go.Proofs.Ytkmelddejdikgaa.La
open Go.RowKit PM Dt
theorem comp4 {p : Nat → Int} (h : nn p < 1073741826 * 1073741826) {i : Nat} (hi : i < 4) : -1073741826 ≤ p i ∧ p i ≤ 1073741826 := nn_comp (x := p) (X := 1073741826) (by omega) (by omega) hi
theorem wneg {x : Int} (h : -1073741826 ≤ x ∧ x ≤ 1073741826) : wrap64 (-x) = -x := by unfold wrap64; omega
theorem conj_val {p : Nat → Int} (h : nn p < 1073741826 * 1073741826) : ∀ i, i < 4 → conjF p i = cj p i := fun i hi => by
  have c1 := wneg (comp4 h (i := 1) (by omega))
  have c2 := wneg (comp4 h (i := 2) (by omega))
  have c3 := wneg (comp4 h (i := 3) (by omega))
  have a0 : conjF p 0 = p 0 := rfl
  have a1 : conjF p 1 = wrap64 (-p 1) := rfl
  have a2 : conjF p 2 = wrap64 (-p 2) := rfl
  have a3 : conjF p 3 = wrap64 (-p 3) := rfl
  have b0 : cj p 0 = p 0 := rfl
  have b1 : cj p 1 = -p 1 := rfl
  have b2 : cj p 2 = -p 2 := rfl
  have b3 : cj p 3 = -p 3 := rfl
  rcases (show i = 0 ∨ i = 1 ∨ i = 2 ∨ i = 3 by omega) with rfl | rfl | rfl | rfl
  · rw [a0, b0]
  · rw [a1, b1, c1]
  · rw [a2, b2, c2]
  · rw [a3, b3, c3]
theorem nn_ext {p q : Nat → Int} (h : ∀ i, i < 4 → p i = q i) : nn p = nn q := by
  unfold nn; rw [h 0 (by omega), h 1 (by omega), h 2 (by omega), h 3 (by omega)]
theorem pe_ext {p q u : Nat → Int} (h : ∀ i, i < 4 → p i = q i) (i : Nat) (hi : i < 4) : pe p u i = pe q u i := by
  rcases (show i = 0 ∨ i = 1 ∨ i = 2 ∨ i = 3 by omega) with rfl | rfl | rfl | rfl <;> simp only [pe, h 0 (by omega), h 1 (by omega), h 2 (by omega), h 3 (by omega)]
theorem okQ_nn {p : Nat → Int} (h : nn p < 1073741826 * 1073741826) : okQ p = true := (okQ_iff _).2 fun i hi => (vb_iff _).2 (by have := nn_comp (x := p) (X := 1073741826) (by omega) (by omega) hi; omega)
theorem valid_nn' {p : Nat → Int} (h1 : 1073741822 * 1073741822 ≤ nn p) (h2 : nn p < 1073741826 * 1073741826) : validQ p = true := valid_of (okQ_nn h2) (by omega) (by omega)
theorem small_norm {v : Nat → Int} {c : Int} (hc : 0 ≤ c) (hc2 : c ≤ 1000000) (h : NB 3 v c) : normE v = 0 ∧ normV v ≤ c ∧ 0 ≤ normV v := by
  have kv : okV v = true := (okV_iff _).2 fun i hi => (vb_iff _).2 (by have := h.at hi; omega)
  obtain ⟨hE, N, hN, h1, _, _⟩ := norm_val kv
  have h2 := nb3' h
  have : (N : Int) ≤ c := le_of_sq hc (by unfold d3e at h2; omega)
  exact ⟨hE, by omega, by omega⟩
/-- The rotation that is left is small. -/
theorem fit_ang {p u : Nat → Int} (p1 : 1073741822 * 1073741822 ≤ nn p) (p2 : nn p < 1073741826 * 1073741826) (u1 : 1073741822 * 1073741822 ≤ nn u) (u2 : nn u < 1073741826 * 1073741826)
    (h : NB 3 (fun j => pe (cj p) u (j + 1)) 2006823469056) : betE p u = 0 ∧ NB 3 (fun j => betF p u (j + 1)) 1871 := by
  have vp := valid_nn' p1 p2
  have vu := valid_nn' u1 u2
  have e1 : betE p u = 0 := by unfold betE; rw [vp, vu]; rfl
  have hc := conj_val p2
  have kc : okQ (conjF p) = true := okQ_nn (by rw [nn_ext hc, nn_cj]; exact p2)
  have q : NB 3 (fun j => qprodF (conjF p) u (j + 1)) 1871 := by
    obtain ⟨e, he⟩ : ∃ e : Nat → Int, ∀ i, i < 4 → 1073741824 * qprodF (conjF p) u i = pe (conjF p) u i + e i ∧ -536870912 ≤ e i ∧ e i ≤ 536870912 := by
      have key : ∀ i, ∃ x, i < 4 → 1073741824 * qprodF (conjF p) u i = pe (conjF p) u i + x ∧ -536870912 ≤ x ∧ x ≤ 536870912 := fun i => by
        by_cases hi : i < 4
        · obtain ⟨x, hx⟩ := prod_err kc (okQ_nn u2) hi; exact ⟨x, fun _ => hx⟩
        · exact ⟨0, fun h => absurd h hi⟩
      exact Classical.skolem.1 key
    have q2 : NB 3 (fun j => e (j + 1)) 929887698 := NB.of (fun i hi => (he (i + 1) (by omega)).2) (by omega) (by omega)
    refine NB.cancel (c := 1073741824) (by omega) (((h.add q2).congr fun j hj => ?_).mono (by omega))
    rw [(he (j + 1) (by omega)).1, pe_ext hc (j + 1) (by omega)]
  refine ⟨e1, ?_⟩
  unfold betF betX
  rw [vp, vu]
  simp only [Bool.and_self, if_true]
  split
  · exact q.neg
  · exact q
theorem ang_pe {p u : Nat → Int} {c : Int} (h : NB 3 (fun j => dt p (En u (j + 1))) c) : NB 3 (fun j => pe (cj p) u (j + 1)) c := h.neg.congr fun j hj => by
  rcases (show j = 0 ∨ j = 1 ∨ j = 2 by omega) with rfl | rfl | rfl <;> simp only [dt, En, pe, cj, Nat.reduceAdd] <;> grind
/-- The vector, turned, without rounding. -/
def qv (x b : Nat → Int) : Nat → Int := Go.Proofs.Ytkmelddejdikgaa.ap (qent x) b
def hat (b : Nat → Int) : Nat → Int
  | 0 => 0
  | 1 => b 0
  | 2 => b 1
  | _ => b 2
theorem qv0 (u a : Nat → Int) : qv u a 0 = (u 0 * u 0 + u 1 * u 1 - u 2 * u 2 - u 3 * u 3) * a 0 + 2 * (u 1 * u 2 - u 0 * u 3) * a 1 + 2 * (u 1 * u 3 + u 0 * u 2) * a 2 := by
  show qent u 0 * a 0 + qent u 1 * a 1 + qent u 2 * a 2 = _
  unfold qent; grind
theorem qv1 (u a : Nat → Int) : qv u a 1 = 2 * (u 1 * u 2 + u 0 * u 3) * a 0 + (u 0 * u 0 - u 1 * u 1 + u 2 * u 2 - u 3 * u 3) * a 1 + 2 * (u 2 * u 3 - u 0 * u 1) * a 2 := by
  show qent u 3 * a 0 + qent u 4 * a 1 + qent u 5 * a 2 = _
  unfold qent; grind
theorem qv2 (u a : Nat → Int) : qv u a 2 = 2 * (u 1 * u 3 - u 0 * u 2) * a 0 + 2 * (u 2 * u 3 + u 0 * u 1) * a 1 + (u 0 * u 0 - u 1 * u 1 - u 2 * u 2 + u 3 * u 3) * a 2 := by
  show qent u 6 * a 0 + qent u 7 * a 1 + qent u 8 * a 2 = _
  unfold qent; grind
theorem qv_nn (u a : Nat → Int) : d3e (qv u a) (qv u a) = dt u u * dt u u * d3e a a := qent_orth u a
theorem nn_hat (b : Nat → Int) : nn (hat b) = d3e b b := by simp only [nn, hat, d3e]; grind
/-- What two quaternions do together. -/
def bq (u f b : Nat → Int) (i : Nat) : Int := pe (pe u (hat b)) (cj f) (i + 1) + pe (pe f (hat b)) (cj u) (i + 1)
theorem bq_nb {u f b : Nat → Int} {U F B : Int} (hU : 0 ≤ U) (hF : 0 ≤ F) (hB : 0 ≤ B) (u1 : nn u ≤ U * U) (f1 : nn f ≤ F * F) (b1 : d3e b b ≤ B * B) : NB 3 (bq u f b) (2 * (U * F * B)) := by
  have key : ∀ x : Nat → Int, nn x ≤ (U * F * B) * (U * F * B) → NB 3 (fun i => x (i + 1)) (U * F * B) := fun x hx => by
    refine nb3 _ (Int.mul_nonneg (Int.mul_nonneg hU hF) hB) ?_
    have := sqn (x 0)
    unfold nn at hx
    unfold d3e
    simp only [Nat.reduceAdd]
    omega
  have e : (U * F * B) * (U * F * B) = (U * U) * ((F * F) * (B * B)) := by grind
  have n1 := nn_nonneg u; have n2 := nn_nonneg f; have n3 := nn_nonneg (hat b)
  rw [nn_hat] at n3
  have m : nn u * (nn f * d3e b b) ≤ (U * F * B) * (U * F * B) := by
    rw [e]; exact mulm n1 u1 (Int.mul_nonneg n2 n3) (mulm n2 f1 n3 b1)
  have g1 : nn u * d3e b b * nn f = nn u * (nn f * d3e b b) := by grind
  have g2 : nn f * d3e b b * nn u = nn u * (nn f * d3e b b) := by grind
  have k1 := key (pe (pe u (hat b)) (cj f)) (by rw [pe_nn, pe_nn, nn_cj, nn_hat]; omega)
  have k2 := key (pe (pe f (hat b)) (cj u)) (by rw [pe_nn, pe_nn, nn_cj, nn_hat]; omega)
  exact (k1.add k2).mono (by omega)
/-- A quaternion that is nearly a multiple of another one: how it turns. -/
theorem qv_near {p u f : Nat → Int} {N z : Int} (h : ∀ i, i < 4 → N * p i = z * u i + f i) (b : Nat → Int) : ∀ j, j < 3 → N * N * qv p b j = z * z * qv u b j + z * bq u f b j + qv f b j := by
  have x0 : f 0 = N * p 0 - z * u 0 := by have := h 0 (by omega); omega
  have x1 : f 1 = N * p 1 - z * u 1 := by have := h 1 (by omega); omega
  have x2 : f 2 = N * p 2 - z * u 2 := by have := h 2 (by omega); omega
  have x3 : f 3 = N * p 3 - z * u 3 := by have := h 3 (by omega); omega
  intro j hj
  rcases (show j = 0 ∨ j = 1 ∨ j = 2 by omega) with rfl | rfl | rfl
  · rw [qv0, qv0, qv0]; simp only [bq, pe, hat, cj, Nat.reduceAdd, x0, x1, x2, x3]; grind
  · rw [qv1, qv1, qv1]; simp only [bq, pe, hat, cj, Nat.reduceAdd, x0, x1, x2, x3]; grind
  · rw [qv2, qv2, qv2]; simp only [bq, pe, hat, cj, Nat.reduceAdd, x0, x1, x2, x3]; grind
theorem qv_gv (u a : Nat → Int) {j : Nat} (hj : j < 3) : qv u (gv u a) j = dt u u * dt u u * a j := by
  rcases (show j = 0 ∨ j = 1 ∨ j = 2 by omega) with rfl | rfl | rfl
  · rw [qv0, gv0, gv1, gv2]; simp only [dt]; grind
  · rw [qv1, gv0, gv1, gv2]; simp only [dt]; grind
  · rw [qv2, gv0, gv1, gv2]; simp only [dt]; grind
theorem qv_add {u a b c : Nat → Int} {P : Int} (h : ∀ j, j < 3 → P * a j = b j + c j) {j : Nat} (hj : j < 3) : P * qv u a j = qv u b j + qv u c j := by
  have x0 : c 0 = P * a 0 - b 0 := by have := h 0 (by omega); omega
  have x1 : c 1 = P * a 1 - b 1 := by have := h 1 (by omega); omega
  have x2 : c 2 = P * a 2 - b 2 := by have := h 2 (by omega); omega
  rcases (show j = 0 ∨ j = 1 ∨ j = 2 by omega) with rfl | rfl | rfl
  · rw [qv0, qv0, qv0, x0, x1, x2]; grind
  · rw [qv1, qv1, qv1, x0, x1, x2]; grind
  · rw [qv2, qv2, qv2, x0, x1, x2]; grind
theorem qv_nb {u a : Nat → Int} {A : Int} (hN : 0 ≤ dt u u) (hA : 0 ≤ A) (h : d3e a a ≤ A * A) : NB 3 (qv u a) (dt u u * A) := by
  refine nb3 _ (Int.mul_nonneg hN hA) ?_
  rw [qv_nn]
  have := Int.mul_le_mul_of_nonneg_left h (sqn (dt u u))
  have e : dt u u * A * (dt u u * A) = dt u u * dt u u * (A * A) := by grind
  omega
/-- How far a star is from where it would be. -/
theorem res_ang {p u a b : Nat → Int} (p1 : 1073741822 * 1073741822 ≤ nn p) (p2 : nn p < 1073741826 * 1073741826) (u1 : 1073741822 * 1073741822 ≤ nn u) (u2 : nn u < 1073741826 * 1073741826)
    (h : NB 3 (fun j => dt p (En u (j + 1))) 2006823469056) (sa : Star a) (hb : Seen u a b) : sgRes p ⟨a, b, 1⟩ ≤ 4096 := by
  have vp := valid_nn' p1 p2
  have hM := mat_ok p2
  obtain ⟨nE, m, hm0, m1, m2, m3⟩ := norm_val hb.kb
  have hb2 := hb.b2
  have hm : (m : Int) ≤ 1073741832 := le_of_sq (by omega) (by unfold d3e at hb2; omega)
  obtain ⟨D, hD, kx, xE, _⟩ := rot_some (qent p) (qmatX p) b (applyX (qmatX p) b) (mat_err p) (fun i hi => apply_ap _ _ hi) (n := m) (by omega) m1 m2 p1 p2 (qent_orth p b) (by omega)
  have eR : qrotF p b = applyX (qmatX p) b := by
    unfold qrotF vapplyF resF
    rw [vp, hM, hb.kb, kx]; rfl
  show normV (vsubF a (qrotF p b)) ≤ 4096
  rw [eR]
  generalize applyX (qmatX p) b = x at *
  have hDj : ∀ j, j < 3 → -1585267077290131456 ≤ D j ∧ D j ≤ 1585267077290131456 := fun j hj => by have := hD j hj; omega
  have hDN : NB 3 D 2745763121432726006 := NB.of hDj (by omega) (by omega)
  obtain ⟨e, e1, e2⟩ := hb.e
  rw [nn_dt] at p1 p2 u1 u2
  -- the coordinates
  obtain ⟨z, hz⟩ : ∃ z, dt p (En u 0) = z := ⟨_, rfl⟩
  obtain ⟨f, hf⟩ : ∃ f : Nat → Int, f = fun i => dt u u * p i - z * u i := ⟨_, rfl⟩
  have hfp : ∀ i, i < 4 → dt u u * p i = z * u i + f i := fun i _ => by rw [hf]; show _ = _ + (dt u u * p i - z * u i); omega
  have cp := compl u p p
  have s1 := sqn (dt p (En u 1)); have s2 := sqn (dt p (En u 2)); have s3 := sqn (dt p (En u 3))
  have h3 := h.2
  rw [sm3] at h3
  simp only [Nat.reduceAdd] at h3
  rw [hz] at cp
  have hpp : 0 ≤ dt p p := by omega
  have nN : dt u u * dt p p ≤ 1073741826 * 1073741826 * (1073741826 * 1073741826) := mulm (by omega) (by omega) hpp (by omega)
  have nL : 1073741822 * 1073741822 * (1073741822 * 1073741822) ≤ dt u u * dt p p := mulm (by omega) (by omega) (by omega) (by omega)
  have hzz : z * z ≤ 1329228005688436214856965404397404176 := by omega
  have hzl : 1329227985877368245854926979102408720 ≤ z * z := by omega
  have fn : nn f ≤ (1073741826 * 2006823469056) * (1073741826 * 2006823469056) := by
    have e3 : nn f = dt u u * (dt u u * dt p p - z * z) := by
      rw [hf, ← hz]; simp only [nn, dt, En]; grind
    rw [e3]
    have q1 : dt u u * dt p p - z * z ≤ 2006823469056 * 2006823469056 := by omega
    have := mulm (show 0 ≤ dt u u by omega) (show dt u u ≤ 1073741826 * 1073741826 by omega) (show 0 ≤ dt u u * dt p p - z * z by omega) q1
    omega
  have nr := qv_near hfp b
  have un : nn u ≤ 1073741826 * 1073741826 := by rw [nn_dt]; omega
  have B1 := bq_nb (U := 1073741826) (F := 1073741826 * 2006823469056) (B := 1073741832) (by omega) (by omega) (by omega) un fn hb.b2
  have B2 := qv_nb (u := f) (a := b) (A := 1073741832) (dt_pos f) (by omega) hb.b2
  have B3 := qv_nb (u := u) (a := e) (A := 2745763108414298253) (by omega) (by omega) (nb3' e2)
  have fnd : dt f f ≤ (1073741826 * 2006823469056) * (1073741826 * 2006823469056) := fn
  -- z times what they do together
  have zA : NB 3 (fun j => z * bq u f b j) (1152921508901814276 * (2 * (1073741826 * (1073741826 * 2006823469056) * 1073741832))) := by
    have hz1 : -1152921508901814276 ≤ z ∧ z ≤ 1152921508901814276 := by
      constructor
      · have := le_of_sq (x := -z) (y := 1152921508901814276) (by omega) (by rw [Int.neg_mul_neg]; omega)
        omega
      · exact le_of_sq (by omega) (by omega)
    refine nb3 _ (by omega) ?_
    have e3 : d3e (fun j => z * bq u f b j) (fun j => z * bq u f b j) = z * z * d3e (bq u f b) (bq u f b) := by unfold d3e; grind
    rw [e3]
    have := mulm (sqn z) (show z * z ≤ 1152921508901814276 * 1152921508901814276 by omega) (by have a0 := sqn (bq u f b 0); have a1 := sqn (bq u f b 1); have a2 := sqn (bq u f b 2); unfold d3e; omega) (nb3' B1)
    omega
  -- all together
  have key : ∀ j, j < 3 → 1329227995784915872903807060280344576 * (dt u u * dt u u) * (a j - x j) = (1329227995784915872903807060280344576 - z * z) * (dt u u * dt u u) * a j + -(z * z * qv u e j) + -(1152921504606846976 * (z * bq u f b j + qv f b j)) + -(1152921504606846976 * (dt u u * dt u u) * D j) := fun j hj => by
    have k1 := (hD j hj).1
    have k2 := nr j hj
    have k3 := qv_add (u := u) e1 hj
    rw [qv_gv u a hj] at k3
    have k1' : 1152921504606846976 * x j = qv p b j + D j := k1
    generalize dt u u * dt u u = M at *
    have y1 : 1152921504606846976 * (M * qv p b j) = z * z * (M * a j + qv u e j) + 1152921504606846976 * (z * bq u f b j + qv f b j) := by rw [k2, ← k3]; grind
    have y2 : M * (1152921504606846976 * x j) = M * qv p b j + M * D j := by rw [k1']; grind
    have y3 : 1329227995784915872903807060280344576 * M * (a j - x j) = 1329227995784915872903807060280344576 * (M * a j) - 1152921504606846976 * (M * (1152921504606846976 * x j)) := by grind
    rw [y3, y2]
    have y4 : 1152921504606846976 * (M * qv p b j + M * D j) = 1152921504606846976 * (M * qv p b j) + 1152921504606846976 * (M * D j) := by grind
    rw [y4, y1]; grind
  have hMM : 1073741822 * 1073741822 * (1073741822 * 1073741822) ≤ dt u u * dt u u := mulm (by omega) u1 (by omega) u1
  have hN2 : dt u u ≤ 1073741826 * 1073741826 := by omega
  have t1 : NB 3 (fun j => (1329227995784915872903807060280344576 - z * z) * (dt u u * dt u u) * a j) (9907547627048880081177935856 * (dt u u * dt u u) * 1073741825) := by
    refine nb3 _ (Int.mul_nonneg (Int.mul_nonneg (by omega) (sqn _)) (by omega)) ?_
    have e3 : d3e (fun j => (1329227995784915872903807060280344576 - z * z) * (dt u u * dt u u) * a j) (fun j => (1329227995784915872903807060280344576 - z * z) * (dt u u * dt u u) * a j) = ((1329227995784915872903807060280344576 - z * z) * (1329227995784915872903807060280344576 - z * z)) * ((dt u u * dt u u) * (dt u u * dt u u) * d3e a a) := by unfold d3e; grind
    rw [e3]
    have q1 : (1329227995784915872903807060280344576 - z * z) * (1329227995784915872903807060280344576 - z * z) ≤ 9907547627048880081177935856 * 9907547627048880081177935856 := sq_le (by omega) (by omega)
    have q2 := Int.mul_le_mul_of_nonneg_left sa.a2 (sqn (dt u u * dt u u))
    have q3 := mulm (sqn _) q1 (Int.mul_nonneg (sqn (dt u u * dt u u)) (by have := sa.a1; omega)) q2
    have e4 : 9907547627048880081177935856 * (dt u u * dt u u) * 1073741825 * (9907547627048880081177935856 * (dt u u * dt u u) * 1073741825) = 9907547627048880081177935856 * 9907547627048880081177935856 * ((dt u u * dt u u) * (dt u u * dt u u) * (1073741825 * 1073741825)) := by grind
    rw [e4]; exact q3
  have t2 := B3.mul (c := z * z) (sqn z)
  have t3 := (zA.add B2).mul (c := 1152921504606846976) (by omega)
  have t4 := hDN.mul (c := 1152921504606846976 * (dt u u * dt u u)) (Int.mul_nonneg (by omega) (sqn _))
  have tt := (((t1.add t2.neg).add t3.neg).add t4.neg).congr (w := fun j => 1329227995784915872903807060280344576 * (dt u u * dt u u) * (a j - x j)) fun j hj => (key j hj).symm
  have b2 : z * z * (dt u u * 2745763108414298253) ≤ 1329228005688436214856965404397404176 * (1073741826 * 1073741826 * 2745763108414298253) := mulm (sqn z) hzz (Int.mul_nonneg (by omega) (by omega)) (by omega)
  have b3 : dt f f * 1073741832 ≤ (1073741826 * 2006823469056) * (1073741826 * 2006823469056) * 1073741832 := by omega
  have res : NB 3 (fun j => a j - x j) 4000 := by
    have hc : 0 < 1329227995784915872903807060280344576 * (dt u u * dt u u) := by omega
    refine NB.cancel hc (tt.mono ?_)
    have e5 : 9907547627048880081177935856 * (dt u u * dt u u) * 1073741825 = 9907547627048880081177935856 * 1073741825 * (dt u u * dt u u) := by grind
    rw [e5]
    generalize dt u u * dt u u = M at *
    generalize z * z * (dt u u * 2745763108414298253) = z1 at *
    generalize dt f f * 1073741832 = z2 at *
    omega
  have sv : vsubF a x = subF a x := by
    unfold vsubF resF
    have ks : okV (subF a x) = true := (okV_iff _).2 fun i hi => (vb_iff _).2 (by have := res.at hi; show _ ≤ a i - x i ∧ a i - x i ≤ _; omega)
    rw [sa.ka, kx, ks]; rfl
  rw [sv]
  have := (small_norm (v := subF a x) (c := 4000) (by omega) (by omega) res).2.1
  omega
end Go.Proofs.Ytkmelddejdikgaa.La
