/-
  The rotation from an attitude to the one that was turned is the turn, within a bound: arithmetic. No program in sight. The attitude that is found lies along the quaternion. Stars that are seen exactly: the first matrix, in the basis of the attitude, and exchanged.
-/
import Derived.Test.YtkmelddejdikgaaBet
import Derived.Test.YtkmelddejdikgaaKeep
import Derived.Test.YtkmelddejdikgaaLaF
import Derived.Test.YtkmelddejdikgaaLaJ
import Derived.Test.YtkmelddejdikgaaSkK
set_option linter.unusedSimpArgs false
set_option linter.unusedVariables false
namespace Go.Proofs.Ytkmelddejdikgaa
open Go.RowKit PM Dt
theorem nn_comp {x : Nat → Int} {X : Int} (hX : 0 ≤ X) (h : nn x ≤ X * X) {i : Nat} (hi : i < 4) : -X ≤ x i ∧ x i ≤ X := by
  have n0 := sq_nn (x 0)
  have n1 := sq_nn (x 1)
  have n2 := sq_nn (x 2)
  have n3 := sq_nn (x 3)
  refine abs_le_of_sq hX ?_
  unfold nn at h
  have : i = 0 ∨ i = 1 ∨ i = 2 ∨ i = 3 := by omega
  rcases this with rfl | rfl | rfl | rfl <;> omega
/-- The conjugate, plainly. -/
def cj (f : Nat → Int) : Nat → Int
  | 0 => f 0
  | 1 => -f 1
  | 2 => -f 2
  | _ => -f 3
theorem nn_cj (f : Nat → Int) : nn (cj f) = nn f := by unfold nn cj; grind
end Go.Proofs.Ytkmelddejdikgaa
namespace Go.Proofs.Ytkmelddejdikgaa.La
open Go.RowKit PM Dt
theorem nn_dt (f : Nat → Int) : nn f = dt f f := rfl
theorem dt_lin3 {q c d u : Nat → Int} {a b : Int} (h : ∀ i, i < 4 → a * q i = b * c i + d i) : a * dt q u = b * dt c u + dt d u := by
  have h0 := h 0 (by omega); have h1 := h 1 (by omega); have h2 := h 2 (by omega); have h3 := h 3 (by omega)
  have x0 : d 0 = a * q 0 - b * c 0 := by omega
  have x1 : d 1 = a * q 1 - b * c 1 := by omega
  have x2 : d 2 = a * q 2 - b * c 2 := by omega
  have x3 : d 3 = a * q 3 - b * c 3 := by omega
  unfold dt; rw [x0, x1, x2, x3]; grind
/-- The unit of a vector along a quaternion. -/
theorem unit_ang {c u : Nat → Int} {R P E C : Int} (hk : okQ c = true) (hz : zQ c = false) (hN : 0 < dt u u) (hR : 0 ≤ R) (hNR : dt u u ≤ R * R) (hE : 0 < E) (hP : 0 ≤ P)
    (hv : NB 3 (fun j => E * dt c (En u (j + 1))) (P * (dt c (En u 0)).natAbs)) (hC : ∀ M : Int, 35184372088832 ≤ M → 2147483648 * P * R * (M + 1) + 2 * E * R * M ≤ 2 * E * C * M) :
    okQ (qunF c) = true ∧ 1073741822 * 1073741822 ≤ nn (qunF c) ∧ nn (qunF c) < 1073741826 * 1073741826 ∧ NB 3 (fun j => dt (qunF c) (En u (j + 1))) C := by
  obtain ⟨_, h1, ⟨M, Q, hM, hQ, hq1, hq2, hd⟩, h2, h3⟩ := qun_core hk hz
  refine ⟨h1, h2, h3, ?_⟩
  obtain ⟨d, hd⟩ : ∃ d : Nat → Int, ∀ i, i < 4 → 2 * (M * qunF c i) = 2 * (1073741824 * (Q * c i)) + d i ∧ -M ≤ d i ∧ d i ≤ M := by
    have := fun i => Classical.propDecidable (i < 4)
    have key : ∀ i, ∃ x, i < 4 → 2 * (M * qunF c i) = 2 * (1073741824 * (Q * c i)) + x ∧ -M ≤ x ∧ x ≤ M := fun i => by
      by_cases hi : i < 4
      · obtain ⟨x, hx⟩ := hd i hi; exact ⟨x, fun _ => hx⟩
      · exact ⟨0, fun h => absurd h hi⟩
    exact Classical.skolem.1 key
  have lin : ∀ a, 2 * M * dt (qunF c) (En u a) = 2147483648 * Q * dt c (En u a) + dt d (En u a) := fun a => dt_lin3 fun i hi => by
    have := (hd i hi).1
    have e1 : 2 * M * qunF c i = 2 * (M * qunF c i) := by grind
    have e2 : 2147483648 * Q * c i = 2 * (1073741824 * (Q * c i)) := by grind
    omega
  have hRM : 0 ≤ 2 * M * R := Int.mul_nonneg (by omega) hR
  have nd : NB 3 (fun j => dt d (En u (j + 1))) (2 * M * R) := by
    refine ⟨hRM, ?_⟩
    have f := compl u d d
    have g : dt d d ≤ 4 * (M * M) := by
      have q : ∀ i, i < 4 → d i * d i ≤ M * M := fun i hi => sq_le (hd i hi).2.1 (hd i hi).2.2
      have q0 := q 0 (by omega); have q1 := q 1 (by omega); have q2 := q 2 (by omega); have q3 := q 3 (by omega)
      unfold dt; omega
    have h0 := sqn (dt d (En u 0))
    have h4 : dt u u * dt d d ≤ (R * R) * (4 * (M * M)) := by
      refine mulm (by omega) hNR ?_ g
      have a0 := sqn (d 0); have a1 := sqn (d 1); have a2 := sqn (d 2); have a3 := sqn (d 3)
      unfold dt; omega
    have e : 2 * M * R * (2 * M * R) = (R * R) * (4 * (M * M)) := by grind
    rw [e]
    simp only [sm, Nat.reduceAdd]
    omega
  -- the scalar's bound
  obtain ⟨Y, hY⟩ : ∃ Y : Int, Y = (dt c (En u 0)).natAbs := ⟨_, rfl⟩
  rw [← hY] at hv
  have hY2 : Y * Y = dt c (En u 0) * dt c (En u 0) := by rw [hY]; exact abs_sq _
  have hY0 : 0 ≤ Y := by omega
  have hQY : Q * Y ≤ R * (M + 1) := by
    apply le_of_sq (Int.mul_nonneg hR (by omega))
    have f := compl u c c
    have s1 := sqn (dt c (En u 1)); have s2 := sqn (dt c (En u 2)); have s3 := sqn (dt c (En u 3))
    have f1 : Y * Y ≤ dt u u * dt c c := by omega
    have f2 : Q * Q * (Y * Y) ≤ Q * Q * (dt u u * dt c c) := Int.mul_le_mul_of_nonneg_left f1 (sqn Q)
    have f3 : dt u u * (Q * Q * dt c c) ≤ (R * R) * ((M + 1) * (M + 1)) := mulm (by omega) hNR (Int.mul_nonneg (sqn Q) (by
      have a0 := sqn (c 0); have a1 := sqn (c 1); have a2 := sqn (c 2); have a3 := sqn (c 3)
      unfold dt; omega)) (by rw [← nn_dt]; omega)
    have e1 : Q * Y * (Q * Y) = Q * Q * (Y * Y) := by grind
    have e2 : Q * Q * (dt u u * dt c c) = dt u u * (Q * Q * dt c c) := by grind
    have e3 : R * (M + 1) * (R * (M + 1)) = (R * R) * ((M + 1) * (M + 1)) := by grind
    omega
  have hME : 0 < 2 * M * E := Int.mul_pos (by omega) hE
  refine NB.cancel hME ((((hv.mul (c := 2147483648 * Q) (by omega)).add (nd.mul (c := E) (by omega))).congr fun j hj => ?_).mono ?_)
  · have := lin (j + 1)
    have e : 2 * M * E * dt (qunF c) (En u (j + 1)) = E * (2 * M * dt (qunF c) (En u (j + 1))) := by grind
    rw [e, this]; grind
  · have g := hC M hM
    have g1 : 2147483648 * P * (Q * Y) ≤ 2147483648 * P * (R * (M + 1)) := Int.mul_le_mul_of_nonneg_left hQY (by omega)
    have e1 : 2147483648 * Q * (P * Y) = 2147483648 * P * (Q * Y) := by grind
    have e2 : 2147483648 * P * (R * (M + 1)) = 2147483648 * P * R * (M + 1) := by grind
    have e3 : E * (2 * M * R) = 2 * E * R * M := by grind
    have e4 : 2 * M * E * C = 2 * E * C * M := by grind
    omega
theorem pos_ang {q u : Nat → Int} {C : Int} (h1 : okQ q = true) (h3 : nn q < 1073741826 * 1073741826) (h : NB 3 (fun j => dt q (En u (j + 1))) C) : okQ (posF q) = true ∧ nn (posF q) = nn q ∧ NB 3 (fun j => dt (posF q) (En u (j + 1))) C := by
  unfold posF
  split
  · have hw : ∀ i, i < 4 → negW q i = -q i := fun i hi => by
      have := nn_comp (x := q) (X := 1073741826) (by omega) (by omega) hi
      unfold negW wrap64; omega
    have w0 := hw 0 (by omega); have w1 := hw 1 (by omega); have w2 := hw 2 (by omega); have w3 := hw 3 (by omega)
    refine ⟨(okQ_iff _).2 fun i hi => (vb_iff _).2 ?_, ?_, h.neg.congr fun j hj => ?_⟩
    · have := nn_comp (x := q) (X := 1073741826) (by omega) (by omega) hi
      rw [hw i hi]; omega
    · unfold nn; rw [w0, w1, w2, w3, Int.neg_mul_neg, Int.neg_mul_neg, Int.neg_mul_neg, Int.neg_mul_neg]
    · unfold dt; rw [w0, w1, w2, w3]; grind
  · exact ⟨h1, rfl, h⟩
/-- The numbers of the solution. -/
theorem sol_ang {S u : Nat → Int} (hN1 : 1073741822 * 1073741822 ≤ nn u) (hN2 : nn u < 1073741826 * 1073741826) (V : StV 1152921504606846976 1073741724 21474836480 1134765199415806193 S u ∧ bnd S) :
    okQ (solF (itrF S 12)) = true ∧ 1073741822 * 1073741822 ≤ nn (solF (itrF S 12)) ∧ nn (solF (itrF S 12)) < 1073741826 * 1073741826 ∧ NB 3 (fun j => dt (solF (itrF S 12)) (En u (j + 1))) 2006823469056 := by
  rw [nn_dt] at hN1 hN2
  have hN : 0 < dt u u := by omega
  obtain ⟨V12, b12⟩ := iter12 hN V
  have hB := bst_lt (itrF S 12) 4 (Nat.le_refl _)
  obtain ⟨c1, c2⟩ := col_fin (by decide) (by decide) (by decide) (by decide) (by decide) hN V12 hB (bst_max (itrF S 12) 4 (Nat.le_refl _))
  unfold solF
  generalize itrF S 12 = T at *
  generalize bstF T 4 = B at *
  have hc : ∀ i, i < 4 → -2147483648 ≤ colF T B i ∧ colF T B i ≤ 2147483648 := fun i hi => by
    rcases (show i = 0 ∨ i = 1 ∨ i = 2 ∨ i = 3 by omega) with rfl | rfl | rfl | rfl
    · exact b12 B (by omega)
    · exact b12 (4 + B) (by omega)
    · exact b12 (8 + B) (by omega)
    · exact b12 (12 + B) (by omega)
  have hk : okQ (colF T B) = true := (okQ_iff _).2 fun i hi => (vb_iff _).2 (by have := hc i hi; omega)
  have hz : zQ (colF T B) = false := by
    cases h : zQ (colF T B) with
    | false => rfl
    | true =>
      unfold zQ at h
      rw [List.all_eq_true] at h
      have z := fun i (hi : i < 4) => beq_iff_eq.1 (h i (List.mem_range.2 hi))
      unfold dt at c1
      rw [z 0 (by omega), z 1 (by omega), z 2 (by omega), z 3 (by omega)] at c1
      omega
  obtain ⟨u1, u2, u3, u4⟩ := unit_ang (R := 1073741826) (C := 2006823469056) hk hz hN (by decide) (by omega) (by decide) (by decide) c2 (fun M hM => by omega)
  obtain ⟨p1, p2, p3⟩ := pos_ang u1 u3 u4
  exact ⟨p1, by omega, by omega, p3⟩
end Go.Proofs.Ytkmelddejdikgaa.La
namespace Go.Proofs.Ytkmelddejdikgaa.La
open Go.RowKit PM Dt
theorem sm3 (f : Nat → Int) : sm 3 f = f 0 + f 1 + f 2 := by simp [sm]
theorem nb3 (v : Nat → Int) {a : Int} (ha : 0 ≤ a) (h : d3e v v ≤ a * a) : NB 3 v a := ⟨ha, by rw [sm3]; exact h⟩
theorem nb3' {v : Nat → Int} {a : Int} (h : NB 3 v a) : d3e v v ≤ a * a := by have := h.2; rw [sm3] at this; exact this
theorem gv_nn (u a : Nat → Int) : d3e (gv u a) (gv u a) = dt u u * dt u u * d3e a a := qent_orth' u a
theorem gv_dot (u a b : Nat → Int) : d3e (gv u a) (gv u b) = dt u u * dt u u * d3e a b := by
  simp only [d3e, gv0, gv1, gv2, dt]; grind
theorem gv_nb {u a : Nat → Int} {A : Int} (hN : 0 ≤ dt u u) (hA : 0 ≤ A) (h : d3e a a ≤ A * A) : NB 3 (gv u a) (dt u u * A) := by
  refine nb3 _ (Int.mul_nonneg hN hA) ?_
  rw [gv_nn]
  have := Int.mul_le_mul_of_nonneg_left h (sqn (dt u u))
  have e : dt u u * A * (dt u u * A) = dt u u * dt u u * (A * A) := by grind
  omega
structure Seen (u a b : Nat → Int) : Prop where
  kb : okV b = true
  db : dirB b = true
  e : ∃ e : Nat → Int, (∀ j, j < 3 → 1152921504606846976 * b j = gv u a j + e j) ∧ NB 3 e 2745763108414298253
  b1 : 1073741816 * 1073741816 ≤ d3e b b
  b2 : d3e b b ≤ 1073741832 * 1073741832
structure Star (a : Nat → Int) : Prop where
  ka : okV a = true
  da : dirB a = true
  a1 : 1073741823 * 1073741823 ≤ d3e a a
  a2 : d3e a a ≤ 1073741825 * 1073741825
theorem star_of {a : Nat → Int} (ka : okV a = true) (h : normV a = 1073741824 ∨ normV a = 1073741823) : Star a := by
  obtain ⟨hE, N, hN, h1, h2, _⟩ := norm_val ka
  refine ⟨ka, ?_, ?_, ?_⟩
  · unfold dirB; rw [hE]; rcases h with h | h <;> rw [h] <;> decide
  · have : (1073741823 : Int) ≤ N := by omega
    have := mulm (by omega) this (by omega) this
    unfold d3e; omega
  · have : (N : Int) + 1 ≤ 1073741825 := by omega
    have := mulm (by omega) this (by omega) this
    unfold d3e; omega
theorem seen_of {u a : Nat → Int} (vu : validQ u = true) (lo : 1073741822 * 1073741822 ≤ nn u) (hi : nn u < 1073741826 * 1073741826) (ka : okV a = true) (hn : normV a = 1073741824 ∨ normV a = 1073741823) :
    qbackE u a = 0 ∧ Seen u a (qbackF u a) := by
  have st := star_of ka hn
  have hM := mat_ok hi
  obtain ⟨nE, n, hn0, n1, n2, n3⟩ := norm_val ka
  obtain ⟨D, hD, kx, xE, m, hm, m0, m1, m2, g1, g2⟩ := rot_some (tr (qent u)) (tr (qmatX u)) a (backX (qmatX u) a) (mat_err' u) (fun i hi => back_ap _ _ hi) (n := n) (by omega) n1 n2 lo hi (qent_orth' u a) (by omega)
  have eB : qbackF u a = backX (qmatX u) a ∧ qbackE u a = 0 := by
    unfold qbackF qbackE vbackF vbackE resF resE
    rw [vu, hM, ka, kx]; exact ⟨rfl, rfl⟩
  rw [eB.1, eB.2]
  generalize backX (qmatX u) a = b at *
  have hDj : ∀ j, j < 3 → -1585267069773938688 ≤ D j ∧ D j ≤ 1585267069773938688 := fun j hj => by have := hD j hj; omega
  have hDN : NB 3 D 2745763108414298253 := NB.of hDj (by omega) (by omega)
  rw [nn_dt] at lo hi
  have hg := gv_nb (u := u) (a := a) (A := 1073741825) (by omega) (by omega) st.a2
  have e0 : ∀ j, j < 3 → 1152921504606846976 * b j = gv u a j + D j := fun j hj => (hD j hj).1
  refine ⟨rfl, kx, ?_, ⟨D, e0, hDN⟩, ?_, ?_⟩
  · unfold dirB; rw [xE, hm]
    have h1 : (1073741760 : Int) ≤ m := by omega
    have h2 : m ≤ 1073741888 := by omega
    rw [decide_eq_true h1, decide_eq_true h2]; rfl
  · apply Int.not_lt.1; intro hc
    have hb : NB 3 b 1073741816 := nb3 _ (by omega) (by omega)
    have h1 := ((hb.mul (c := 1152921504606846976) (by omega)).add hDN.neg).congr (w := gv u a) fun j hj => by have := e0 j hj; omega
    have h2 := nb3' h1
    rw [gv_nn] at h2
    have h3 : 1073741822 * 1073741822 * (1073741822 * 1073741822) ≤ dt u u * dt u u := mulm (by omega) lo (by omega) lo
    have h4 := mulm (by omega) h3 (by omega) st.a1
    omega
  · have h1 := ((hg.add hDN).congr (w := fun j => 1152921504606846976 * b j) fun j hj => (e0 j hj).symm).mono (b := 1152921504606846976 * 1073741832) (by omega)
    exact nb3' (NB.cancel (by omega) h1)
/-- Among the stars there are two that are apart. -/
theorem sprK_le (S : Nat → Sgt) (i : Nat) (acc : Int) {c : Int} : ∀ k, c ≤ sprK S i acc k → c ≤ acc ∨ ∃ t, t < k ∧ t ≠ i ∧ c ≤ normV (vcrossF (S i).a (S t).a)
  | 0, h => .inl h
  | k + 1, h => by
    unfold sprK at h
    split at h
    · rcases sprK_le S i acc k h with h | ⟨t, h1, h2, h3⟩
      · exact .inl h
      · exact .inr ⟨t, by omega, h2, h3⟩
    · rename_i hne
      unfold mx at h
      split at h
      · exact .inr ⟨k, by omega, hne, h⟩
      · rcases sprK_le S i acc k h with h | ⟨t, h1, h2, h3⟩
        · exact .inl h
        · exact .inr ⟨t, by omega, h2, h3⟩
theorem sprI_le (S : Nat → Sgt) (n : Nat) {c : Int} (hc : 0 < c) : ∀ i, c ≤ sprI S n i → ∃ s t, s < i ∧ t < n ∧ t ≠ s ∧ c ≤ normV (vcrossF (S s).a (S t).a)
  | 0, h => by unfold sprI at h; omega
  | i + 1, h => by
    unfold sprI at h
    rcases sprK_le S i _ n h with h | ⟨t, h1, h2, h3⟩
    · obtain ⟨s, t, a, b, d, e⟩ := sprI_le S n hc i h
      exact ⟨s, t, by omega, b, d, e⟩
    · exact ⟨i, t, by omega, h1, h2, h3⟩
/-- The exact vector product. -/
def crE (f g : Nat → Int) (i : Nat) : Int := f ((i + 1) % 3) * g ((i + 2) % 3) - f ((i + 2) % 3) * g ((i + 1) % 3)
theorem crE_sq (f g : Nat → Int) : d3e (crE f g) (crE f g) = d3e f f * d3e g g - d3e f g * d3e f g := by
  simp only [d3e, crE, Nat.reduceAdd, Nat.reduceMod]; grind
theorem cr_er {a b : Nat → Int} (ha : dirB a = true) (hb : dirB b = true) : okV (vcrossF a b) = true ∧ ∀ i, i < 3 → ∃ e, 1073741824 * vcrossF a b i = crE a b i + e ∧ -536870912 ≤ e ∧ e ≤ 536870912 := by
  have hs : sgOk ⟨b, a, 1⟩ = true := by unfold sgOk; rw [ha, hb]; rfl
  have kv : okV (vcrossF a b) = true := (okV_iff _).2 fun i hi => (vb_iff _).2 (by have := cross_dir hs hi; show -_ ≤ vcrossF a b i ∧ _; simp only at this; omega)
  exact ⟨kv, fun i hi => crs_er hs hi⟩
theorem cross_dot {a b : Nat → Int} (ha : Star a) (hb : Star b) (h : 536870912 ≤ normV (vcrossF a b)) : -998459314658532848 ≤ d3e a b ∧ d3e a b ≤ 998459314658532848 := by
  obtain ⟨kv, hc⟩ := cr_er ha.da hb.da
  obtain ⟨_, N, hN, h1, _, _⟩ := norm_val kv
  have h2 : (536870912 : Int) ≤ N := by omega
  have h3 := mulm (by omega) h2 (by omega) h2
  have key : 576460751229681664 * 576460751229681664 ≤ d3e (crE a b) (crE a b) := by
    apply Int.not_lt.1; intro hlt
    have q1 : NB 3 (crE a b) 576460751229681664 := nb3 _ (by omega) (by omega)
    obtain ⟨e, he⟩ : ∃ e : Nat → Int, ∀ i, i < 3 → 1073741824 * vcrossF a b i = crE a b i + e i ∧ -536870912 ≤ e i ∧ e i ≤ 536870912 := by
      have key : ∀ i, ∃ x, i < 3 → 1073741824 * vcrossF a b i = crE a b i + x ∧ -536870912 ≤ x ∧ x ≤ 536870912 := fun i => by
        by_cases hi : i < 3
        · obtain ⟨x, hx⟩ := hc i hi; exact ⟨x, fun _ => hx⟩
        · exact ⟨0, fun h => absurd h hi⟩
      exact Classical.skolem.1 key
    have q2 : NB 3 e 929887698 := NB.of (fun i hi => (he i hi).2) (by omega) (by omega)
    have q3 := nb3' ((q1.add q2).congr (w := fun i => 1073741824 * vcrossF a b i) fun i hi => ((he i hi).1).symm)
    have q4 : d3e (fun i => 1073741824 * vcrossF a b i) (fun i => 1073741824 * vcrossF a b i) = 1152921504606846976 * (vcrossF a b 0 * vcrossF a b 0 + vcrossF a b 1 * vcrossF a b 1 + vcrossF a b 2 * vcrossF a b 2) := by unfold d3e; grind
    omega
  rw [crE_sq] at key
  have a0 : 0 ≤ d3e a a := by have := ha.a1; omega
  have b0 : 0 ≤ d3e b b := by have := hb.a1; omega
  have k2 := mulm a0 ha.a2 b0 hb.a2
  have k3 : d3e a b * d3e a b ≤ 998459314658532848 * 998459314658532848 := by omega
  constructor
  · have := le_of_sq (x := -d3e a b) (y := 998459314658532848) (by omega) (by rw [Int.neg_mul_neg]; exact k3)
    omega
  · exact le_of_sq (by omega) k3
/-- The sights of stars that are seen exactly. -/
def sgS (a b : Nat → Nat → Int) : Nat → Sgt := fun s => ⟨a s, b s, 1⟩
theorem gv_cj (u a : Nat → Int) {j : Nat} (hj : j < 3) : gv (cj u) (gv u a) j = dt u u * dt u u * a j := by
  rcases (show j = 0 ∨ j = 1 ∨ j = 2 by omega) with rfl | rfl | rfl
  · rw [gv0, gv0, gv1, gv2]; simp only [cj, dt]; grind
  · rw [gv1, gv0, gv1, gv2]; simp only [cj, dt]; grind
  · rw [gv2, gv0, gv1, gv2]; simp only [cj, dt]; grind
theorem gv_add {u a b c : Nat → Int} {P : Int} (h : ∀ j, j < 3 → P * a j = b j + c j) {j : Nat} (hj : j < 3) : P * gv u a j = gv u b j + gv u c j := by
  have x0 : c 0 = P * a 0 - b 0 := by have := h 0 (by omega); omega
  have x1 : c 1 = P * a 1 - b 1 := by have := h 1 (by omega); omega
  have x2 : c 2 = P * a 2 - b 2 := by have := h 2 (by omega); omega
  rcases (show j = 0 ∨ j = 1 ∨ j = 2 by omega) with rfl | rfl | rfl
  · rw [gv0, gv0, gv0, x0, x1, x2]; grind
  · rw [gv1, gv1, gv1, x0, x1, x2]; grind
  · rw [gv2, gv2, gv2, x0, x1, x2]; grind
theorem dt_cj (u : Nat → Int) : dt (cj u) (cj u) = dt u u := nn_cj u
/-- The error, exchanged. -/
theorem seen_cj {u a b : Nat → Int} (lo : 1073741822 * 1073741822 ≤ dt u u) (hi : dt u u < 1073741826 * 1073741826) (sa : Star a) (h : Seen u a b) : ∃ e : Nat → Int, (∀ j, j < 3 → 1152921504606846976 * a j = gv (cj u) b j + e j) ∧ d3e e e ≤ 14987979559889010688 * 14987979559889010688 := by
  obtain ⟨e, e1, e2⟩ := h.e
  have n1 : 1073741822 * 1073741822 * (1073741822 * 1073741822) ≤ dt u u * dt u u := mulm (by omega) lo (by omega) lo
  have n2 : dt u u * dt u u ≤ 1073741826 * 1073741826 * (1073741826 * 1073741826) := mulm (by omega) (by omega) (by omega) (by omega)
  refine ⟨fun j => 1152921504606846976 * a j - gv (cj u) b j, fun j hj => by show _ = gv (cj u) b j + (1152921504606846976 * a j - gv (cj u) b j); omega, ?_⟩
  have key : ∀ j, j < 3 → 1152921504606846976 * (1152921504606846976 * a j - gv (cj u) b j) = (1152921504606846976 * 1152921504606846976 - dt u u * dt u u) * a j + -gv (cj u) e j := fun j hj => by
    have := gv_add (u := cj u) e1 hj
    rw [gv_cj u a hj] at this
    grind
  have g := gv_nb (u := cj u) (a := e) (A := 2745763108414298253) (by rw [dt_cj]; omega) (by omega) (nb3' e2)
  rw [dt_cj] at g
  have q1 : NB 3 (fun j => (1152921504606846976 * 1152921504606846976 - dt u u * dt u u) * a j) (9903520341953158344117059600 * 1073741825) := by
    refine nb3 _ (by omega) ?_
    have e3 : d3e (fun j => (1152921504606846976 * 1152921504606846976 - dt u u * dt u u) * a j) (fun j => (1152921504606846976 * 1152921504606846976 - dt u u * dt u u) * a j) = (1152921504606846976 * 1152921504606846976 - dt u u * dt u u) * (1152921504606846976 * 1152921504606846976 - dt u u * dt u u) * d3e a a := by unfold d3e; grind
    rw [e3]
    have h1 : (1152921504606846976 * 1152921504606846976 - dt u u * dt u u) * (1152921504606846976 * 1152921504606846976 - dt u u * dt u u) ≤ 9903520341953158344117059600 * 9903520341953158344117059600 := sq_le (by omega) (by omega)
    have h2 := mulm (sqn _) h1 (by have := sa.a1; omega) sa.a2
    omega
  have q2 := ((q1.add g.neg).congr (w := fun j => 1152921504606846976 * (1152921504606846976 * a j - gv (cj u) b j)) fun j hj => (key j hj).symm).mono (b := 1152921504606846976 * 14987979559889010688) (by omega)
  exact nb3' (NB.cancel (by omega) q2)
theorem other_st {u : Nat → Int} {a b : Nat → Nat → Int} {n : Nat} (hn : 2 ≤ n) (h4 : n ≤ 4) (lo : 1073741822 * 1073741822 ≤ nn u) (hi : nn u < 1073741826 * 1073741826) (ha : ∀ s, s < n → Star (a s)) (hb : ∀ s, s < n → Seen u (a s) (b s))
    (hs : 536870912 ≤ sprI (sgS a b) n n) : StV 1152921504606846976 1073741724 21474836480 1134765199415806193 (hlfF (matF (sgS b a) n)) (cj u) ∧ bnd (hlfF (matF (sgS b a) n)) := by
  rw [nn_dt] at lo hi
  obtain ⟨i, k, hi', hk', hne, hc⟩ := sprI_le _ _ (by omega) n hs
  have hd := cross_dot (ha i hi') (ha k hk') hc
  refine init_st hn h4 (fun s hs => ?_) (fun s hs => rfl) (by rw [dt_cj]; exact lo) (by rw [dt_cj]; exact hi) (fun s hs => seen_cj lo hi (ha s hs) (hb s hs)) (fun s hs => ?_) (fun s hs => ?_) hi' hk' (Ne.symm hne) ?_
  · show sgOk ⟨b s, a s, 1⟩ = true
    unfold sgOk; rw [(ha s hs).da, (hb s hs).db]; rfl
  · have := (hb s hs).b2; show d3e (b s) (b s) ≤ _; omega
  · have a1 := (ha s hs).a1; have a2 := (ha s hs).a2
    show _ ≤ d3e (a s) (a s) ∧ d3e (a s) (a s) ≤ _
    omega
  · show -998459368456895649 ≤ d3e (a i) (a k) ∧ d3e (a i) (a k) ≤ 998459368456895649
    omega
end Go.Proofs.Ytkmelddejdikgaa.La
