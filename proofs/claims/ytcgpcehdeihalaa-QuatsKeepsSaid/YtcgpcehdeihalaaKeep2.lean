/-
  Rotations keep norms, and Back undoes Rotate, within the bounds of the document. No program in sight.
-/
import Derived.Test.YtcgpcehdeihalaaKeep
set_option linter.unusedSimpArgs false
set_option linter.unusedVariables false
namespace Go.Proofs.Ytcgpcehdeihalaa
open Go.RowKit PM Dt
theorem apply_ap (g v : Nat → Int) {i : Nat} (hi : i < 3) : ∃ e, 1073741824 * applyX g v i = ap g v i + e ∧ -536870912 ≤ e ∧ e ≤ 536870912 := by
  have : d3 (mrow g i) v = ap g v i := by
    unfold d3 ap mrow
    rw [dotS_cons, dotS_cons, dotS_cons, dotS_nil]
    show g (3 * i + 0) * v 0 + (g (3 * i + 1) * v 1 + (g (3 * i + 2) * v 2 + 0)) = _
    rw [Nat.add_zero]; omega
  unfold applyX
  rw [this]
  exact rnd_err _
theorem back_ap (g v : Nat → Int) {i : Nat} (hi : i < 3) : ∃ e, 1073741824 * backX g v i = ap (tr g) v i + e ∧ -536870912 ≤ e ∧ e ≤ 536870912 := by
  have : d3 (mcol g i) v = ap (tr g) v i := by
    unfold d3 mcol
    rw [dotS_cons, dotS_cons, dotS_cons, dotS_nil]
    have : i = 0 ∨ i = 1 ∨ i = 2 := by omega
    rcases this with rfl | rfl | rfl
    · show g 0 * v 0 + (g 3 * v 1 + (g 6 * v 2 + 0)) = g 0 * v 0 + g 3 * v 1 + g 6 * v 2
      omega
    · show g 1 * v 0 + (g 4 * v 1 + (g 7 * v 2 + 0)) = g 1 * v 0 + g 4 * v 1 + g 7 * v 2
      omega
    · show g 2 * v 0 + (g 5 * v 1 + (g 8 * v 2 + 0)) = g 2 * v 0 + g 5 * v 1 + g 8 * v 2
      omega
  unfold backX
  rw [this]
  exact rnd_err _
theorem mat_err (u : Nat → Int) : ∀ j, j < 9 → ∃ d, 1073741824 * qmatX u j = qent u j + d ∧ -536870912 ≤ d ∧ d ≤ 536870912 := fun j hj => rnd_err _
theorem mat_err' (u : Nat → Int) : ∀ j, j < 9 → ∃ d, 1073741824 * tr (qmatX u) j = tr (qent u) j + d ∧ -536870912 ≤ d ∧ d ≤ 536870912 := fun j hj => rnd_err _
/-- The components of a quaternion whose norm is near to one. -/
theorem comp_le {u : Nat → Int} (h : nn u < 1073741826 * 1073741826) {i : Nat} (hi : i < 4) : -1073741825 ≤ u i ∧ u i ≤ 1073741825 := by
  have n0 := sq_nn (u 0)
  have n1 := sq_nn (u 1)
  have n2 := sq_nn (u 2)
  have n3 := sq_nn (u 3)
  have : u i * u i < 1073741826 * 1073741826 := by
    unfold nn at h
    have : i = 0 ∨ i = 1 ∨ i = 2 ∨ i = 3 := by omega
    rcases this with rfl | rfl | rfl | rfl <;> omega
  have := sqv_lt (a := u i) (b := 1073741826) (by decide) this
  omega
theorem mat_ok {u : Nat → Int} (h : nn u < 1073741826 * 1073741826) : okM (qmatX u) = true := by
  have b : ∀ i, i < 4 → ∀ j, j < 4 → -1152921506754330625 ≤ u i * u j ∧ u i * u j ≤ 1152921506754330625 := fun i hi j hj =>
    bmul (P := 1073741825) (R := 1073741825) (comp_le h hi).1 (comp_le h hi).2 (comp_le h hj).1 (comp_le h hj).2
  have e : ∀ j, j < 9 → -4611686027017322500 ≤ qent u j ∧ qent u j ≤ 4611686027017322500 := fun j hj => by
    have := b 0 (by omega) 0 (by omega)
    have := b 1 (by omega) 1 (by omega)
    have := b 2 (by omega) 2 (by omega)
    have := b 3 (by omega) 3 (by omega)
    have := b 0 (by omega) 1 (by omega)
    have := b 0 (by omega) 2 (by omega)
    have := b 0 (by omega) 3 (by omega)
    have := b 1 (by omega) 2 (by omega)
    have := b 1 (by omega) 3 (by omega)
    have := b 2 (by omega) 3 (by omega)
    have hj' : j = 0 ∨ j = 1 ∨ j = 2 ∨ j = 3 ∨ j = 4 ∨ j = 5 ∨ j = 6 ∨ j = 7 ∨ j = 8 := by omega
    rcases hj' with rfl | rfl | rfl | rfl | rfl | rfl | rfl | rfl | rfl <;> simp only [qent] <;> omega
  refine (okM_iff _).2 fun r hr => (okV_iff _).2 fun k hk => (vb_iff _).2 ?_
  have := e (3 * r + k) (by omega)
  show -1099511627776 ≤ rnd (qent u (3 * r + k)) ∧ rnd (qent u (3 * r + k)) ≤ 1099511627776
  generalize qent u (3 * r + k) = x at *
  unfold rnd; omega
/-- A component of a rotated vector is at most its norm. -/
theorem comp_bd {F v : Nat → Int} {Q n x : Int} {D : Int} (hn : 0 ≤ n) (hv2 : vv v < (n + 1) * (n + 1)) (hQ1 : 1073741822 * 1073741822 ≤ Q) (hQ2 : Q < 1073741826 * 1073741826) (hF : vv F = Q * Q * vv v) {i : Nat} (hi : i < 3)
    (hx : 1152921504606846976 * x = F i + D) (l : -(939524096 * (n + 1) + 576460752303423488) ≤ D) (u : D ≤ 939524096 * (n + 1) + 576460752303423488) (hN : n ≤ 1099000000000) : -1099511627776 ≤ x ∧ x ≤ 1099511627776 := by
  have n0 := sq_nn (F 0)
  have n1 := sq_nn (F 1)
  have n2 := sq_nn (F 2)
  have h1 : F i * F i ≤ vv F := by
    unfold vv
    have : i = 0 ∨ i = 1 ∨ i = 2 := by omega
    rcases this with rfl | rfl | rfl <;> omega
  have h2 : F i * F i ≤ (Q * (n + 1)) * (Q * (n + 1)) := by
    have := Int.mul_le_mul_of_nonneg_left (show vv v ≤ (n + 1) * (n + 1) by omega) (sq_nn Q)
    have e : Q * (n + 1) * (Q * (n + 1)) = Q * Q * ((n + 1) * (n + 1)) := by grind
    omega
  have h3 := abs_le_of_sq (Int.mul_nonneg (by omega) (by omega)) h2
  have k1 : Q * (n + 1) ≤ 1152921508901814275 * (n + 1) := Int.mul_le_mul_of_nonneg_right (by omega) (by omega)
  generalize Q * (n + 1) = A at *
  omega
/-- Back of Rotate. -/
theorem undo_core {u v w y D D' : Nat → Int} {n m : Int} (hn : 0 ≤ n) (hm : 0 ≤ m) (hmn : m ≤ n + (n / 67108864 + 2)) (hv2 : vv v < (n + 1) * (n + 1)) (hQ1 : 1073741822 * 1073741822 ≤ nn u) (hQ2 : nn u < 1073741826 * 1073741826)
    (hw : ∀ i, i < 3 → 1152921504606846976 * w i = ap (qent u) v i + D i ∧ -(939524096 * (n + 1) + 576460752303423488) ≤ D i ∧ D i ≤ 939524096 * (n + 1) + 576460752303423488)
    (hy : ∀ i, i < 3 → 1152921504606846976 * y i = ap (tr (qent u)) w i + D' i ∧ -(939524096 * (m + 1) + 576460752303423488) ≤ D' i ∧ D' i ≤ 939524096 * (m + 1) + 576460752303423488) {i : Nat} (hi : i < 3) :
    y i ≤ v i + (n / 33554432 + 3) ∧ v i ≤ y i + (n / 33554432 + 3) := by
  obtain ⟨w0, l0, u0⟩ := hw 0 (by omega)
  obtain ⟨w1, l1, u1⟩ := hw 1 (by omega)
  obtain ⟨w2, l2, u2⟩ := hw 2 (by omega)
  obtain ⟨yi, ly, uy⟩ := hy i hi
  have hD := dm_sq hn ⟨l0, u0⟩ ⟨l1, u1⟩ ⟨l2, u2⟩
  have hDn : 0 ≤ Dm n := by unfold Dm; omega
  have hb := qent_back u v i hi
  have ho := qent_orth' u D
  -- ap is linear
  have lin : 1152921504606846976 * ap (tr (qent u)) w i = ap (tr (qent u)) (ap (qent u) v) i + ap (tr (qent u)) D i := by
    have k : 1152921504606846976 * ap (tr (qent u)) w i = tr (qent u) (3 * i) * (1152921504606846976 * w 0) + tr (qent u) (3 * i + 1) * (1152921504606846976 * w 1) + tr (qent u) (3 * i + 2) * (1152921504606846976 * w 2) := by unfold ap; grind
    rw [k, w0, w1, w2]
    show _ = (tr (qent u) (3 * i) * ap (qent u) v 0 + tr (qent u) (3 * i + 1) * ap (qent u) v 1 + tr (qent u) (3 * i + 2) * ap (qent u) v 2) + (tr (qent u) (3 * i) * D 0 + tr (qent u) (3 * i + 1) * D 1 + tr (qent u) (3 * i + 2) * D 2)
    grind
  rw [hb] at lin
  have n0 := sq_nn (ap (tr (qent u)) D 0)
  have n1 := sq_nn (ap (tr (qent u)) D 1)
  have n2 := sq_nn (ap (tr (qent u)) D 2)
  have ht : ap (tr (qent u)) D i * ap (tr (qent u)) D i ≤ (nn u * Dm n) * (nn u * Dm n) := by
    have h1 : ap (tr (qent u)) D i * ap (tr (qent u)) D i ≤ vv (ap (tr (qent u)) D) := by
      unfold vv
      have : i = 0 ∨ i = 1 ∨ i = 2 := by omega
      rcases this with rfl | rfl | rfl <;> omega
    have h2 := Int.mul_le_mul_of_nonneg_left (show vv D ≤ Dm n * Dm n from hD) (sq_nn (nn u))
    have e : nn u * Dm n * (nn u * Dm n) = nn u * nn u * (Dm n * Dm n) := by grind
    omega
  have hT := abs_le_of_sq (Int.mul_nonneg (nn_nonneg u) hDn) ht
  have k1 : nn u * Dm n ≤ 1152921508901814275 * Dm n := Int.mul_le_mul_of_nonneg_right (by omega) hDn
  have hvi : -n ≤ v i ∧ v i ≤ n := by
    have n0 := sq_nn (v 0)
    have n1 := sq_nn (v 1)
    have n2 := sq_nn (v 2)
    have : v i * v i ≤ vv v := by
      unfold vv
      have : i = 0 ∨ i = 1 ∨ i = 2 := by omega
      rcases this with rfl | rfl | rfl <;> omega
    have := sqv_lt (a := v i) (b := n + 1) (by omega) (by omega)
    omega
  have hq1 : 1152921500311879684 * 1152921500311879684 ≤ nn u * nn u := Int.mul_le_mul (by omega) (by omega) (by decide) (nn_nonneg u)
  have hq2 : nn u * nn u ≤ 1152921508901814275 * 1152921508901814275 := Int.mul_le_mul (by omega) (by omega) (nn_nonneg u) (by decide)
  have hqv := bmul (P := 9903520351174656016907698176) (R := n) (a := nn u * nn u - 1329227995784915872903807060280344576) (b := v i) (by omega) (by omega) hvi.1 hvi.2
  rw [Int.sub_mul] at hqv
  unfold Dm at *
  generalize nn u * nn u * v i = A at *
  generalize ap (tr (qent u)) D i = T at *
  generalize ap (tr (qent u)) w i = Z at *
  generalize nn u * (1644167168 * (n + 1) + 1008806316530991104) = B at *
  clear hD ho hb n0 n1 n2 ht hq1 hq2 hQ1 hQ2 hv2 w0 w1 w2 hw hy
  omega
theorem rot_some (E M v : Nat → Int) (g : Nat → Int) (hM : ∀ j, j < 9 → ∃ d, 1073741824 * M j = E j + d ∧ -536870912 ≤ d ∧ d ≤ 536870912) {Q n : Int} (hx : ∀ i, i < 3 → ∃ e, 1073741824 * g i = ap M v i + e ∧ -536870912 ≤ e ∧ e ≤ 536870912)
    (hn : 0 ≤ n) (hn1 : n * n ≤ vv v) (hv2 : vv v < (n + 1) * (n + 1)) (hQ1 : 1073741822 * 1073741822 ≤ Q) (hQ2 : Q < 1073741826 * 1073741826) (hF : vv (ap E v) = Q * Q * vv v) (hN : n ≤ 1099000000000) :
    ∃ D : Nat → Int, (∀ i, i < 3 → 1152921504606846976 * g i = ap E v i + D i ∧ -(939524096 * (n + 1) + 576460752303423488) ≤ D i ∧ D i ≤ 939524096 * (n + 1) + 576460752303423488) ∧ okV g = true ∧ normE g = 0 ∧
      ∃ m : Int, normV g = m ∧ 0 ≤ m ∧ m * m ≤ vv g ∧ vv g < (m + 1) * (m + 1) ∧ m ≤ n + (n / 67108864 + 2) ∧ n ≤ m + (n / 67108864 + 2) := by
  have hD : ∀ i, i < 3 → 1152921504606846976 * g i = ap E v i + (1152921504606846976 * g i - ap E v i) ∧ -(939524096 * (n + 1) + 576460752303423488) ≤ (1152921504606846976 * g i - ap E v i) ∧ (1152921504606846976 * g i - ap E v i) ≤ 939524096 * (n + 1) + 576460752303423488 := fun i hi => by
    obtain ⟨D, h, l, u⟩ := row_err hM hi (hx i hi) hn hv2
    exact ⟨by omega, by omega, by omega⟩
  refine ⟨fun i => 1152921504606846976 * g i - ap E v i, hD, ?_⟩
  have hk : okV g = true := (okV_iff _).2 fun i hi => (vb_iff _).2 (comp_bd hn hv2 hQ1 hQ2 hF hi (hD i hi).1 (hD i hi).2.1 (hD i hi).2.2 hN)
  obtain ⟨hE, m, hm, m1, m2, m3⟩ := norm_val hk
  obtain ⟨k1, k2⟩ := keep_norm hn (show (0 : Int) ≤ m by omega) hn1 hv2 m1 m2 hQ1 hQ2 hF hD
  obtain ⟨f1, f2⟩ := keep_fin hn (show (0 : Int) ≤ m by omega) hQ1 hQ2 k1 k2
  exact ⟨hk, hE, m, hm, by omega, m1, m2, f1, f2⟩
theorem keeps_core {f v : Nat → Int} (hk : okQ f = true) (hz : zQ f = false) (hv : smallB v 549755813888 = true) :
    qrotE (qunF f) v = 0 ∧ qbackE (qunF f) v = 0 ∧ qbackE (qunF f) (qrotF (qunF f) v) = 0 ∧ normE v = 0 ∧ normE (qrotF (qunF f) v) = 0 ∧ normE (qbackF (qunF f) v) = 0 ∧
    (0 ≤ normV v ∧ normV v ≤ 2199023255552 ∧ 0 ≤ normV (qrotF (qunF f) v) ∧ normV (qrotF (qunF f) v) ≤ 2199023255552 ∧ 0 ≤ normV (qbackF (qunF f) v) ∧ normV (qbackF (qunF f) v) ≤ 2199023255552 ∧ normV (qrotF (qunF f) v) ≤ normV v + (normV v / 67108864 + 2) ∧ normV v ≤ normV (qrotF (qunF f) v) + (normV v / 67108864 + 2) ∧ normV (qbackF (qunF f) v) ≤ normV v + (normV v / 67108864 + 2) ∧ normV v ≤ normV (qbackF (qunF f) v) + (normV v / 67108864 + 2)) ∧
    ∀ i, i < 3 → (-1099511627776 ≤ qbackF (qunF f) (qrotF (qunF f) v) i ∧ qbackF (qunF f) (qrotF (qunF f) v) i ≤ 1099511627776 ∧ -1099511627776 ≤ v i ∧ v i ≤ 1099511627776 ∧ qbackF (qunF f) (qrotF (qunF f) v) i ≤ v i + (normV v / 33554432 + 3) ∧ v i ≤ qbackF (qunF f) (qrotF (qunF f) v) i + (normV v / 33554432 + 3)) := by
  obtain ⟨_, ku, _, lo, hi⟩ := qun_core hk hz
  have vu := (qun_valid hk hz).1
  generalize qunF f = u at *
  have hM := mat_ok hi
  have bv : ∀ i, i < 3 → -549755813888 ≤ v i ∧ v i ≤ 549755813888 := fun i hi => (sb_iff _ _).1 ((smallB_iff v _).1 hv i hi)
  have kv : okV v = true := (okV_iff v).2 fun i hi => (vb_iff _).2 (by have := bv i hi; omega)
  obtain ⟨nE, n, hn, n1, n2, n3⟩ := norm_val kv
  have n1 : (n : Int) * n ≤ vv v := n1
  have n2 : vv v < ((n : Int) + 1) * ((n : Int) + 1) := n2
  have hN : (n : Int) ≤ 960000000000 := by
    have q : ∀ i, i < 3 → v i * v i ≤ 302231454903657293676544 := fun i hi => (bmul (P := 549755813888) (R := 549755813888) (bv i hi).1 (bv i hi).2 (bv i hi).1 (bv i hi).2).2
    have q0 := q 0 (by omega)
    have q1 := q 1 (by omega)
    have q2 := q 2 (by omega)
    have : (n : Int) < 960000000001 := sq_lt_iff (by omega) (by decide) (by unfold vv at n1; omega)
    omega
  have hn0 : (0 : Int) ≤ n := by omega
  have eR : okV (applyX (qmatX u) v) = true → qrotF u v = applyX (qmatX u) v ∧ qrotE u v = 0 := fun h => by
    unfold qrotF qrotE vapplyF vapplyE resF resE
    rw [vu, hM, kv, h]; exact ⟨rfl, rfl⟩
  have eB : ∀ z, okV z = true → okV (backX (qmatX u) z) = true → qbackF u z = backX (qmatX u) z ∧ qbackE u z = 0 := fun z hz h => by
    unfold qbackF qbackE vbackF vbackE resF resE
    rw [vu, hM, hz, h]; exact ⟨rfl, rfl⟩
  obtain ⟨D, hD, kw, wE, m, hm, m0, m1, m2, f1, f2⟩ := rot_some (qent u) (qmatX u) v (applyX (qmatX u) v) (mat_err u) (fun i hi => apply_ap _ _ hi) hn0 n1 n2 lo hi (qent_orth u v) (by omega)
  obtain ⟨Dx, hDx, kx, xE, l, hl, l0, l1, l2, g1, g2⟩ := rot_some (tr (qent u)) (tr (qmatX u)) v (backX (qmatX u) v) (mat_err' u) (fun i hi => back_ap _ _ hi) hn0 n1 n2 lo hi (qent_orth' u v) (by omega)
  obtain ⟨e1, e2⟩ := eR kw
  obtain ⟨e3, e4⟩ := eB v kv kx
  rw [e1, e2, e3, e4]
  obtain ⟨Dy, hDy, ky, yE, l', hl', _⟩ := rot_some (tr (qent u)) (tr (qmatX u)) (applyX (qmatX u) v) (backX (qmatX u) (applyX (qmatX u) v)) (mat_err' u) (fun i hi => back_ap _ _ hi) m0 m1 m2 lo hi (qent_orth' u _) (by omega)
  obtain ⟨e5, e6⟩ := eB _ kw ky
  rw [e5, e6, hn, hm, hl]
  refine ⟨rfl, rfl, rfl, nE, wE, xE, ⟨hn0, by omega, m0, by omega, l0, by omega, f1, f2, g1, g2⟩, fun i hi' => ?_⟩
  obtain ⟨y1, y2⟩ := undo_core hn0 m0 f1 n2 lo hi hD hDy hi'
  have := (vb_iff _).1 ((okV_iff _).1 ky i hi')
  have := bv i hi'
  exact ⟨by omega, by omega, by omega, by omega, y1, y2⟩
end Go.Proofs.Ytcgpcehdeihalaa
