/-
  Bodies, plainly: what is near to a unit keeps lengths, and what a body stays within. No program in sight.
-/
import Derived.Test.YtkmelddejdikgaaBdM
import Derived.Test.YtkmelddejdikgaaKeep2
set_option linter.unusedSimpArgs false
set_option linter.unusedVariables false
namespace Go.Proofs.Ytkmelddejdikgaa
open Go.RowKit PM Dt
theorem vcomp {u : Nat → Int} (h : nn u < 1073741829 * 1073741829) {i : Nat} (hi : i < 4) : -1073741828 ≤ u i ∧ u i ≤ 1073741828 := by
  have n0 := sq_nn (u 0)
  have n1 := sq_nn (u 1)
  have n2 := sq_nn (u 2)
  have n3 := sq_nn (u 3)
  have : u i * u i < 1073741829 * 1073741829 := by
    unfold nn at h
    have : i = 0 ∨ i = 1 ∨ i = 2 ∨ i = 3 := by omega
    rcases this with rfl | rfl | rfl | rfl <;> omega
  have := sqv_lt (a := u i) (b := 1073741829) (by decide) this
  omega
theorem vmat_ok {u : Nat → Int} (h : nn u < 1073741829 * 1073741829) : okM (qmatX u) = true := by
  have b : ∀ i, i < 4 → ∀ j, j < 4 → -1152921513196781584 ≤ u i * u j ∧ u i * u j ≤ 1152921513196781584 := fun i hi j hj =>
    bmul (P := 1073741828) (R := 1073741828) (vcomp h hi).1 (vcomp h hi).2 (vcomp h hj).1 (vcomp h hj).2
  have e : ∀ j, j < 9 → -4611686052787126336 ≤ qent u j ∧ qent u j ≤ 4611686052787126336 := fun j hj => by
    have := b 0 (by omega) 0 (by omega)
    have := b 1 (by omega) 1 (by omega)
    have := b 2 (by omega) 2 (by omega)
    have := b 3 (by omega) 3 (by omega)
    have := b 0 (by omega) 1 (by omega)
    have := b 0 (by omega) 2 (by omega)
    have := b 0 (by omega) 3 (by omega)
    have := b 1 (by omega) 2 (by omega)
    have := b 1 (by omega) 3 (by omega)
    have := b 2 (by omega) 3 (by omega)
    have hj' : j = 0 ∨ j = 1 ∨ j = 2 ∨ j = 3 ∨ j = 4 ∨ j = 5 ∨ j = 6 ∨ j = 7 ∨ j = 8 := by omega
    rcases hj' with rfl | rfl | rfl | rfl | rfl | rfl | rfl | rfl | rfl <;> simp only [qent] <;> omega
  refine (okM_iff _).2 fun r hr => (okV_iff _).2 fun k hk => (vb_iff _).2 ?_
  have := e (3 * r + k) (by omega)
  show -1099511627776 ≤ rnd (qent u (3 * r + k)) ∧ rnd (qent u (3 * r + k)) ≤ 1099511627776
  generalize qent u (3 * r + k) = x at *
  unfold rnd; omega
theorem vv_comp {v : Nat → Int} {V : Int} (hV : 0 ≤ V) (h : vv v ≤ V * V) {i : Nat} (hi : i < 3) : -V ≤ v i ∧ v i ≤ V := by
  have n0 := sq_nn (v 0)
  have n1 := sq_nn (v 1)
  have n2 := sq_nn (v 2)
  unfold vv at h
  refine abs_le_of_sq hV ?_
  rcases (show i = 0 ∨ i = 1 ∨ i = 2 by omega) with rfl | rfl | rfl <;> omega
theorem rot_bd {E M u v g : Nat → Int} {V : Int} (h0 : 0 ≤ V) (h1 : V ≤ 4194304) (hM : ∀ j, j < 9 → ∃ d, 1073741824 * M j = E j + d ∧ -536870912 ≤ d ∧ d ≤ 536870912)
    (hg : ∀ i, i < 3 → ∃ e, 1073741824 * g i = ap M v i + e ∧ -536870912 ≤ e ∧ e ≤ 536870912) (hn0 : 0 ≤ nn u) (hn : nn u < 1073741829 * 1073741829)
    (hF : vv (ap E v) = nn u * nn u * vv v) (hv : vv v ≤ V * V) {i : Nat} (hi : i < 3) : -V ≤ g i ∧ g i ≤ V := by
  have b := fun j (hj : j < 3) => vv_comp h0 hv hj
  have hFi : -(nn u * V) ≤ ap E v i ∧ ap E v i ≤ nn u * V := by
    refine vv_comp (v := ap E v) (Int.mul_nonneg hn0 h0) ?_ hi
    rw [hF]
    have := Int.mul_le_mul_of_nonneg_left hv (Int.mul_nonneg hn0 hn0)
    have e : nn u * nn u * (V * V) = nn u * V * (nn u * V) := by grind
    omega
  have hnV : nn u * V ≤ 1152921515344265241 * V := Int.mul_le_mul_of_nonneg_right (by omega) h0
  obtain ⟨d0, m0, l0, u0⟩ := hM (3 * i) (by omega)
  obtain ⟨d1, m1, l1, u1⟩ := hM (3 * i + 1) (by omega)
  obtain ⟨d2, m2, l2, u2⟩ := hM (3 * i + 2) (by omega)
  obtain ⟨e, hgi, le, ue⟩ := hg i hi
  have p0 := bmul (P := 536870912) (R := V) l0 u0 (b 0 (by omega)).1 (b 0 (by omega)).2
  have p1 := bmul (P := 536870912) (R := V) l1 u1 (b 1 (by omega)).1 (b 1 (by omega)).2
  have p2 := bmul (P := 536870912) (R := V) l2 u2 (b 2 (by omega)).1 (b 2 (by omega)).2
  have key : 1073741824 * ap M v i = ap E v i + (d0 * v 0 + d1 * v 1 + d2 * v 2) := by
    unfold ap
    have a0 : 1073741824 * (M (3 * i) * v 0) = (E (3 * i) + d0) * v 0 := by rw [← m0]; grind
    have a1 : 1073741824 * (M (3 * i + 1) * v 1) = (E (3 * i + 1) + d1) * v 1 := by rw [← m1]; grind
    have a2 : 1073741824 * (M (3 * i + 2) * v 2) = (E (3 * i + 2) + d2) * v 2 := by rw [← m2]; grind
    grind
  generalize d0 * v 0 = D0 at *
  generalize d1 * v 1 = D1 at *
  generalize d2 * v 2 = D2 at *
  generalize nn u * V = NV at *
  generalize ap M v i = X at *
  generalize ap E v i = Y at *
  generalize g i = G at *
  have hh : 1152921504606846976 * G = Y + (D0 + D1 + D2) + 1073741824 * e := by omega
  omega
theorem valid_back {Q v : Nat → Int} {V : Int} (hI : ∀ i, i < 4 → I64 (Q i)) (hq : validQ Q = true) (h0 : 0 ≤ V) (h1 : V ≤ 4194304) (hv : vv v ≤ V * V) :
    qbackE Q v = 0 ∧ qrotE Q v = 0 ∧ ∀ i, i < 3 → (-V ≤ qbackF Q v i ∧ qbackF Q v i ≤ V) ∧ (-V ≤ qrotF Q v i ∧ qrotF Q v i ≤ V) := by
  obtain ⟨ku, lo, hi⟩ := valid_nn hI hq
  have hM := vmat_ok hi
  have n0 : 0 ≤ nn Q := by omega
  have kv : okV v = true := (okV_iff v).2 fun i hi => (vb_iff _).2 (by have := vv_comp h0 hv hi; omega)
  have B := fun i (hi' : i < 3) => rot_bd (g := backX (qmatX Q) v) h0 h1 (mat_err' Q) (fun i hi => back_ap _ _ hi) n0 hi (qent_orth' Q v) hv hi'
  have R := fun i (hi' : i < 3) => rot_bd (g := applyX (qmatX Q) v) h0 h1 (mat_err Q) (fun i hi => apply_ap _ _ hi) n0 hi (qent_orth Q v) hv hi'
  have kB : okV (backX (qmatX Q) v) = true := (okV_iff _).2 fun i hi => (vb_iff _).2 (by have := B i hi; omega)
  have kR : okV (applyX (qmatX Q) v) = true := (okV_iff _).2 fun i hi => (vb_iff _).2 (by have := R i hi; omega)
  unfold qbackF qbackE qrotF qrotE vbackF vbackE vapplyF vapplyE resF resE
  rw [hq, hM, kv, kB, kR]
  exact ⟨rfl, rfl, fun i hi => ⟨B i hi, R i hi⟩⟩
theorem allB_bd {T : Nat → Int} (h : allB T = true) : (∀ i, i < 3 → -1048576 ≤ T i ∧ T i ≤ 1048576) ∧ vv T ≤ 1048576 * 1048576 := by
  simp only [allB, Bool.and_eq_true, decide_eq_true_eq] at h
  exact ⟨fun i hi => (sb_iff _ _).1 ((smallB_iff T _).1 h.1 i hi), h.2⟩
theorem momG_eq {Q T h : Nat → Int} {f : Int} (hI : ∀ i, i < 4 → I64 (Q i)) (hq : validQ Q = true) (hT : allB T = true) (hS : SI h f) :
    qbackE Q T = 0 ∧ ∀ i, i < 3 → (-1048576 ≤ qbackF Q T i ∧ qbackF Q T i ≤ 1048576) ∧ momG Q T h i = qbackF Q T i - sumW h i := by
  obtain ⟨e1, _, hb⟩ := valid_back hI hq (by decide) (by decide) (allB_bd hT).2
  refine ⟨e1, fun i hi => ⟨(hb i hi).1, ?_⟩⟩
  have k1 : okV (qbackF Q T) = true := (okV_iff _).2 fun i hi => (vb_iff _).2 (by have := (hb i hi).1; omega)
  have k2 : okV (sumW h) = true := (okV_iff _).2 fun i hi => (vb_iff _).2 (by have := sumW_bd hS hi; omega)
  have k3 : okV (subF (qbackF Q T) (sumW h)) = true := (okV_iff _).2 fun i hi => (vb_iff _).2 (by have := (hb i hi).1; have := sumW_bd hS hi; unfold subF; omega)
  unfold momG vsubF resF
  rw [k1, k2, k3]
  rfl
theorem momG_bd {Q T h : Nat → Int} {f : Int} (hI : ∀ i, i < 4 → I64 (Q i)) (hq : validQ Q = true) (hT : allB T = true) (hS : SI h f) {i : Nat} (hi : i < 3) : -34603008 ≤ momG Q T h i ∧ momG Q T h i ≤ 34603008 := by
  obtain ⟨_, hb⟩ := momG_eq hI hq hT hS
  have := hb i hi; have := sumW_bd hS hi
  omega
theorem attG_ok {Q l : Nat → Int} (hI : ∀ i, i < 4 → I64 (Q i)) (hq : validQ Q = true) (hl : ∀ i, i < 3 → -34603008 ≤ l i ∧ l i ≤ 34603008) : (∀ i, i < 4 → I64 (attG Q l i)) ∧ validQ (attG Q l) = true := by
  unfold attG
  split
  · exact ⟨hI, hq⟩
  · have hs : smallB (mulF 2 l) 1073741824 = true := (smallB_iff _ _).2 fun i hi => (sb_iff _ _).2 (by have := hl i hi; unfold mulF; omega)
    obtain ⟨_, h1, h2, h3⟩ := turn_core hI hq hs
    rw [h1]
    obtain ⟨_, h4, _⟩ := qun_core h2 h3
    exact ⟨fun i hi => by have := okQ_bd h4 hi; exact ⟨by omega, by omega⟩, (qun_valid h2 h3).1⟩
theorem BI.att {X : BSt} (k : BI X) (c : Nat → Int) : (∀ i, i < 4 → I64 (tickQ X c i)) ∧ validQ (tickQ X c) = true :=
  attG_ok k.q k.v fun i hi => momG_bd k.q k.v k.t (k.s.step c) hi
theorem BI.tick {X : BSt} (k : BI X) (c t : Nat → Int) : BI (tickX X c t) := by
  unfold tickX
  split
  · obtain ⟨a, b⟩ := k.att c
    refine ⟨a, b, ?_, k.s.step c⟩
    show allB (if allB (tickS X c t) = true then tickS X c t else X.T) = true
    split
    · assumption
    · exact k.t
  · exact k
end Go.Proofs.Ytkmelddejdikgaa
