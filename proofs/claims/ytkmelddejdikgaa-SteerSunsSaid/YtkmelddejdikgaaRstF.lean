/-
  A turn of a body near to rest, plainly. No program in sight. How far a turn moves what is seen, plainly. No program in sight. Wheels that are led to targets which move, plainly. No program in sight. What a step of a body's acts leaves balanced. No program in sight. A tick of Rest, plainly. No program in sight. Ticks of Rest, one behind the other, plainly: the momentum is gone within 20. No program in sight.
-/
import Derived.Test.YtkmelddejdikgaaBetV
import Derived.Test.YtkmelddejdikgaaBdP
import Derived.Test.YtkmelddejdikgaaQEq
import Derived.Test.YtkmelddejdikgaaBdR
import Derived.Test.YtkmelddejdikgaaBdD
import Derived.Test.YtkmelddejdikgaaLpB
set_option linter.unusedSimpArgs false
set_option linter.unusedVariables false
namespace Go.Proofs.Ytkmelddejdikgaa
open Go.RowKit PM Dt
set_option maxRecDepth 100000 in
theorem between_dot {u h : Nat → Int} (hIu : ∀ i, i < 4 → I64 (u i)) (vu : validQ u = true) (hv : smallB h 268435456 = true) :
    betF u (turnF u h) = qprodF (conjF u) (turnF u h) ∧ okQ u = true ∧ okQ (turnF u h) = true ∧ validQ (turnF u h) = true ∧ ∀ i, i < 4 → I64 (turnF u h i) := by
  have hh : smallB h 1073741824 = true := (smallB_iff h _).2 fun i hi => (sb_iff _ _).2 (by have := (sb_iff _ _).1 ((smallB_iff h _).1 hv i hi); omega)
  obtain ⟨ku, u1, u2⟩ := valid_nn hIu vu
  obtain ⟨t1, t2, tk, tz⟩ := turn_core hIu vu hh
  obtain ⟨_, kt, ⟨Nt, Pt, a1, a2, a3, a4, a5⟩, _⟩ := qun_core tk tz
  obtain ⟨vt, _⟩ := qun_valid tk tz
  obtain ⟨rk, r1, r2⟩ := rq_ok hh
  have rz : zQ (rq h) = false := by
    cases hz : zQ (rq h) with
    | false => rfl
    | true =>
      unfold zQ at hz
      rw [List.all_eq_true] at hz
      have := beq_iff_eq.1 (hz 0 (List.mem_range.2 (by omega)))
      exact absurd (show (1073741824 : Int) = 0 from this) (by decide)
  obtain ⟨re, rk', ⟨Nr, Pr, b1, b2, b3, b4, b5⟩, _⟩ := qun_core rk rz
  have cje := cj_eq ku
  have ck := cj_ok ku
  have hp : ∀ i, i < 4 → 1073741824 * qprodF u (rq h) i = pe u (rq h) i + (1073741824 * qprodF u (rq h) i - pe u (rq h) i) ∧ -536870912 ≤ 1073741824 * qprodF u (rq h) i - pe u (rq h) i ∧ 1073741824 * qprodF u (rq h) i - pe u (rq h) i ≤ 536870912 := fun i hi => by
    obtain ⟨e, h1, h2, h3⟩ := prod_err ku rk hi
    omega
  have hB : ∀ i, i < 4 → 1073741824 * qprodF (conjF u) (turnF u h) i = pe (cj u) (turnF u h) i + (1073741824 * qprodF (conjF u) (turnF u h) i - pe (cj u) (turnF u h) i) ∧ -536870912 ≤ 1073741824 * qprodF (conjF u) (turnF u h) i - pe (cj u) (turnF u h) i ∧ 1073741824 * qprodF (conjF u) (turnF u h) i - pe (cj u) (turnF u h) i ≤ 536870912 := fun i hi => by
    obtain ⟨e, h1, h2, h3⟩ := prod_err ck (g := turnF u h) (by rw [t2]; exact kt) hi
    have he : pe (conjF u) (turnF u h) i = pe (cj u) (turnF u h) i := by
      have e0 := cje 0 (by omega)
      have e1 := cje 1 (by omega)
      have e2 := cje 2 (by omega)
      have e3 := cje 3 (by omega)
      exact pe_l e0 e1 e2 e3 i
    rw [he] at h1
    omega
  have ht : ∀ i, i < 4 → 2 * (Nt * turnF u h i) = 2 * (1073741824 * (Pt * qprodF u (rq h) i)) + (2 * (Nt * turnF u h i) - 2 * (1073741824 * (Pt * qprodF u (rq h) i))) ∧ -Nt ≤ 2 * (Nt * turnF u h i) - 2 * (1073741824 * (Pt * qprodF u (rq h) i)) ∧ 2 * (Nt * turnF u h i) - 2 * (1073741824 * (Pt * qprodF u (rq h) i)) ≤ Nt := fun i hi => by
    obtain ⟨d, h1, h2, h3⟩ := a5 i hi
    rw [t2]
    generalize Nt * qunF (qprodF u (rq h)) i = X at *
    generalize Pt * qprodF u (rq h) i = Y at *
    omega
  have hr : ∀ i, i < 4 → 2 * (Nr * qunF (rq h) i) = 2 * (1073741824 * (Pr * rq h i)) + (2 * (Nr * qunF (rq h) i) - 2 * (1073741824 * (Pr * rq h i))) ∧ -Nr ≤ 2 * (Nr * qunF (rq h) i) - 2 * (1073741824 * (Pr * rq h i)) ∧ 2 * (Nr * qunF (rq h) i) - 2 * (1073741824 * (Pr * rq h i)) ≤ Nr := fun i hi => by
    obtain ⟨d, h1, h2, h3⟩ := b5 i hi
    generalize Nr * qunF (rq h) i = X at *
    generalize Pr * rq h i = Y at *
    omega
  have hRi : ∀ i, i < 4 → -1073741824 ≤ rq h i ∧ rq h i ≤ 1073741824 := fun i hi => by
    have b := fun j hj => (sb_iff _ _).1 ((smallB_iff h 1073741824).1 hh j hj)
    have : i = 0 ∨ i = 1 ∨ i = 2 ∨ i = 3 := by omega
    rcases this with rfl | rfl | rfl | rfl
    · show -1073741824 ≤ (1073741824 : Int) ∧ (1073741824 : Int) ≤ 1073741824
      omega
    · exact b 0 (by omega)
    · exact b 1 (by omega)
    · exact b 2 (by omega)
  obtain ⟨core, B0⟩ : (∀ i, i < 4 → qprodF (conjF u) (turnF u h) i ≤ qunF (rq h) i + 16 ∧ qunF (rq h) i ≤ qprodF (conjF u) (turnF u h) i + 16) ∧ 0 ≤ qprodF (conjF u) (turnF u h) 0 := by
    rcases Int.lt_or_le (nn u) (1073741824 * 1073741824) with hc | hc
    · exact between_lo u1 hc rfl hRi r1 r2 hp a2 a1 a3 a4 ht b2 b1 b3 b4 hr hB
    · exact between_hi hc u2 rfl hRi r1 r2 hp a2 a1 a3 a4 ht b2 b1 b3 b4 hr hB
  -- hRi r1 r2 hp a2 a1 a3 a4 ht b2 b1 b3 b4 hr hB
  have hbx : betF u (turnF u h) = qprodF (conjF u) (turnF u h) := by
    unfold betF betX
    have vt' : validQ (turnF u h) = true := by rw [t2]; exact vt
    rw [vu, vt']
    show (if qprodF (conjF u) (turnF u h) 0 < 0 then _ else _) = _
    rw [if_neg (Int.not_lt.2 B0)]
  have hbe : betE u (turnF u h) = 0 := by
    unfold betE
    rw [vu, t2, vt]; rfl
  exact ⟨hbx, ku, by rw [t2]; exact kt, by rw [t2]; exact (qun_valid tk tz).1, fun i hi => by rw [t2]; exact okQ_I kt i hi⟩
theorem turn_near {u h : Nat → Int} (hIu : ∀ i, i < 4 → I64 (u i)) (vu : validQ u = true) (hh : ∀ i, i < 3 → -10485760 ≤ h i ∧ h i ≤ 10485760) :
    validQ (turnF u h) = true ∧ (∀ i, i < 4 → I64 (turnF u h i)) ∧ nn (fun i => turnF u h i - u i) ≤ 18350080 * 18350080 := by
  have hv : smallB h 268435456 = true := (smallB_iff _ _).2 fun i hi => (sb_iff _ _).2 (by have := hh i hi; omega)
  have hv2 : smallB h 1073741824 = true := (smallB_iff _ _).2 fun i hi => (sb_iff _ _).2 (by have := hh i hi; omega)
  obtain ⟨hb, ku, kt, vt, It⟩ := between_dot hIu vu hv
  obtain ⟨_, _, _, _, _, cmp⟩ := between_valid hIu vu hv
  have c0 := (cmp 0 (by omega)).2.2.2
  rw [hb] at c0
  obtain ⟨_, ul, uu⟩ := valid_nn hIu vu
  obtain ⟨_, tl, tu⟩ := valid_nn It vt
  obtain ⟨rk, r1, r2⟩ := rq_ok hv2
  have rz : zQ (rq h) = false := by
    cases hz : zQ (rq h) with
    | false => rfl
    | true =>
      unfold zQ at hz
      rw [List.all_eq_true] at hz
      have := beq_iff_eq.1 (hz 0 (List.mem_range.2 (by omega)))
      exact absurd (show (1073741824 : Int) = 0 from this) (by decide)
  obtain ⟨_, _, ⟨N, P, n1, p1, n2, n3, n4⟩, _⟩ := qun_core rk rz
  obtain ⟨d, e1, e2, e3⟩ := n4 0 (by omega)
  have hn : nn (rq h) ≤ 1073895426 * 1073895426 := by
    have a := fun i hi => bmul (P := 10485760) (R := 10485760) (hh i hi).1 (hh i hi).2 (hh i hi).1 (hh i hi).2
    have a0 := a 0 (by omega); have a1 := a 1 (by omega); have a2 := a 2 (by omega)
    show 1073741824 * 1073741824 + h 0 * h 0 + h 1 * h 1 + h 2 * h 2 ≤ _
    omega
  have hN : N ≤ P * 1073895426 := by
    have h1 : N * N ≤ (P * 1073895426) * (P * 1073895426) := by
      have := Int.mul_le_mul_of_nonneg_left hn (sq_nn P)
      have e : (P * 1073895426) * (P * 1073895426) = P * P * (1073895426 * 1073895426) := by grind
      omega
    exact (abs_le_of_sq (by omega) h1).2
  have e1 : 2 * (N * qunF (rq h) 0) = 2 * (1073741824 * (P * 1073741824)) + d := e1
  have hu0 : 1073588220 ≤ qunF (rq h) 0 := by
    apply Classical.byContradiction; intro hc
    have h1 : N * qunF (rq h) 0 ≤ N * 1073588219 := Int.mul_le_mul_of_nonneg_left (by omega) (by omega)
    have h2 : N * 1073588219 ≤ (P * 1073895426) * 1073588219 := Int.mul_le_mul_of_nonneg_right hN (by omega)
    have h3 : (P * 1073895426) * 1073588219 = P * 1152921478030964694 := by grind
    omega
  obtain ⟨e, he, el, eu⟩ := prod_err (f := conjF u) (g := turnF u h) (cj_ok ku) kt (i := 0) (by omega)
  have cje := cj_eq ku
  have hd : pe (conjF u) (turnF u h) 0 = u 0 * turnF u h 0 + u 1 * turnF u h 1 + u 2 * turnF u h 2 + u 3 * turnF u h 3 := by
    have x0 := cje 0 (by omega); have x1 := cje 1 (by omega); have x2 := cje 2 (by omega); have x3 := cje 3 (by omega)
    simp only [pe]
    rw [x0, x1, x2, x3]
    simp only [cj]
    grind
  have hs : nn (fun i => turnF u h i - u i) = nn (turnF u h) + nn u - 2 * pe (conjF u) (turnF u h) 0 := by
    rw [hd]; unfold nn; grind
  rw [hs]
  refine ⟨vt, It, ?_⟩
  omega
end Go.Proofs.Ytkmelddejdikgaa
namespace Go.Proofs.Ytkmelddejdikgaa
open Go.RowKit PM Dt
theorem back_exact {Q v : Nat → Int} {V : Int} (hI : ∀ i, i < 4 → I64 (Q i)) (hq : validQ Q = true) (h0 : 0 ≤ V) (h1 : V ≤ 4194304) (hv : vv v ≤ V * V) {i : Nat} (hi : i < 3) :
    ∃ D, 1152921504606846976 * qbackF Q v i = ap (tr (qent Q)) v i + D ∧ -(1610612736 * V + 576460752303423488) ≤ D ∧ D ≤ 1610612736 * V + 576460752303423488 := by
  obtain ⟨ku, lo, hu⟩ := valid_nn hI hq
  have hM := vmat_ok hu
  have n0 : 0 ≤ nn Q := by omega
  have b := fun j (hj : j < 3) => vv_comp h0 hv hj
  have kv : okV v = true := (okV_iff v).2 fun i hi => (vb_iff _).2 (by have := b i hi; omega)
  have B := fun i (hi' : i < 3) => rot_bd (g := backX (qmatX Q) v) h0 h1 (mat_err' Q) (fun i hi => back_ap _ _ hi) n0 hu (qent_orth' Q v) hv hi'
  have kB : okV (backX (qmatX Q) v) = true := (okV_iff _).2 fun i hi => (vb_iff _).2 (by have := B i hi; omega)
  have eq : qbackF Q v = backX (qmatX Q) v := by unfold qbackF vbackF resF; rw [hq, hM, kv, kB]; rfl
  rw [eq]
  obtain ⟨e, hgi, le, ue⟩ := back_ap (qmatX Q) v hi
  obtain ⟨d0, m0, l0, u0⟩ := mat_err' Q (3 * i) (by omega)
  obtain ⟨d1, m1, l1, u1⟩ := mat_err' Q (3 * i + 1) (by omega)
  obtain ⟨d2, m2, l2, u2⟩ := mat_err' Q (3 * i + 2) (by omega)
  have p0 := bmul (P := 536870912) (R := V) l0 u0 (b 0 (by omega)).1 (b 0 (by omega)).2
  have p1 := bmul (P := 536870912) (R := V) l1 u1 (b 1 (by omega)).1 (b 1 (by omega)).2
  have p2 := bmul (P := 536870912) (R := V) l2 u2 (b 2 (by omega)).1 (b 2 (by omega)).2
  have key : 1073741824 * ap (tr (qmatX Q)) v i = ap (tr (qent Q)) v i + (d0 * v 0 + d1 * v 1 + d2 * v 2) := by
    unfold ap
    have a0 : 1073741824 * (tr (qmatX Q) (3 * i) * v 0) = (tr (qent Q) (3 * i) + d0) * v 0 := by rw [← m0]; grind
    have a1 : 1073741824 * (tr (qmatX Q) (3 * i + 1) * v 1) = (tr (qent Q) (3 * i + 1) + d1) * v 1 := by rw [← m1]; grind
    have a2 : 1073741824 * (tr (qmatX Q) (3 * i + 2) * v 2) = (tr (qent Q) (3 * i + 2) + d2) * v 2 := by rw [← m2]; grind
    grind
  refine ⟨d0 * v 0 + d1 * v 1 + d2 * v 2 + 1073741824 * e, ?_, ?_, ?_⟩ <;> omega
theorem form_near {f g : Nat → Int} {F D : Int} (hF : 0 ≤ F) (hD : 0 ≤ D) (hf : nn f ≤ F * F) (hg : nn g ≤ F * F) (hd : nn (fun i => f i - g i) ≤ D * D) (s : (Nat → Int) → Nat → Int)
    (hs : ∀ x, nn (s x) = nn x) (hl : ∀ i, i < 4 → s (fun j => f j - g j) i = s f i - s g i) :
    -(2 * (F * D)) ≤ (f 0 * s f 0 + f 1 * s f 1 + f 2 * s f 2 + f 3 * s f 3) - (g 0 * s g 0 + g 1 * s g 1 + g 2 * s g 2 + g 3 * s g 3) ∧
      (f 0 * s f 0 + f 1 * s f 1 + f 2 * s f 2 + f 3 * s f 3) - (g 0 * s g 0 + g 1 * s g 1 + g 2 * s g 2 + g 3 * s g 3) ≤ 2 * (F * D) := by
  have cs : ∀ (x y : Nat → Int), nn x ≤ F * F → nn y ≤ D * D → -(F * D) ≤ x 0 * y 0 + x 1 * y 1 + x 2 * y 2 + x 3 * y 3 ∧ x 0 * y 0 + x 1 * y 1 + x 2 * y 2 + x 3 * y 3 ≤ F * D := fun x y hx hy => by
    refine abs_le_of_sq (Int.mul_nonneg hF hD) ?_
    have h := cauchy4 (x 0) (x 1) (x 2) (x 3) (y 0) (y 1) (y 2) (y 3)
    have h2 : nn x * nn y ≤ (F * F) * (D * D) := Int.mul_le_mul hx hy (nn_nonneg y) (Int.mul_nonneg hF hF)
    unfold nn at h2
    have e : F * D * (F * D) = F * F * (D * D) := by grind
    rw [e]
    exact Int.le_trans h h2
  have a := cs f (s fun j => f j - g j) hf (by rw [hs]; exact hd)
  have b := cs (s g) (fun j => f j - g j) (by rw [hs]; exact hg) hd
  rw [hl 0 (by omega), hl 1 (by omega), hl 2 (by omega), hl 3 (by omega)] at a
  have e1 : f 0 * s f 0 + f 1 * s f 1 + f 2 * s f 2 + f 3 * s f 3 - (g 0 * s g 0 + g 1 * s g 1 + g 2 * s g 2 + g 3 * s g 3) =
      (f 0 * (s f 0 - s g 0) + f 1 * (s f 1 - s g 1) + f 2 * (s f 2 - s g 2) + f 3 * (s f 3 - s g 3)) + (s g 0 * (f 0 - g 0) + s g 1 * (f 1 - g 1) + s g 2 * (f 2 - g 2) + s g 3 * (f 3 - g 3)) := by grind
  rw [e1]
  generalize f 0 * (s f 0 - s g 0) + f 1 * (s f 1 - s g 1) + f 2 * (s f 2 - s g 2) + f 3 * (s f 3 - s g 3) = A1 at *
  have b' : -(F * D) ≤ s g 0 * (f 0 - g 0) + s g 1 * (f 1 - g 1) + s g 2 * (f 2 - g 2) + s g 3 * (f 3 - g 3) ∧ s g 0 * (f 0 - g 0) + s g 1 * (f 1 - g 1) + s g 2 * (f 2 - g 2) + s g 3 * (f 3 - g 3) ≤ F * D := b
  omega
theorem ent_near {f g : Nat → Int} {F D : Int} (hF : 0 ≤ F) (hD : 0 ≤ D) (hf : nn f ≤ F * F) (hg : nn g ≤ F * F) (hd : nn (fun i => f i - g i) ≤ D * D) : ∀ j, j < 9 → -(2 * (F * D)) ≤ qent f j - qent g j ∧ qent f j - qent g j ≤ 2 * (F * D) := fun j hj => by
  rcases (show j = 0 ∨ j = 1 ∨ j = 2 ∨ j = 3 ∨ j = 4 ∨ j = 5 ∨ j = 6 ∨ j = 7 ∨ j = 8 by omega) with rfl | rfl | rfl | rfl | rfl | rfl | rfl | rfl | rfl
  · have h := form_near hF hD hf hg hd (fun f => of4 (f 0) (f 1) (-f 2) (-f 3)) (fun x => by unfold nn; simp only [of4]; grind) (fun i hi => by rcases (show i = 0 ∨ i = 1 ∨ i = 2 ∨ i = 3 by omega) with rfl | rfl | rfl | rfl <;> simp only [of4] <;> omega)
    simp only [of4] at h
    simp only [qent]
    grind
  · have h := form_near hF hD hf hg hd (fun f => of4 (-f 3) (f 2) (f 1) (-f 0)) (fun x => by unfold nn; simp only [of4]; grind) (fun i hi => by rcases (show i = 0 ∨ i = 1 ∨ i = 2 ∨ i = 3 by omega) with rfl | rfl | rfl | rfl <;> simp only [of4] <;> omega)
    simp only [of4] at h
    simp only [qent]
    grind
  · have h := form_near hF hD hf hg hd (fun f => of4 (f 2) (f 3) (f 0) (f 1)) (fun x => by unfold nn; simp only [of4]; grind) (fun i hi => by rcases (show i = 0 ∨ i = 1 ∨ i = 2 ∨ i = 3 by omega) with rfl | rfl | rfl | rfl <;> simp only [of4] <;> omega)
    simp only [of4] at h
    simp only [qent]
    grind
  · have h := form_near hF hD hf hg hd (fun f => of4 (f 3) (f 2) (f 1) (f 0)) (fun x => by unfold nn; simp only [of4]; grind) (fun i hi => by rcases (show i = 0 ∨ i = 1 ∨ i = 2 ∨ i = 3 by omega) with rfl | rfl | rfl | rfl <;> simp only [of4] <;> omega)
    simp only [of4] at h
    simp only [qent]
    grind
  · have h := form_near hF hD hf hg hd (fun f => of4 (f 0) (-f 1) (f 2) (-f 3)) (fun x => by unfold nn; simp only [of4]; grind) (fun i hi => by rcases (show i = 0 ∨ i = 1 ∨ i = 2 ∨ i = 3 by omega) with rfl | rfl | rfl | rfl <;> simp only [of4] <;> omega)
    simp only [of4] at h
    simp only [qent]
    grind
  · have h := form_near hF hD hf hg hd (fun f => of4 (-f 1) (-f 0) (f 3) (f 2)) (fun x => by unfold nn; simp only [of4]; grind) (fun i hi => by rcases (show i = 0 ∨ i = 1 ∨ i = 2 ∨ i = 3 by omega) with rfl | rfl | rfl | rfl <;> simp only [of4] <;> omega)
    simp only [of4] at h
    simp only [qent]
    grind
  · have h := form_near hF hD hf hg hd (fun f => of4 (-f 2) (f 3) (-f 0) (f 1)) (fun x => by unfold nn; simp only [of4]; grind) (fun i hi => by rcases (show i = 0 ∨ i = 1 ∨ i = 2 ∨ i = 3 by omega) with rfl | rfl | rfl | rfl <;> simp only [of4] <;> omega)
    simp only [of4] at h
    simp only [qent]
    grind
  · have h := form_near hF hD hf hg hd (fun f => of4 (f 1) (f 0) (f 3) (f 2)) (fun x => by unfold nn; simp only [of4]; grind) (fun i hi => by rcases (show i = 0 ∨ i = 1 ∨ i = 2 ∨ i = 3 by omega) with rfl | rfl | rfl | rfl <;> simp only [of4] <;> omega)
    simp only [of4] at h
    simp only [qent]
    grind
  · have h := form_near hF hD hf hg hd (fun f => of4 (f 0) (-f 1) (-f 2) (f 3)) (fun x => by unfold nn; simp only [of4]; grind) (fun i hi => by rcases (show i = 0 ∨ i = 1 ∨ i = 2 ∨ i = 3 by omega) with rfl | rfl | rfl | rfl <;> simp only [of4] <;> omega)
    simp only [of4] at h
    simp only [qent]
    grind
theorem back_near {Q T l : Nat → Int} (hI : ∀ i, i < 4 → I64 (Q i)) (hq : validQ Q = true) (hT : allB T = true) (hl : ∀ i, i < 3 → -5242880 ≤ l i ∧ l i ≤ 5242880) {i : Nat} (hi : i < 3) :
    -108000 ≤ qbackF (attG Q l) T i - qbackF Q T i ∧ qbackF (attG Q l) T i - qbackF Q T i ≤ 108000 := by
  unfold attG
  split
  · omega
  · obtain ⟨vt, It, hd⟩ := turn_near (h := mulF 2 l) hI hq (fun i hi => by have := hl i hi; unfold mulF; omega)
    generalize turnF Q (mulF 2 l) = R at *
    obtain ⟨b3, bv⟩ := allB_bd hT
    obtain ⟨_, _, u1⟩ := valid_nn hI hq
    obtain ⟨_, _, u2⟩ := valid_nn It vt
    obtain ⟨d1, x1, y1, z1⟩ := back_exact hI hq (V := 1048576) (by decide) (by decide) bv hi
    obtain ⟨d2, x2, y2, z2⟩ := back_exact It vt (V := 1048576) (by decide) (by decide) bv hi
    have e := ent_near (f := R) (g := Q) (F := 1073741829) (D := 18350080) (by decide) (by decide) (by omega) (by omega) hd
    have m := fun j (hj : j < 9) k (hk : k < 3) => bmul (P := 39406496922992640) (R := 1048576) (a := qent R j - qent Q j) (b := T k) (by have := e j hj; omega) (by have := e j hj; omega) (b3 k hk).1 (b3 k hk).2
    have key : -123964014000000000000000 ≤ ap (tr (qent R)) T i - ap (tr (qent Q)) T i ∧ ap (tr (qent R)) T i - ap (tr (qent Q)) T i ≤ 123964014000000000000000 := by
      rcases (show i = 0 ∨ i = 1 ∨ i = 2 by omega) with rfl | rfl | rfl
      · have a := m 0 (by omega) 0 (by omega); have b := m 3 (by omega) 1 (by omega); have c := m 6 (by omega) 2 (by omega)
        have h : ap (tr (qent R)) T 0 - ap (tr (qent Q)) T 0 = (qent R 0 - qent Q 0) * T 0 + (qent R 3 - qent Q 3) * T 1 + (qent R 6 - qent Q 6) * T 2 := by
          show (qent R 0 * T 0 + qent R 3 * T 1 + qent R 6 * T 2) - (qent Q 0 * T 0 + qent Q 3 * T 1 + qent Q 6 * T 2) = _; grind
        rw [h]; omega
      · have a := m 1 (by omega) 0 (by omega); have b := m 4 (by omega) 1 (by omega); have c := m 7 (by omega) 2 (by omega)
        have h : ap (tr (qent R)) T 1 - ap (tr (qent Q)) T 1 = (qent R 1 - qent Q 1) * T 0 + (qent R 4 - qent Q 4) * T 1 + (qent R 7 - qent Q 7) * T 2 := by
          show (qent R 1 * T 0 + qent R 4 * T 1 + qent R 7 * T 2) - (qent Q 1 * T 0 + qent Q 4 * T 1 + qent Q 7 * T 2) = _; grind
        rw [h]; omega
      · have a := m 2 (by omega) 0 (by omega); have b := m 5 (by omega) 1 (by omega); have c := m 8 (by omega) 2 (by omega)
        have h : ap (tr (qent R)) T 2 - ap (tr (qent Q)) T 2 = (qent R 2 - qent Q 2) * T 0 + (qent R 5 - qent Q 5) * T 1 + (qent R 8 - qent Q 8) * T 2 := by
          show (qent R 2 * T 0 + qent R 5 * T 1 + qent R 8 * T 2) - (qent Q 2 * T 0 + qent Q 5 * T 1 + qent Q 8 * T 2) = _; grind
        rw [h]; omega
    omega
end Go.Proofs.Ytkmelddejdikgaa
namespace Go.Proofs.Ytkmelddejdikgaa
open Go.RowKit PM Dt
theorem frW_pos {h : Int} (hh : 0 ≤ h) : 0 ≤ frW h ∧ 1024 * frW h ≤ h := by
  unfold frW; rw [Int.tdiv_eq_ediv_of_nonneg hh]; omega
theorem frW_npos {h : Int} (hh : h ≤ 0) : frW h ≤ 0 ∧ h ≤ 1024 * frW h := by
  have := frW_pos (h := -h) (by omega)
  have e := frW_neg h
  omega
theorem stp_cases {h P : Int} (hh : -16777216 ≤ h ∧ h ≤ 16777216) (hP : -2097152 ≤ P ∧ P ≤ 2097152) :
    (-1048576 ≤ P - h + frW h ∧ P - h + frW h ≤ 1048576 ∧ stpX h (cmdX h P) = P) ∨ (1048576 < P - h + frW h ∧ stpX h (cmdX h P) = h - frW h + 1048576) ∨ (P - h + frW h < -1048576 ∧ stpX h (cmdX h P) = h - frW h - 1048576) := by
  have hc : cmdX h P = P - h + frW h := by unfold cmdX; rw [clampW_id (by omega)]
  have f1 : 0 ≤ h → 0 ≤ frW h ∧ 1024 * frW h ≤ h := frW_pos
  have f2 : h ≤ 0 → frW h ≤ 0 ∧ h ≤ 1024 * frW h := frW_npos
  unfold stpX
  rw [hc]
  by_cases h1 : P - h + frW h < -1048576
  · refine .inr (.inr ⟨h1, ?_⟩)
    have e : clampV (P - h + frW h) (-1048576) 1048576 = -1048576 := by unfold clampV; rw [if_pos h1]; rfl
    rw [e, clampW_id (by omega)]; omega
  · by_cases h2 : 1048576 < P - h + frW h
    · refine .inr (.inl ⟨h2, ?_⟩)
      have e : clampV (P - h + frW h) (-1048576) 1048576 = 1048576 := by unfold clampV; rw [if_neg h1, if_pos h2]
      rw [e, clampW_id (by omega)]
    · refine .inl ⟨by omega, by omega, ?_⟩
      rw [clampT_id (by omega), show h - frW h + (P - h + frW h) = P by omega, clampW_id (by omega)]
theorem wheel_band {h P B : Int} (hB : 2097152 ≤ B ∧ B ≤ 16777216) (hh : -B ≤ h ∧ h ≤ B) (hP : -2097152 ≤ P ∧ P ≤ 2097152) :
    (-2097152 ≤ stpX h (cmdX h P) ∧ stpX h (cmdX h P) ≤ 2097152) ∨ (-(B - 1048576) ≤ stpX h (cmdX h P) ∧ stpX h (cmdX h P) ≤ B - 1048576) := by
  have f1 : 0 ≤ h → 0 ≤ frW h ∧ 1024 * frW h ≤ h := frW_pos
  have f2 : h ≤ 0 → frW h ≤ 0 ∧ h ≤ 1024 * frW h := frW_npos
  rcases stp_cases (h := h) (P := P) (by omega) hP with ⟨_, _, e⟩ | ⟨a, e⟩ | ⟨a, e⟩ <;> rw [e] <;> omega
theorem wheel_near {h P E : Int} (hh : -2097152 ≤ h ∧ h ≤ 2097152) (hP : -2097152 ≤ P ∧ P ≤ 2097152) (hE : -E ≤ h - P ∧ h - P ≤ E) :
    (E ≤ 1046528 → stpX h (cmdX h P) = P) ∧ (stpX h (cmdX h P) = P ∨ (-(E - 1046528) ≤ stpX h (cmdX h P) - P ∧ stpX h (cmdX h P) - P ≤ E - 1046528)) ∧ -2097152 ≤ stpX h (cmdX h P) ∧ stpX h (cmdX h P) ≤ 2097152 := by
  have f1 : 0 ≤ h → 0 ≤ frW h ∧ 1024 * frW h ≤ h := frW_pos
  have f2 : h ≤ 0 → frW h ≤ 0 ∧ h ≤ 1024 * frW h := frW_npos
  rcases stp_cases (h := h) (P := P) (by omega) hP with ⟨_, _, e⟩ | ⟨a, e⟩ | ⟨a, e⟩ <;> rw [e] <;> refine ⟨fun hx => ?_, ?_, ?_⟩ <;> omega
theorem allocZ_congr {d e : Nat → Int} {f : Int} (h : ∀ i, i < 3 → d i = e i) (hf : isW f = true) : allocZ d f = allocZ e f := by
  simp only [isW, Bool.and_eq_true, decide_eq_true_eq] at hf
  unfold allocZ spanZ
  rw [h 0 (by omega), h 1 (by omega), h 2 (by omega)]
  split
  · rfl
  · split
    · rfl
    · exact h _ (by omega)
theorem allocF_congr {d e : Nat → Int} {f : Int} (h : ∀ i, i < 3 → d i = e i) (hf : isW f = true) : allocF d f = allocF e f := by
  have hz := allocZ_congr h hf
  funext i
  match i with
  | 0 => show d 0 - allocZ d f = e 0 - allocZ e f; rw [hz, h 0 (by omega)]
  | 1 => show d 1 - allocZ d f = e 1 - allocZ e f; rw [hz, h 1 (by omega)]
  | 2 => show d 2 - allocZ d f = e 2 - allocZ e f; rw [hz, h 2 (by omega)]
  | (n + 3) => exact hz
theorem allocF_near {d e : Nat → Int} {f D : Int} (hD : 0 ≤ D) (h : ∀ i, i < 3 → -D ≤ d i - e i ∧ d i - e i ≤ D) (hf : isW f = true) : ∀ i, -(2 * D + 1) ≤ allocF d f i - allocF e f i ∧ allocF d f i - allocF e f i ≤ 2 * D + 1 := fun i => by
  have h0 := h 0 (by omega); have h1 := h 1 (by omega); have h2 := h 2 (by omega)
  have hz : -(D + 1) ≤ allocZ d f - allocZ e f ∧ allocZ d f - allocZ e f ≤ D + 1 := by
    simp only [isW, Bool.and_eq_true, decide_eq_true_eq] at hf
    unfold allocZ
    split
    · have mxn : -D ≤ [d 1, d 2, 0].foldl mx (d 0) - [e 1, e 2, 0].foldl mx (e 0) ∧ [d 1, d 2, 0].foldl mx (d 0) - [e 1, e 2, 0].foldl mx (e 0) ≤ D := by
        simp only [List.foldl_cons, List.foldl_nil]
        have m : ∀ a b c g : Int, -D ≤ a - b → a - b ≤ D → -D ≤ c - g → c - g ≤ D → -D ≤ mx a c - mx b g ∧ mx a c - mx b g ≤ D := fun a b c g p q r s => by unfold mx; split <;> split <;> omega
        have a := m _ _ _ _ h0.1 h0.2 h1.1 h1.2
        have b := m _ _ _ _ a.1 a.2 h2.1 h2.2
        exact m _ _ 0 0 b.1 b.2 (by omega) (by omega)
      have mnn : -D ≤ [d 1, d 2, 0].foldl mn (d 0) - [e 1, e 2, 0].foldl mn (e 0) ∧ [d 1, d 2, 0].foldl mn (d 0) - [e 1, e 2, 0].foldl mn (e 0) ≤ D := by
        simp only [List.foldl_cons, List.foldl_nil]
        have m : ∀ a b c g : Int, -D ≤ a - b → a - b ≤ D → -D ≤ c - g → c - g ≤ D → -D ≤ mn a c - mn b g ∧ mn a c - mn b g ≤ D := fun a b c g p q r s => by unfold mn; split <;> split <;> omega
        have a := m _ _ _ _ h0.1 h0.2 h1.1 h1.2
        have b := m _ _ _ _ a.1 a.2 h2.1 h2.2
        exact m _ _ 0 0 b.1 b.2 (by omega) (by omega)
      unfold spanZ; omega
    · split
      · omega
      · have := h f.toNat (by omega); omega
  match i with
  | 0 => show -(2 * D + 1) ≤ d 0 - allocZ d f - (e 0 - allocZ e f) ∧ d 0 - allocZ d f - (e 0 - allocZ e f) ≤ 2 * D + 1; omega
  | 1 => show -(2 * D + 1) ≤ d 1 - allocZ d f - (e 1 - allocZ e f) ∧ d 1 - allocZ d f - (e 1 - allocZ e f) ≤ 2 * D + 1; omega
  | 2 => show -(2 * D + 1) ≤ d 2 - allocZ d f - (e 2 - allocZ e f) ∧ d 2 - allocZ d f - (e 2 - allocZ e f) ≤ 2 * D + 1; omega
  | (n + 3) => show -(2 * D + 1) ≤ allocZ d f - allocZ e f ∧ allocZ d f - allocZ e f ≤ 2 * D + 1; omega
end Go.Proofs.Ytkmelddejdikgaa
namespace Go.Proofs.Ytkmelddejdikgaa
open Go.RowKit PM Dt
theorem vadd_ok {f g : Nat → Int} (hf : ∀ i, i < 3 → -4194304 ≤ f i ∧ f i ≤ 4194304) (hg : ∀ i, i < 3 → -4194304 ≤ g i ∧ g i ≤ 4194304) : vaddE f g = 0 ∧ ∀ i, vaddF f g i = f i + g i := by
  have k1 : okV f = true := (okV_iff _).2 fun i hi => (vb_iff _).2 (by have := hf i hi; omega)
  have k2 : okV g = true := (okV_iff _).2 fun i hi => (vb_iff _).2 (by have := hg i hi; omega)
  have k3 : okV (addF f g) = true := (okV_iff _).2 fun i hi => (vb_iff _).2 (by have := hf i hi; have := hg i hi; unfold addF; omega)
  unfold vaddE vaddF resE resF
  rw [k1, k2, k3]
  exact ⟨rfl, fun i => rfl⟩
end Go.Proofs.Ytkmelddejdikgaa
namespace Go.Proofs.Ytkmelddejdikgaa
open Go.RowKit PM Dt
def tgt (X : BSt) : Nat → Int := allocF (qbackF X.Q X.T) X.f
structure RI (X : BSt) (S : SSt) : Prop where
  b : BI X
  s : SSI S
  z : ∀ i : Nat, i < 4 → (i : Int) = X.f → X.h i = 0
  d : ∀ i, i < 3 → S.D i = 0
theorem RI.w {X : BSt} {S : SSt} (k : RI X S) : isW X.f = true := by
  have := k.b.s.l; have := k.b.s.u
  unfold isW; rw [decide_eq_true (by omega), decide_eq_true (by omega)]; rfl
theorem RI.new {X : BSt} {S : SSt} (k : RI X S) : newB X.h X.f = true := newB_of k.w k.b.s.b k.z
theorem stD_zero {S : SSt} (hd : ∀ i, i < 3 → S.D i = 0) (a : Bool) {i : Nat} (hi : i < 3) : stD a S (fun _ => 0) i = 0 := by
  unfold stD
  cases a
  · exact hd i hi
  · show S.D i + clampV (0 - S.D i) (-262144) 262144 = 0
    rw [hd i hi]; decide
theorem tgt_bd {X : BSt} {S : SSt} (k : RI X S) : ∀ i, -2097152 ≤ tgt X i ∧ tgt X i ≤ 2097152 := fun i => by
  obtain ⟨_, hm⟩ := momG_eq k.b.q k.b.v k.b.t k.b.s
  have := allocF_bd (m := 1048576) (by decide) (fun i hi => (hm i hi).1) k.w i
  unfold tgt; omega
theorem rest_cmd {X : BSt} {S : SSt} (k : RI X S) (sun : Nat → Int) : stC S (senseV X sun) (fun _ => 0) = cmdF X.h X.f (tgt X) := by
  obtain ⟨_, hm⟩ := momG_eq k.b.q k.b.v k.b.t k.b.s
  have hr : ∀ i, i < 3 → rstF (senseV X sun) (stD (arrB S (senseV X sun)) S fun _ => 0) i = qbackF X.Q X.T i := fun i hi => by
    have h1 := (hm i hi).2
    have h2 := stD_zero k.d (arrB S (senseV X sun)) hi
    show sumW X.h i + ((4 * momF X i) / 4 - stD (arrB S (senseV X sun)) S (fun _ => 0) i) = _
    rw [h2]
    have h3 : momF X i = qbackF X.Q X.T i - sumW X.h i := h1
    rw [h3]; omega
  have hok : okV (rstF (senseV X sun) (stD (arrB S (senseV X sun)) S fun _ => 0)) = true := (okV_iff _).2 fun i hi => (vb_iff _).2 (by rw [hr i hi]; have := (hm i hi).1; omega)
  unfold stC stP allF
  rw [hok, show isW (senseV X sun).f = true from k.w]
  show cmdF X.h X.f (allocF _ X.f) = _
  rw [allocF_congr hr k.w]
  rfl
theorem rtB_eq {X : BSt} {S : SSt} (k : RI X S) {sun : Nat → Int} (hs : senseOk (senseV X sun) = true) : rtB X S sun = tickX X (cmdF X.h X.f (tgt X)) (fun _ => 0) := by
  unfold rtB restC
  rw [if_pos hs, rest_cmd k sun]
theorem z_small : smallB (fun _ => 0) 1048576 = true := by decide
theorem rt_h {X : BSt} {S : SSt} (k : RI X S) {sun : Nat → Int} (hs : senseOk (senseV X sun) = true) (i : Nat) : (rtB X S sun).h i = if (i : Int) = X.f then X.h i else stpX (X.h i) (cmdX (X.h i) (tgt X i)) := by
  rw [rtB_eq k hs]
  unfold tickX
  rw [if_pos z_small]
  show stpF X.h X.f (cmdF X.h X.f (tgt X)) i = _
  unfold stpF
  split
  · rfl
  · rename_i h
    show stpX (X.h i) (cmdF X.h X.f (tgt X) i) = _
    unfold cmdF
    rw [if_neg h]
theorem rt_f {X : BSt} {S : SSt} (k : RI X S) {sun : Nat → Int} (hs : senseOk (senseV X sun) = true) : (rtB X S sun).f = X.f := by
  rw [rtB_eq k hs]; unfold tickX; rw [if_pos z_small]
theorem rt_Q {X : BSt} {S : SSt} (k : RI X S) {sun : Nat → Int} (hs : senseOk (senseV X sun) = true) : (rtB X S sun).Q = attG X.Q (momG X.Q X.T (rtB X S sun).h) := by
  rw [rtB_eq k hs]; unfold tickX; rw [if_pos z_small]; rfl
theorem rt_T {X : BSt} {S : SSt} (k : RI X S) {sun : Nat → Int} (hs : senseOk (senseV X sun) = true) : ∀ i, i < 3 → (rtB X S sun).T i = X.T i := fun i hi => by
  rw [rtB_eq k hs]
  have hD : ∀ i, i < 3 → tickD X (cmdF X.h X.f (tgt X)) (fun _ => 0) i = 0 := fun i hi => by
    obtain ⟨qI, qv⟩ := k.b.att (cmdF X.h X.f (tgt X))
    obtain ⟨_, _, hb⟩ := valid_back qI qv (by decide) (by decide) (vv0 (v := fun _ => 0) (fun i hi => rfl))
    have := (hb i hi).2
    unfold tickD; omega
  have bT := fun i hi => (allB_bd k.b.t).1 i hi
  obtain ⟨_, hv⟩ := vadd_ok (f := X.T) (g := tickD X (cmdF X.h X.f (tgt X)) (fun _ => 0)) (fun i hi => by have := bT i hi; omega) (fun i hi => by rw [hD i hi]; decide)
  unfold tickX
  rw [if_pos z_small]
  show (if allB (tickS X (cmdF X.h X.f (tgt X)) fun _ => 0) = true then tickS X (cmdF X.h X.f (tgt X)) (fun _ => 0) else X.T) i = X.T i
  split
  · show vaddF X.T (tickD X (cmdF X.h X.f (tgt X)) fun _ => 0) i = _
    rw [hv i, hD i hi]; omega
  · rfl
theorem RI.tick {X : BSt} {S : SSt} (k : RI X S) {sun : Nat → Int} (hs : senseOk (senseV X sun) = true) : RI (rtB X S sun) (restX S (senseV X sun)) := by
  refine ⟨?_, (restX_S k.s _).1, fun i hi e => ?_, fun i hi => ?_⟩
  · unfold rtB; exact k.b.tick _ _
  · rw [rt_f k hs] at e
    rw [rt_h k hs, if_pos e]; exact k.z i hi e
  · unfold restX; rw [if_pos hs]; exact stD_zero k.d _ hi
end Go.Proofs.Ytkmelddejdikgaa
namespace Go.Proofs.Ytkmelddejdikgaa
open Go.RowKit PM Dt
theorem rot_wide {E M u v g : Nat → Int} {V : Int} (h0 : 0 ≤ V) (hM : ∀ j, j < 9 → ∃ d, 1073741824 * M j = E j + d ∧ -536870912 ≤ d ∧ d ≤ 536870912)
    (hg : ∀ i, i < 3 → ∃ e, 1073741824 * g i = ap M v i + e ∧ -536870912 ≤ e ∧ e ≤ 536870912) (hn0 : 0 ≤ nn u) (hn : nn u < 1073741829 * 1073741829)
    (hF : vv (ap E v) = nn u * nn u * vv v) (hv : vv v ≤ V * V) {i : Nat} (hi : i < 3) : -(9 * V + 8) ≤ 8 * g i ∧ 8 * g i ≤ 9 * V + 8 := by
  have b := fun j (hj : j < 3) => vv_comp h0 hv hj
  have hFi : -(nn u * V) ≤ ap E v i ∧ ap E v i ≤ nn u * V := by
    refine vv_comp (v := ap E v) (Int.mul_nonneg hn0 h0) ?_ hi
    rw [hF]
    have := Int.mul_le_mul_of_nonneg_left hv (Int.mul_nonneg hn0 hn0)
    have e : nn u * nn u * (V * V) = nn u * V * (nn u * V) := by grind
    omega
  have hnV : nn u * V ≤ 1152921515344265241 * V := Int.mul_le_mul_of_nonneg_right (by omega) h0
  obtain ⟨d0, m0, l0, u0⟩ := hM (3 * i) (by omega)
  obtain ⟨d1, m1, l1, u1⟩ := hM (3 * i + 1) (by omega)
  obtain ⟨d2, m2, l2, u2⟩ := hM (3 * i + 2) (by omega)
  obtain ⟨e, hgi, le, ue⟩ := hg i hi
  have p0 := bmul (P := 536870912) (R := V) l0 u0 (b 0 (by omega)).1 (b 0 (by omega)).2
  have p1 := bmul (P := 536870912) (R := V) l1 u1 (b 1 (by omega)).1 (b 1 (by omega)).2
  have p2 := bmul (P := 536870912) (R := V) l2 u2 (b 2 (by omega)).1 (b 2 (by omega)).2
  have key : 1073741824 * ap M v i = ap E v i + (d0 * v 0 + d1 * v 1 + d2 * v 2) := by
    unfold ap
    have a0 : 1073741824 * (M (3 * i) * v 0) = (E (3 * i) + d0) * v 0 := by rw [← m0]; grind
    have a1 : 1073741824 * (M (3 * i + 1) * v 1) = (E (3 * i + 1) + d1) * v 1 := by rw [← m1]; grind
    have a2 : 1073741824 * (M (3 * i + 2) * v 2) = (E (3 * i + 2) + d2) * v 2 := by rw [← m2]; grind
    grind
  generalize d0 * v 0 = D0 at *
  generalize d1 * v 1 = D1 at *
  generalize d2 * v 2 = D2 at *
  generalize nn u * V = NV at *
  generalize ap M v i = X at *
  generalize ap E v i = Y at *
  generalize g i = G at *
  have hh : 1152921504606846976 * G = Y + (D0 + D1 + D2) + 1073741824 * e := by omega
  omega
theorem qback_wide {Q v : Nat → Int} (hI : ∀ i, i < 4 → I64 (Q i)) (hq : validQ Q = true) (hv : ∀ i, i < 3 → -1073741824 ≤ v i ∧ v i ≤ 1073741824) (hvv : vv v ≤ 1073741828 * 1073741828) {i : Nat} (hi : i < 3) : -2147483648 ≤ qbackF Q v i ∧ qbackF Q v i ≤ 2147483648 := by
  obtain ⟨ku, lo, hu⟩ := valid_nn hI hq
  have hM := vmat_ok hu
  have kv : okV v = true := (okV_iff v).2 fun i hi => (vb_iff _).2 (by have := hv i hi; omega)
  have B := fun i (hi' : i < 3) => rot_wide (g := backX (qmatX Q) v) (V := 1073741828) (by decide) (mat_err' Q) (fun i hi => back_ap _ _ hi) (by omega) hu (qent_orth' Q v) hvv hi'
  have kB : okV (backX (qmatX Q) v) = true := (okV_iff _).2 fun i hi => (vb_iff _).2 (by have := B i hi; omega)
  have eq : qbackF Q v = backX (qmatX Q) v := by unfold qbackF vbackF resF; rw [hq, hM, kv, kB]; rfl
  rw [eq]
  have := B i hi
  omega
theorem qback_congr (Q : Nat → Int) {v w : Nat → Int} (h : ∀ i, i < 3 → v i = w i) : qbackF Q v = qbackF Q w := by
  have hx : ∀ g, backX g v = backX g w := fun g => by
    funext i
    unfold backX d3
    rw [h 0 (by omega), h 1 (by omega), h 2 (by omega)]
  have ho : okV v = okV w := by unfold okV; rw [h 0 (by omega), h 1 (by omega), h 2 (by omega)]
  unfold qbackF vbackF
  rw [hx, ho]
def R0 (X : BSt) : Prop := ∀ i, i < 4 → X.h i = tgt X i
theorem tgt_sum (X : BSt) {h : Nat → Int} (e : ∀ i, i < 4 → h i = tgt X i) {i : Nat} (hi : i < 3) : sumW h i = qbackF X.Q X.T i := by
  have := allocF_sum (qbackF X.Q X.T) X.f hi
  unfold sumW at this ⊢
  rw [e i (by omega), e 3 (by omega)]
  exact this
theorem reach {X : BSt} {S : SSt} (k : RI X S) {sun : Nat → Int} (hs : senseOk (senseV X sun) = true) (hh : ∀ i, i < 4 → (rtB X S sun).h i = tgt X i) :
    R0 (rtB X S sun) ∧ (rtB X S sun).Q = X.Q ∧ (∀ i, i < 3 → momF (rtB X S sun) i = 0) ∧ ∀ i, i < 3 → ownF X (rtB X S sun).h i = 0 := by
  have k' := k.tick hs
  have hS := k'.b.s
  rw [rt_f k hs] at hS
  obtain ⟨_, hm⟩ := momG_eq k.b.q k.b.v k.b.t hS
  have hl : ∀ i, i < 3 → momG X.Q X.T (rtB X S sun).h i = 0 := fun i hi => by
    rw [(hm i hi).2, tgt_sum X hh hi]; omega
  have hQ : (rtB X S sun).Q = X.Q := by
    rw [rt_Q k hs]; unfold attG; rw [if_pos (zV_of hl)]
  have hb : qbackF (rtB X S sun).Q (rtB X S sun).T = qbackF X.Q X.T := by rw [hQ]; exact qback_congr _ (rt_T k hs)
  have ht : tgt (rtB X S sun) = tgt X := by unfold tgt; rw [hb, rt_f k hs]
  refine ⟨fun i hi => by rw [ht]; exact hh i hi, hQ, fun i hi => ?_, hl⟩
  show momG (rtB X S sun).Q (rtB X S sun).T (rtB X S sun).h i = 0
  unfold momG
  rw [hb]
  exact hl i hi
theorem rest_stays {X : BSt} {S : SSt} (k : RI X S) {sun : Nat → Int} (hs : senseOk (senseV X sun) = true) (r : R0 X) : ∀ i, i < 4 → (rtB X S sun).h i = tgt X i := fun i hi => by
  rw [rt_h k hs]
  split
  · exact r i hi
  · have hP := tgt_bd k i
    have e := r i hi
    have hf := frW_bd (h := X.h i) (by rw [e]; omega)
    rcases stp_cases (h := X.h i) (P := tgt X i) (by rw [e]; omega) hP with ⟨_, _, c⟩ | ⟨a, _⟩ | ⟨a, _⟩
    · exact c
    · omega
    · omega
theorem ph_A {X : BSt} {S : SSt} (k : RI X S) {sun : Nat → Int} (hs : senseOk (senseV X sun) = true) {B : Int} (hB : 3145728 ≤ B ∧ B ≤ 16777216) (h : ∀ i, i < 4 → -B ≤ X.h i ∧ X.h i ≤ B) :
    ∀ i, i < 4 → -(B - 1048576) ≤ (rtB X S sun).h i ∧ (rtB X S sun).h i ≤ B - 1048576 := fun i hi => by
  rw [rt_h k hs]
  split
  · rename_i e; rw [k.z i hi e]; omega
  · have := wheel_band (h := X.h i) (P := tgt X i) (B := B) (by omega) (h i hi) (tgt_bd k i)
    omega
def PB (E : Int) (X : BSt) : Prop := ∀ i, i < 4 → (-2097152 ≤ X.h i ∧ X.h i ≤ 2097152) ∧ -E ≤ X.h i - tgt X i ∧ X.h i - tgt X i ≤ E
theorem ph_B {X : BSt} {S : SSt} (k : RI X S) {sun : Nat → Int} (hs : senseOk (senseV X sun) = true) {E : Int} (hE : 1046528 ≤ E) (h : PB E X) : PB (E - 830527) (rtB X S sun) := by
  have k' := k.tick hs
  have step : ∀ i, i < 4 → (-2097152 ≤ (rtB X S sun).h i ∧ (rtB X S sun).h i ≤ 2097152) ∧ -(E - 1046528) ≤ (rtB X S sun).h i - tgt X i ∧ (rtB X S sun).h i - tgt X i ≤ E - 1046528 := fun i hi => by
    rw [rt_h k hs]
    split
    · rename_i e
      have z := k.z i hi e
      have t : tgt X i = 0 := allocF_failed hi e
      rw [z, t]; omega
    · obtain ⟨_, b, c, d⟩ := wheel_near (h i hi).1 (tgt_bd k i) (h i hi).2
      exact ⟨⟨c, d⟩, by omega, by omega⟩
  have hS := k'.b.s
  rw [rt_f k hs] at hS
  obtain ⟨_, hm⟩ := momG_eq k.b.q k.b.v k.b.t hS
  have hl : ∀ i, i < 3 → -5242880 ≤ momG X.Q X.T (rtB X S sun).h i ∧ momG X.Q X.T (rtB X S sun).h i ≤ 5242880 := fun i hi => by
    have a := hm i hi
    have b := (step i (by omega)).1
    have c := (step 3 (by omega)).1
    have e : sumW (rtB X S sun).h i = (rtB X S sun).h i + (rtB X S sun).h 3 := rfl
    omega
  have hb : ∀ i, i < 3 → -108000 ≤ qbackF (rtB X S sun).Q (rtB X S sun).T i - qbackF X.Q X.T i ∧ qbackF (rtB X S sun).Q (rtB X S sun).T i - qbackF X.Q X.T i ≤ 108000 := fun i hi => by
    rw [qback_congr _ (rt_T k hs), rt_Q k hs]
    exact back_near k.b.q k.b.v k.b.t hl hi
  have ht := allocF_near (f := X.f) (D := 108000) (by decide) hb k.w
  intro i hi
  have a := step i hi
  have b := ht i
  have e : tgt (rtB X S sun) i = allocF (qbackF (rtB X S sun).Q (rtB X S sun).T) X.f i := by unfold tgt; rw [rt_f k hs]
  have e2 : tgt X i = allocF (qbackF X.Q X.T) X.f i := rfl
  refine ⟨a.1, ?_, ?_⟩ <;> rw [e] <;> omega
theorem ph_C {X : BSt} {S : SSt} (k : RI X S) {sun : Nat → Int} (hs : senseOk (senseV X sun) = true) (h : PB 1046528 X) : ∀ i, i < 4 → (rtB X S sun).h i = tgt X i := fun i hi => by
  rw [rt_h k hs]
  split
  · rename_i e
    have t : tgt X i = 0 := allocF_failed hi e
    rw [k.z i hi e, t]
  · exact (wheel_near (h i hi).1 (tgt_bd k i) (h i hi).2).1 (by omega)
theorem sense_ok {X : BSt} {S : SSt} (k : RI X S) {sun : Nat → Int} (h1 : ∀ i, i < 3 → -1073741824 ≤ sun i ∧ sun i ≤ 1073741824) (h2 : vv sun ≤ 1073741828 * 1073741828) : senseOk (senseV X sun) = true := by
  have a : smallB (mulF 4 (momF X)) 268435456 = true := (smallB_iff _ _).2 fun i hi => (sb_iff _ _).2 (by
    have : -34603008 ≤ momF X i ∧ momF X i ≤ 34603008 := momG_bd k.b.q k.b.v k.b.t k.b.s hi
    unfold mulF; omega)
  have b : smallB (qbackF X.Q sun) 2147483648 = true := (smallB_iff _ _).2 fun i hi => (sb_iff _ _).2 (qback_wide k.b.q k.b.v h1 h2 hi)
  show (newB X.h X.f && (smallB (mulF 4 (momF X)) 268435456 && smallB (qbackF X.Q sun) 2147483648)) = true
  rw [k.new, a, b]; rfl
def Stage (k : Nat) (X : BSt) : Prop :=
  (k ≤ 14 ∧ ∀ i, i < 4 → -(16777216 - 1048576 * (k : Int)) ≤ X.h i ∧ X.h i ≤ 16777216 - 1048576 * (k : Int)) ∨ (14 ≤ k ∧ k ≤ 18 ∧ PB (4194304 - 830527 * ((k : Int) - 14)) X) ∨ (19 ≤ k ∧ R0 X ∧ ∀ i, i < 3 → momF X i = 0)
theorem stage_zero {X : BSt} {S : SSt} (k : RI X S) : Stage 0 X := .inl ⟨by omega, fun i hi => by have := k.b.s.b i hi; omega⟩
theorem stage_step {X : BSt} {S : SSt} (k : RI X S) {sun : Nat → Int} (hs : senseOk (senseV X sun) = true) {n : Nat} (h : Stage n X) : Stage (n + 1) (rtB X S sun) := by
  have hB : ∀ m : Nat, 14 ≤ m → m ≤ 18 → PB (4194304 - 830527 * ((m : Int) - 14)) X → Stage (m + 1) (rtB X S sun) := fun m m1 m2 hp => by
    by_cases e : m = 18
    · subst e
      have c := ph_C k hs (fun i hi => by have := hp i hi; omega)
      obtain ⟨r, _, z, _⟩ := reach k hs c
      exact .inr (.inr ⟨by omega, r, z⟩)
    · have b := ph_B k hs (E := 4194304 - 830527 * ((m : Int) - 14)) (by omega) hp
      refine .inr (.inl ⟨by omega, by omega, ?_⟩)
      have e2 : 4194304 - 830527 * ((m : Int) - 14) - 830527 = 4194304 - 830527 * (((m + 1 : Nat) : Int) - 14) := by omega
      rw [← e2]; exact b
  rcases h with ⟨h1, h2⟩ | ⟨h1, h2, h3⟩ | ⟨h1, h2, _⟩
  · by_cases e : n = 14
    · subst e
      refine hB 14 (by omega) (by omega) fun i hi => ?_
      have a := h2 i hi
      have b := tgt_bd k i
      refine ⟨by omega, ?_, ?_⟩ <;> omega
    · have a := ph_A k hs (B := 16777216 - 1048576 * (n : Int)) (by omega) h2
      exact .inl ⟨by omega, fun i hi => by have := a i hi; omega⟩
  · exact hB n h1 h2 h3
  · obtain ⟨r, _, z, _⟩ := reach k hs (rest_stays k hs h2)
    exact .inr (.inr ⟨by omega, r, z⟩)
end Go.Proofs.Ytkmelddejdikgaa
