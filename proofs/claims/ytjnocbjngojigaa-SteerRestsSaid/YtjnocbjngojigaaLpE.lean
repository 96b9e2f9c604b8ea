/-
  A turn of a body near to rest, plainly. No program in sight. How far a turn moves what is seen, plainly. No program in sight. Wheels that are led to targets which move, plainly. No program in sight. What a step of a body's acts leaves balanced. No program in sight. A tick of Rest, plainly. No program in sight. Ticks of Rest, one behind the other, plainly: the momentum is gone within 20. No program in sight. The loop: made. The loop: rested. Bodies at rest stay so. The statement on rest.
-/
import Derived.Test.YtjnocbjngojigaaBetV
import Derived.Test.YtjnocbjngojigaaBdP
import Derived.Test.YtjnocbjngojigaaQEq
import Derived.Test.YtjnocbjngojigaaBdR
import Derived.Test.YtjnocbjngojigaaBdD
import Derived.Test.YtjnocbjngojigaaLpB
import Derived.Test.YtjnocbjngojigaaStL
import Derived.Test.YtjnocbjngojigaaStF
import Derived.Test.YtjnocbjngojigaaStM
import Derived.Test.YtjnocbjngojigaaArg
set_option linter.unusedSimpArgs false
set_option linter.unusedVariables false
namespace Go.Proofs.Ytjnocbjngojigaa
open Go.RowKit PM Dt
set_option maxRecDepth 100000 in
theorem between_dot {u h : Nat → Int} (hIu : ∀ i, i < 4 → I64 (u i)) (vu : validQ u = true) (hv : smallB h 268435456 = true) :
    betF u (turnF u h) = qprodF (conjF u) (turnF u h) ∧ okQ u = true ∧ okQ (turnF u h) = true ∧ validQ (turnF u h) = true ∧ ∀ i, i < 4 → I64 (turnF u h i) := by
  have hh : smallB h 1073741824 = true := (smallB_iff h _).2 fun i hi => (sb_iff _ _).2 (by have := (sb_iff _ _).1 ((smallB_iff h _).1 hv i hi); omega)
  obtain ⟨ku, u1, u2⟩ := valid_nn hIu vu
  obtain ⟨t1, t2, tk, tz⟩ := turn_core hIu vu hh
  obtain ⟨_, kt, ⟨Nt, Pt, a1, a2, a3, a4, a5⟩, _⟩ := qun_core tk tz
  obtain ⟨vt, _⟩ := qun_valid tk tz
  obtain ⟨rk, r1, r2⟩ := rq_ok hh
  have rz : zQ (rq h) = false := by
    cases hz : zQ (rq h) with
    | false => rfl
    | true =>
      unfold zQ at hz
      rw [List.all_eq_true] at hz
      have := beq_iff_eq.1 (hz 0 (List.mem_range.2 (by omega)))
      exact absurd (show (1073741824 : Int) = 0 from this) (by decide)
  obtain ⟨re, rk', ⟨Nr, Pr, b1, b2, b3, b4, b5⟩, _⟩ := qun_core rk rz
  have cje := cj_eq ku
  have ck := cj_ok ku
  have hp : ∀ i, i < 4 → 1073741824 * qprodF u (rq h) i = pe u (rq h) i + (1073741824 * qprodF u (rq h) i - pe u (rq h) i) ∧ -536870912 ≤ 1073741824 * qprodF u (rq h) i - pe u (rq h) i ∧ 1073741824 * qprodF u (rq h) i - pe u (rq h) i ≤ 536870912 := fun i hi => by
    obtain ⟨e, h1, h2, h3⟩ := prod_err ku rk hi
    omega
  have hB : ∀ i, i < 4 → 1073741824 * qprodF (conjF u) (turnF u h) i = pe (cj u) (turnF u h) i + (1073741824 * qprodF (conjF u) (turnF u h) i - pe (cj u) (turnF u h) i) ∧ -536870912 ≤ 1073741824 * qprodF (conjF u) (turnF u h) i - pe (cj u) (turnF u h) i ∧ 1073741824 * qprodF (conjF u) (turnF u h) i - pe (cj u) (turnF u h) i ≤ 536870912 := fun i hi => by
    obtain ⟨e, h1, h2, h3⟩ := prod_err ck (g := turnF u h) (by rw [t2]; exact kt) hi
    have he : pe (conjF u) (turnF u h) i = pe (cj u) (turnF u h) i := by
      have e0 := cje 0 (by omega)
      have e1 := cje 1 (by omega)
      have e2 := cje 2 (by omega)
      have e3 := cje 3 (by omega)
      exact pe_l e0 e1 e2 e3 i
    rw [he] at h1
    omega
  have ht : ∀ i, i < 4 → 2 * (Nt * turnF u h i) = 2 * (1073741824 * (Pt * qprodF u (rq h) i)) + (2 * (Nt * turnF u h i) - 2 * (1073741824 * (Pt * qprodF u (rq h) i))) ∧ -Nt ≤ 2 * (Nt * turnF u h i) - 2 * (1073741824 * (Pt * qprodF u (rq h) i)) ∧ 2 * (Nt * turnF u h i) - 2 * (1073741824 * (Pt * qprodF u (rq h) i)) ≤ Nt := fun i hi => by
    obtain ⟨d, h1, h2, h3⟩ := a5 i hi
    rw [t2]
    generalize Nt * qunF (qprodF u (rq h)) i = X at *
    generalize Pt * qprodF u (rq h) i = Y at *
    omega
  have hr : ∀ i, i < 4 → 2 * (Nr * qunF (rq h) i) = 2 * (1073741824 * (Pr * rq h i)) + (2 * (Nr * qunF (rq h) i) - 2 * (1073741824 * (Pr * rq h i))) ∧ -Nr ≤ 2 * (Nr * qunF (rq h) i) - 2 * (1073741824 * (Pr * rq h i)) ∧ 2 * (Nr * qunF (rq h) i) - 2 * (1073741824 * (Pr * rq h i)) ≤ Nr := fun i hi => by
    obtain ⟨d, h1, h2, h3⟩ := b5 i hi
    generalize Nr * qunF (rq h) i = X at *
    generalize Pr * rq h i = Y at *
    omega
  have hRi : ∀ i, i < 4 → -1073741824 ≤ rq h i ∧ rq h i ≤ 1073741824 := fun i hi => by
    have b := fun j hj => (sb_iff _ _).1 ((smallB_iff h 1073741824).1 hh j hj)
    have : i = 0 ∨ i = 1 ∨ i = 2 ∨ i = 3 := by omega
    rcases this with rfl | rfl | rfl | rfl
    · show -1073741824 ≤ (1073741824 : Int) ∧ (1073741824 : Int) ≤ 1073741824
      omega
    · exact b 0 (by omega)
    · exact b 1 (by omega)
    · exact b 2 (by omega)
  obtain ⟨core, B0⟩ : (∀ i, i < 4 → qprodF (conjF u) (turnF u h) i ≤ qunF (rq h) i + 16 ∧ qunF (rq h) i ≤ qprodF (conjF u) (turnF u h) i + 16) ∧ 0 ≤ qprodF (conjF u) (turnF u h) 0 := by
    rcases Int.lt_or_le (nn u) (1073741824 * 1073741824) with hc | hc
    · exact between_lo u1 hc rfl hRi r1 r2 hp a2 a1 a3 a4 ht b2 b1 b3 b4 hr hB
    · exact between_hi hc u2 rfl hRi r1 r2 hp a2 a1 a3 a4 ht b2 b1 b3 b4 hr hB
  -- hRi r1 r2 hp a2 a1 a3 a4 ht b2 b1 b3 b4 hr hB
  have hbx : betF u (turnF u h) = qprodF (conjF u) (turnF u h) := by
    unfold betF betX
    have vt' : validQ (turnF u h) = true := by rw [t2]; exact vt
    rw [vu, vt']
    show (if qprodF (conjF u) (turnF u h) 0 < 0 then _ else _) = _
    rw [if_neg (Int.not_lt.2 B0)]
  have hbe : betE u (turnF u h) = 0 := by
    unfold betE
    rw [vu, t2, vt]; rfl
  exact ⟨hbx, ku, by rw [t2]; exact kt, by rw [t2]; exact (qun_valid tk tz).1, fun i hi => by rw [t2]; exact okQ_I kt i hi⟩
/-- How far a turn moves an attitude. -/
theorem turn_near {u h : Nat → Int} (hIu : ∀ i, i < 4 → I64 (u i)) (vu : validQ u = true) (hh : ∀ i, i < 3 → -10485760 ≤ h i ∧ h i ≤ 10485760) :
    validQ (turnF u h) = true ∧ (∀ i, i < 4 → I64 (turnF u h i)) ∧ nn (fun i => turnF u h i - u i) ≤ 18350080 * 18350080 := by
  have hv : smallB h 268435456 = true := (smallB_iff _ _).2 fun i hi => (sb_iff _ _).2 (by have := hh i hi; omega)
  have hv2 : smallB h 1073741824 = true := (smallB_iff _ _).2 fun i hi => (sb_iff _ _).2 (by have := hh i hi; omega)
  obtain ⟨hb, ku, kt, vt, It⟩ := between_dot hIu vu hv
  obtain ⟨_, _, _, _, _, cmp⟩ := between_valid hIu vu hv
  have c0 := (cmp 0 (by omega)).2.2.2
  rw [hb] at c0
  obtain ⟨_, ul, uu⟩ := valid_nn hIu vu
  obtain ⟨_, tl, tu⟩ := valid_nn It vt
  obtain ⟨rk, r1, r2⟩ := rq_ok hv2
  have rz : zQ (rq h) = false := by
    cases hz : zQ (rq h) with
    | false => rfl
    | true =>
      unfold zQ at hz
      rw [List.all_eq_true] at hz
      have := beq_iff_eq.1 (hz 0 (List.mem_range.2 (by omega)))
      exact absurd (show (1073741824 : Int) = 0 from this) (by decide)
  obtain ⟨_, _, ⟨N, P, n1, p1, n2, n3, n4⟩, _⟩ := qun_core rk rz
  obtain ⟨d, e1, e2, e3⟩ := n4 0 (by omega)
  have hn : nn (rq h) ≤ 1073895426 * 1073895426 := by
    have a := fun i hi => bmul (P := 10485760) (R := 10485760) (hh i hi).1 (hh i hi).2 (hh i hi).1 (hh i hi).2
    have a0 := a 0 (by omega); have a1 := a 1 (by omega); have a2 := a 2 (by omega)
    show 1073741824 * 1073741824 + h 0 * h 0 + h 1 * h 1 + h 2 * h 2 ≤ _
    omega
  have hN : N ≤ P * 1073895426 := by
    have h1 : N * N ≤ (P * 1073895426) * (P * 1073895426) := by
      have := Int.mul_le_mul_of_nonneg_left hn (sq_nn P)
      have e : (P * 1073895426) * (P * 1073895426) = P * P * (1073895426 * 1073895426) := by grind
      omega
    exact (abs_le_of_sq (by omega) h1).2
  have e1 : 2 * (N * qunF (rq h) 0) = 2 * (1073741824 * (P * 1073741824)) + d := e1
  have hu0 : 1073588220 ≤ qunF (rq h) 0 := by
    apply Classical.byContradiction; intro hc
    have h1 : N * qunF (rq h) 0 ≤ N * 1073588219 := Int.mul_le_mul_of_nonneg_left (by omega) (by omega)
    have h2 : N * 1073588219 ≤ (P * 1073895426) * 1073588219 := Int.mul_le_mul_of_nonneg_right hN (by omega)
    have h3 : (P * 1073895426) * 1073588219 = P * 1152921478030964694 := by grind
    omega
  obtain ⟨e, he, el, eu⟩ := prod_err (f := conjF u) (g := turnF u h) (cj_ok ku) kt (i := 0) (by omega)
  have cje := cj_eq ku
  have hd : pe (conjF u) (turnF u h) 0 = u 0 * turnF u h 0 + u 1 * turnF u h 1 + u 2 * turnF u h 2 + u 3 * turnF u h 3 := by
    have x0 := cje 0 (by omega); have x1 := cje 1 (by omega); have x2 := cje 2 (by omega); have x3 := cje 3 (by omega)
    simp only [pe]
    rw [x0, x1, x2, x3]
    simp only [cj]
    grind
  have hs : nn (fun i => turnF u h i - u i) = nn (turnF u h) + nn u - 2 * pe (conjF u) (turnF u h) 0 := by
    rw [hd]; unfold nn; grind
  rw [hs]
  refine ⟨vt, It, ?_⟩
  omega
end Go.Proofs.Ytjnocbjngojigaa
namespace Go.Proofs.Ytjnocbjngojigaa
open Go.RowKit PM Dt
/-- A vector that is seen, exactly. -/
theorem back_exact {Q v : Nat → Int} {V : Int} (hI : ∀ i, i < 4 → I64 (Q i)) (hq : validQ Q = true) (h0 : 0 ≤ V) (h1 : V ≤ 4194304) (hv : vv v ≤ V * V) {i : Nat} (hi : i < 3) :
    ∃ D, 1152921504606846976 * qbackF Q v i = ap (tr (qent Q)) v i + D ∧ -(1610612736 * V + 576460752303423488) ≤ D ∧ D ≤ 1610612736 * V + 576460752303423488 := by
  obtain ⟨ku, lo, hu⟩ := valid_nn hI hq
  have hM := vmat_ok hu
  have n0 : 0 ≤ nn Q := by omega
  have b := fun j (hj : j < 3) => vv_comp h0 hv hj
  have kv : okV v = true := (okV_iff v).2 fun i hi => (vb_iff _).2 (by have := b i hi; omega)
  have B := fun i (hi' : i < 3) => rot_bd (g := backX (qmatX Q) v) h0 h1 (mat_err' Q) (fun i hi => back_ap _ _ hi) n0 hu (qent_orth' Q v) hv hi'
  have kB : okV (backX (qmatX Q) v) = true := (okV_iff _).2 fun i hi => (vb_iff _).2 (by have := B i hi; omega)
  have eq : qbackF Q v = backX (qmatX Q) v := by unfold qbackF vbackF resF; rw [hq, hM, kv, kB]; rfl
  rw [eq]
  obtain ⟨e, hgi, le, ue⟩ := back_ap (qmatX Q) v hi
  obtain ⟨d0, m0, l0, u0⟩ := mat_err' Q (3 * i) (by omega)
  obtain ⟨d1, m1, l1, u1⟩ := mat_err' Q (3 * i + 1) (by omega)
  obtain ⟨d2, m2, l2, u2⟩ := mat_err' Q (3 * i + 2) (by omega)
  have p0 := bmul (P := 536870912) (R := V) l0 u0 (b 0 (by omega)).1 (b 0 (by omega)).2
  have p1 := bmul (P := 536870912) (R := V) l1 u1 (b 1 (by omega)).1 (b 1 (by omega)).2
  have p2 := bmul (P := 536870912) (R := V) l2 u2 (b 2 (by omega)).1 (b 2 (by omega)).2
  have key : 1073741824 * ap (tr (qmatX Q)) v i = ap (tr (qent Q)) v i + (d0 * v 0 + d1 * v 1 + d2 * v 2) := by
    unfold ap
    have a0 : 1073741824 * (tr (qmatX Q) (3 * i) * v 0) = (tr (qent Q) (3 * i) + d0) * v 0 := by rw [← m0]; grind
    have a1 : 1073741824 * (tr (qmatX Q) (3 * i + 1) * v 1) = (tr (qent Q) (3 * i + 1) + d1) * v 1 := by rw [← m1]; grind
    have a2 : 1073741824 * (tr (qmatX Q) (3 * i + 2) * v 2) = (tr (qent Q) (3 * i + 2) + d2) * v 2 := by rw [← m2]; grind
    grind
  refine ⟨d0 * v 0 + d1 * v 1 + d2 * v 2 + 1073741824 * e, ?_, ?_, ?_⟩ <;> omega
/-- A quadratic form of a quaternion: the product with itself, its parts moved and turned in sign. -/
theorem form_near {f g : Nat → Int} {F D : Int} (hF : 0 ≤ F) (hD : 0 ≤ D) (hf : nn f ≤ F * F) (hg : nn g ≤ F * F) (hd : nn (fun i => f i - g i) ≤ D * D) (s : (Nat → Int) → Nat → Int)
    (hs : ∀ x, nn (s x) = nn x) (hl : ∀ i, i < 4 → s (fun j => f j - g j) i = s f i - s g i) :
    -(2 * (F * D)) ≤ (f 0 * s f 0 + f 1 * s f 1 + f 2 * s f 2 + f 3 * s f 3) - (g 0 * s g 0 + g 1 * s g 1 + g 2 * s g 2 + g 3 * s g 3) ∧
      (f 0 * s f 0 + f 1 * s f 1 + f 2 * s f 2 + f 3 * s f 3) - (g 0 * s g 0 + g 1 * s g 1 + g 2 * s g 2 + g 3 * s g 3) ≤ 2 * (F * D) := by
  have cs : ∀ (x y : Nat → Int), nn x ≤ F * F → nn y ≤ D * D → -(F * D) ≤ x 0 * y 0 + x 1 * y 1 + x 2 * y 2 + x 3 * y 3 ∧ x 0 * y 0 + x 1 * y 1 + x 2 * y 2 + x 3 * y 3 ≤ F * D := fun x y hx hy => by
    refine abs_le_of_sq (Int.mul_nonneg hF hD) ?_
    have h := cauchy4 (x 0) (x 1) (x 2) (x 3) (y 0) (y 1) (y 2) (y 3)
    have h2 : nn x * nn y ≤ (F * F) * (D * D) := Int.mul_le_mul hx hy (nn_nonneg y) (Int.mul_nonneg hF hF)
    unfold nn at h2
    have e : F * D * (F * D) = F * F * (D * D) := by grind
    rw [e]
    exact Int.le_trans h h2
  have a := cs f (s fun j => f j - g j) hf (by rw [hs]; exact hd)
  have b := cs (s g) (fun j => f j - g j) (by rw [hs]; exact hg) hd
  rw [hl 0 (by omega), hl 1 (by omega), hl 2 (by omega), hl 3 (by omega)] at a
  have e1 : f 0 * s f 0 + f 1 * s f 1 + f 2 * s f 2 + f 3 * s f 3 - (g 0 * s g 0 + g 1 * s g 1 + g 2 * s g 2 + g 3 * s g 3) =
      (f 0 * (s f 0 - s g 0) + f 1 * (s f 1 - s g 1) + f 2 * (s f 2 - s g 2) + f 3 * (s f 3 - s g 3)) + (s g 0 * (f 0 - g 0) + s g 1 * (f 1 - g 1) + s g 2 * (f 2 - g 2) + s g 3 * (f 3 - g 3)) := by grind
  rw [e1]
  generalize f 0 * (s f 0 - s g 0) + f 1 * (s f 1 - s g 1) + f 2 * (s f 2 - s g 2) + f 3 * (s f 3 - s g 3) = A1 at *
  have b' : -(F * D) ≤ s g 0 * (f 0 - g 0) + s g 1 * (f 1 - g 1) + s g 2 * (f 2 - g 2) + s g 3 * (f 3 - g 3) ∧ s g 0 * (f 0 - g 0) + s g 1 * (f 1 - g 1) + s g 2 * (f 2 - g 2) + s g 3 * (f 3 - g 3) ≤ F * D := b
  omega
theorem ent_near {f g : Nat → Int} {F D : Int} (hF : 0 ≤ F) (hD : 0 ≤ D) (hf : nn f ≤ F * F) (hg : nn g ≤ F * F) (hd : nn (fun i => f i - g i) ≤ D * D) : ∀ j, j < 9 → -(2 * (F * D)) ≤ qent f j - qent g j ∧ qent f j - qent g j ≤ 2 * (F * D) := fun j hj => by
  rcases (show j = 0 ∨ j = 1 ∨ j = 2 ∨ j = 3 ∨ j = 4 ∨ j = 5 ∨ j = 6 ∨ j = 7 ∨ j = 8 by omega) with rfl | rfl | rfl | rfl | rfl | rfl | rfl | rfl | rfl
  · have h := form_near hF hD hf hg hd (fun f => of4 (f 0) (f 1) (-f 2) (-f 3)) (fun x => by unfold nn; simp only [of4]; grind) (fun i hi => by rcases (show i = 0 ∨ i = 1 ∨ i = 2 ∨ i = 3 by omega) with rfl | rfl | rfl | rfl <;> simp only [of4] <;> omega)
    simp only [of4] at h
    simp only [qent]
    grind
  · have h := form_near hF hD hf hg hd (fun f => of4 (-f 3) (f 2) (f 1) (-f 0)) (fun x => by unfold nn; simp only [of4]; grind) (fun i hi => by rcases (show i = 0 ∨ i = 1 ∨ i = 2 ∨ i = 3 by omega) with rfl | rfl | rfl | rfl <;> simp only [of4] <;> omega)
    simp only [of4] at h
    simp only [qent]
    grind
  · have h := form_near hF hD hf hg hd (fun f => of4 (f 2) (f 3) (f 0) (f 1)) (fun x => by unfold nn; simp only [of4]; grind) (fun i hi => by rcases (show i = 0 ∨ i = 1 ∨ i = 2 ∨ i = 3 by omega) with rfl | rfl | rfl | rfl <;> simp only [of4] <;> omega)
    simp only [of4] at h
    simp only [qent]
    grind
  · have h := form_near hF hD hf hg hd (fun f => of4 (f 3) (f 2) (f 1) (f 0)) (fun x => by unfold nn; simp only [of4]; grind) (fun i hi => by rcases (show i = 0 ∨ i = 1 ∨ i = 2 ∨ i = 3 by omega) with rfl | rfl | rfl | rfl <;> simp only [of4] <;> omega)
    simp only [of4] at h
    simp only [qent]
    grind
  · have h := form_near hF hD hf hg hd (fun f => of4 (f 0) (-f 1) (f 2) (-f 3)) (fun x => by unfold nn; simp only [of4]; grind) (fun i hi => by rcases (show i = 0 ∨ i = 1 ∨ i = 2 ∨ i = 3 by omega) with rfl | rfl | rfl | rfl <;> simp only [of4] <;> omega)
    simp only [of4] at h
    simp only [qent]
    grind
  · have h := form_near hF hD hf hg hd (fun f => of4 (-f 1) (-f 0) (f 3) (f 2)) (fun x => by unfold nn; simp only [of4]; grind) (fun i hi => by rcases (show i = 0 ∨ i = 1 ∨ i = 2 ∨ i = 3 by omega) with rfl | rfl | rfl | rfl <;> simp only [of4] <;> omega)
    simp only [of4] at h
    simp only [qent]
    grind
  · have h := form_near hF hD hf hg hd (fun f => of4 (-f 2) (f 3) (-f 0) (f 1)) (fun x => by unfold nn; simp only [of4]; grind) (fun i hi => by rcases (show i = 0 ∨ i = 1 ∨ i = 2 ∨ i = 3 by omega) with rfl | rfl | rfl | rfl <;> simp only [of4] <;> omega)
    simp only [of4] at h
    simp only [qent]
    grind
  · have h := form_near hF hD hf hg hd (fun f => of4 (f 1) (f 0) (f 3) (f 2)) (fun x => by unfold nn; simp only [of4]; grind) (fun i hi => by rcases (show i = 0 ∨ i = 1 ∨ i = 2 ∨ i = 3 by omega) with rfl | rfl | rfl | rfl <;> simp only [of4] <;> omega)
    simp only [of4] at h
    simp only [qent]
    grind
  · have h := form_near hF hD hf hg hd (fun f => of4 (f 0) (-f 1) (-f 2) (f 3)) (fun x => by unfold nn; simp only [of4]; grind) (fun i hi => by rcases (show i = 0 ∨ i = 1 ∨ i = 2 ∨ i = 3 by omega) with rfl | rfl | rfl | rfl <;> simp only [of4] <;> omega)
    simp only [of4] at h
    simp only [qent]
    grind
/-- How far what is seen moves, when a body near to rest is turned. -/
theorem back_near {Q T l : Nat → Int} (hI : ∀ i, i < 4 → I64 (Q i)) (hq : validQ Q = true) (hT : allB T = true) (hl : ∀ i, i < 3 → -5242880 ≤ l i ∧ l i ≤ 5242880) {i : Nat} (hi : i < 3) :
    -108000 ≤ qbackF (attG Q l) T i - qbackF Q T i ∧ qbackF (attG Q l) T i - qbackF Q T i ≤ 108000 := by
  unfold attG
  split
  · omega
  · obtain ⟨vt, It, hd⟩ := turn_near (h := mulF 2 l) hI hq (fun i hi => by have := hl i hi; unfold mulF; omega)
    generalize turnF Q (mulF 2 l) = R at *
    obtain ⟨b3, bv⟩ := allB_bd hT
    obtain ⟨_, _, u1⟩ := valid_nn hI hq
    obtain ⟨_, _, u2⟩ := valid_nn It vt
    obtain ⟨d1, x1, y1, z1⟩ := back_exact hI hq (V := 1048576) (by decide) (by decide) bv hi
    obtain ⟨d2, x2, y2, z2⟩ := back_exact It vt (V := 1048576) (by decide) (by decide) bv hi
    have e := ent_near (f := R) (g := Q) (F := 1073741829) (D := 18350080) (by decide) (by decide) (by omega) (by omega) hd
    have m := fun j (hj : j < 9) k (hk : k < 3) => bmul (P := 39406496922992640) (R := 1048576) (a := qent R j - qent Q j) (b := T k) (by have := e j hj; omega) (by have := e j hj; omega) (b3 k hk).1 (b3 k hk).2
    have key : -123964014000000000000000 ≤ ap (tr (qent R)) T i - ap (tr (qent Q)) T i ∧ ap (tr (qent R)) T i - ap (tr (qent Q)) T i ≤ 123964014000000000000000 := by
      rcases (show i = 0 ∨ i = 1 ∨ i = 2 by omega) with rfl | rfl | rfl
      · have a := m 0 (by omega) 0 (by omega); have b := m 3 (by omega) 1 (by omega); have c := m 6 (by omega) 2 (by omega)
        have h : ap (tr (qent R)) T 0 - ap (tr (qent Q)) T 0 = (qent R 0 - qent Q 0) * T 0 + (qent R 3 - qent Q 3) * T 1 + (qent R 6 - qent Q 6) * T 2 := by
          show (qent R 0 * T 0 + qent R 3 * T 1 + qent R 6 * T 2) - (qent Q 0 * T 0 + qent Q 3 * T 1 + qent Q 6 * T 2) = _; grind
        rw [h]; omega
      · have a := m 1 (by omega) 0 (by omega); have b := m 4 (by omega) 1 (by omega); have c := m 7 (by omega) 2 (by omega)
        have h : ap (tr (qent R)) T 1 - ap (tr (qent Q)) T 1 = (qent R 1 - qent Q 1) * T 0 + (qent R 4 - qent Q 4) * T 1 + (qent R 7 - qent Q 7) * T 2 := by
          show (qent R 1 * T 0 + qent R 4 * T 1 + qent R 7 * T 2) - (qent Q 1 * T 0 + qent Q 4 * T 1 + qent Q 7 * T 2) = _; grind
        rw [h]; omega
      · have a := m 2 (by omega) 0 (by omega); have b := m 5 (by omega) 1 (by omega); have c := m 8 (by omega) 2 (by omega)
        have h : ap (tr (qent R)) T 2 - ap (tr (qent Q)) T 2 = (qent R 2 - qent Q 2) * T 0 + (qent R 5 - qent Q 5) * T 1 + (qent R 8 - qent Q 8) * T 2 := by
          show (qent R 2 * T 0 + qent R 5 * T 1 + qent R 8 * T 2) - (qent Q 2 * T 0 + qent Q 5 * T 1 + qent Q 8 * T 2) = _; grind
        rw [h]; omega
    omega
end Go.Proofs.Ytjnocbjngojigaa
namespace Go.Proofs.Ytjnocbjngojigaa
open Go.RowKit PM Dt
theorem frW_pos {h : Int} (hh : 0 ≤ h) : 0 ≤ frW h ∧ 1024 * frW h ≤ h := by
  unfold frW; rw [Int.tdiv_eq_ediv_of_nonneg hh]; omega
theorem frW_npos {h : Int} (hh : h ≤ 0) : frW h ≤ 0 ∧ h ≤ 1024 * frW h := by
  have := frW_pos (h := -h) (by omega)
  have e := frW_neg h
  omega
theorem stp_cases {h P : Int} (hh : -16777216 ≤ h ∧ h ≤ 16777216) (hP : -2097152 ≤ P ∧ P ≤ 2097152) :
    (-1048576 ≤ P - h + frW h ∧ P - h + frW h ≤ 1048576 ∧ stpX h (cmdX h P) = P) ∨ (1048576 < P - h + frW h ∧ stpX h (cmdX h P) = h - frW h + 1048576) ∨ (P - h + frW h < -1048576 ∧ stpX h (cmdX h P) = h - frW h - 1048576) := by
  have hc : cmdX h P = P - h + frW h := by unfold cmdX; rw [clampW_id (by omega)]
  have f1 : 0 ≤ h → 0 ≤ frW h ∧ 1024 * frW h ≤ h := frW_pos
  have f2 : h ≤ 0 → frW h ≤ 0 ∧ h ≤ 1024 * frW h := frW_npos
  unfold stpX
  rw [hc]
  by_cases h1 : P - h + frW h < -1048576
  · refine .inr (.inr ⟨h1, ?_⟩)
    have e : clampV (P - h + frW h) (-1048576) 1048576 = -1048576 := by unfold clampV; rw [if_pos h1]; rfl
    rw [e, clampW_id (by omega)]; omega
  · by_cases h2 : 1048576 < P - h + frW h
    · refine .inr (.inl ⟨h2, ?_⟩)
      have e : clampV (P - h + frW h) (-1048576) 1048576 = 1048576 := by unfold clampV; rw [if_neg h1, if_pos h2]
      rw [e, clampW_id (by omega)]
    · refine .inl ⟨by omega, by omega, ?_⟩
      rw [clampT_id (by omega), show h - frW h + (P - h + frW h) = P by omega, clampW_id (by omega)]
/-- Far away: a wheel comes nearer to the band. -/
theorem wheel_band {h P B : Int} (hB : 2097152 ≤ B ∧ B ≤ 16777216) (hh : -B ≤ h ∧ h ≤ B) (hP : -2097152 ≤ P ∧ P ≤ 2097152) :
    (-2097152 ≤ stpX h (cmdX h P) ∧ stpX h (cmdX h P) ≤ 2097152) ∨ (-(B - 1048576) ≤ stpX h (cmdX h P) ∧ stpX h (cmdX h P) ≤ B - 1048576) := by
  have f1 : 0 ≤ h → 0 ≤ frW h ∧ 1024 * frW h ≤ h := frW_pos
  have f2 : h ≤ 0 → frW h ≤ 0 ∧ h ≤ 1024 * frW h := frW_npos
  rcases stp_cases (h := h) (P := P) (by omega) hP with ⟨_, _, e⟩ | ⟨a, e⟩ | ⟨a, e⟩ <;> rw [e] <;> omega
/-- In the band: a wheel comes nearer to its target, or reaches it. -/
theorem wheel_near {h P E : Int} (hh : -2097152 ≤ h ∧ h ≤ 2097152) (hP : -2097152 ≤ P ∧ P ≤ 2097152) (hE : -E ≤ h - P ∧ h - P ≤ E) :
    (E ≤ 1046528 → stpX h (cmdX h P) = P) ∧ (stpX h (cmdX h P) = P ∨ (-(E - 1046528) ≤ stpX h (cmdX h P) - P ∧ stpX h (cmdX h P) - P ≤ E - 1046528)) ∧ -2097152 ≤ stpX h (cmdX h P) ∧ stpX h (cmdX h P) ≤ 2097152 := by
  have f1 : 0 ≤ h → 0 ≤ frW h ∧ 1024 * frW h ≤ h := frW_pos
  have f2 : h ≤ 0 → frW h ≤ 0 ∧ h ≤ 1024 * frW h := frW_npos
  rcases stp_cases (h := h) (P := P) (by omega) hP with ⟨_, _, e⟩ | ⟨a, e⟩ | ⟨a, e⟩ <;> rw [e] <;> refine ⟨fun hx => ?_, ?_, ?_⟩ <;> omega
theorem allocZ_congr {d e : Nat → Int} {f : Int} (h : ∀ i, i < 3 → d i = e i) (hf : isW f = true) : allocZ d f = allocZ e f := by
  simp only [isW, Bool.and_eq_true, decide_eq_true_eq] at hf
  unfold allocZ spanZ
  rw [h 0 (by omega), h 1 (by omega), h 2 (by omega)]
  split
  · rfl
  · split
    · rfl
    · exact h _ (by omega)
theorem allocF_congr {d e : Nat → Int} {f : Int} (h : ∀ i, i < 3 → d i = e i) (hf : isW f = true) : allocF d f = allocF e f := by
  have hz := allocZ_congr h hf
  funext i
  match i with
  | 0 => show d 0 - allocZ d f = e 0 - allocZ e f; rw [hz, h 0 (by omega)]
  | 1 => show d 1 - allocZ d f = e 1 - allocZ e f; rw [hz, h 1 (by omega)]
  | 2 => show d 2 - allocZ d f = e 2 - allocZ e f; rw [hz, h 2 (by omega)]
  | (n + 3) => exact hz
/-- Targets move with what they share out, at most twice as far and by one. -/
theorem allocF_near {d e : Nat → Int} {f D : Int} (hD : 0 ≤ D) (h : ∀ i, i < 3 → -D ≤ d i - e i ∧ d i - e i ≤ D) (hf : isW f = true) : ∀ i, -(2 * D + 1) ≤ allocF d f i - allocF e f i ∧ allocF d f i - allocF e f i ≤ 2 * D + 1 := fun i => by
  have h0 := h 0 (by omega); have h1 := h 1 (by omega); have h2 := h 2 (by omega)
  have hz : -(D + 1) ≤ allocZ d f - allocZ e f ∧ allocZ d f - allocZ e f ≤ D + 1 := by
    simp only [isW, Bool.and_eq_true, decide_eq_true_eq] at hf
    unfold allocZ
    split
    · have mxn : -D ≤ [d 1, d 2, 0].foldl mx (d 0) - [e 1, e 2, 0].foldl mx (e 0) ∧ [d 1, d 2, 0].foldl mx (d 0) - [e 1, e 2, 0].foldl mx (e 0) ≤ D := by
        simp only [List.foldl_cons, List.foldl_nil]
        have m : ∀ a b c g : Int, -D ≤ a - b → a - b ≤ D → -D ≤ c - g → c - g ≤ D → -D ≤ mx a c - mx b g ∧ mx a c - mx b g ≤ D := fun a b c g p q r s => by unfold mx; split <;> split <;> omega
        have a := m _ _ _ _ h0.1 h0.2 h1.1 h1.2
        have b := m _ _ _ _ a.1 a.2 h2.1 h2.2
        exact m _ _ 0 0 b.1 b.2 (by omega) (by omega)
      have mnn : -D ≤ [d 1, d 2, 0].foldl mn (d 0) - [e 1, e 2, 0].foldl mn (e 0) ∧ [d 1, d 2, 0].foldl mn (d 0) - [e 1, e 2, 0].foldl mn (e 0) ≤ D := by
        simp only [List.foldl_cons, List.foldl_nil]
        have m : ∀ a b c g : Int, -D ≤ a - b → a - b ≤ D → -D ≤ c - g → c - g ≤ D → -D ≤ mn a c - mn b g ∧ mn a c - mn b g ≤ D := fun a b c g p q r s => by unfold mn; split <;> split <;> omega
        have a := m _ _ _ _ h0.1 h0.2 h1.1 h1.2
        have b := m _ _ _ _ a.1 a.2 h2.1 h2.2
        exact m _ _ 0 0 b.1 b.2 (by omega) (by omega)
      unfold spanZ; omega
    · split
      · omega
      · have := h f.toNat (by omega); omega
  match i with
  | 0 => show -(2 * D + 1) ≤ d 0 - allocZ d f - (e 0 - allocZ e f) ∧ d 0 - allocZ d f - (e 0 - allocZ e f) ≤ 2 * D + 1; omega
  | 1 => show -(2 * D + 1) ≤ d 1 - allocZ d f - (e 1 - allocZ e f) ∧ d 1 - allocZ d f - (e 1 - allocZ e f) ≤ 2 * D + 1; omega
  | 2 => show -(2 * D + 1) ≤ d 2 - allocZ d f - (e 2 - allocZ e f) ∧ d 2 - allocZ d f - (e 2 - allocZ e f) ≤ 2 * D + 1; omega
  | (n + 3) => show -(2 * D + 1) ≤ allocZ d f - allocZ e f ∧ allocZ d f - allocZ e f ≤ 2 * D + 1; omega
end Go.Proofs.Ytjnocbjngojigaa
namespace Go.Proofs.Ytjnocbjngojigaa
open Go.RowKit PM Dt
theorem vadd_ok {f g : Nat → Int} (hf : ∀ i, i < 3 → -4194304 ≤ f i ∧ f i ≤ 4194304) (hg : ∀ i, i < 3 → -4194304 ≤ g i ∧ g i ≤ 4194304) : vaddE f g = 0 ∧ ∀ i, vaddF f g i = f i + g i := by
  have k1 : okV f = true := (okV_iff _).2 fun i hi => (vb_iff _).2 (by have := hf i hi; omega)
  have k2 : okV g = true := (okV_iff _).2 fun i hi => (vb_iff _).2 (by have := hg i hi; omega)
  have k3 : okV (addF f g) = true := (okV_iff _).2 fun i hi => (vb_iff _).2 (by have := hf i hi; have := hg i hi; unfold addF; omega)
  unfold vaddE vaddF resE resF
  rw [k1, k2, k3]
  exact ⟨rfl, fun i => rfl⟩
end Go.Proofs.Ytjnocbjngojigaa
namespace Go.Proofs.Ytjnocbjngojigaa
open Go.RowKit PM Dt
/-- Where the wheels shall go. -/
def tgt (X : BSt) : Nat → Int := allocF (qbackF X.Q X.T) X.f
structure RI (X : BSt) (S : SSt) : Prop where
  b : BI X
  s : SSI S
  z : ∀ i : Nat, i < 4 → (i : Int) = X.f → X.h i = 0
  d : ∀ i, i < 3 → S.D i = 0
theorem RI.w {X : BSt} {S : SSt} (k : RI X S) : isW X.f = true := by
  have := k.b.s.l; have := k.b.s.u
  unfold isW; rw [decide_eq_true (by omega), decide_eq_true (by omega)]; rfl
theorem RI.new {X : BSt} {S : SSt} (k : RI X S) : newB X.h X.f = true := newB_of k.w k.b.s.b k.z
theorem stD_zero {S : SSt} (hd : ∀ i, i < 3 → S.D i = 0) (a : Bool) {i : Nat} (hi : i < 3) : stD a S (fun _ => 0) i = 0 := by
  unfold stD
  cases a
  · exact hd i hi
  · show S.D i + clampV (0 - S.D i) (-262144) 262144 = 0
    rw [hd i hi]; decide
theorem tgt_bd {X : BSt} {S : SSt} (k : RI X S) : ∀ i, -2097152 ≤ tgt X i ∧ tgt X i ≤ 2097152 := fun i => by
  obtain ⟨_, hm⟩ := momG_eq k.b.q k.b.v k.b.t k.b.s
  have := allocF_bd (m := 1048576) (by decide) (fun i hi => (hm i hi).1) k.w i
  unfold tgt; omega
/-- The command of Rest leads to the targets. -/
theorem rest_cmd {X : BSt} {S : SSt} (k : RI X S) (sun : Nat → Int) : stC S (senseV X sun) (fun _ => 0) = cmdF X.h X.f (tgt X) := by
  obtain ⟨_, hm⟩ := momG_eq k.b.q k.b.v k.b.t k.b.s
  have hr : ∀ i, i < 3 → rstF (senseV X sun) (stD (arrB S (senseV X sun)) S fun _ => 0) i = qbackF X.Q X.T i := fun i hi => by
    have h1 := (hm i hi).2
    have h2 := stD_zero k.d (arrB S (senseV X sun)) hi
    show sumW X.h i + ((4 * momF X i) / 4 - stD (arrB S (senseV X sun)) S (fun _ => 0) i) = _
    rw [h2]
    have h3 : momF X i = qbackF X.Q X.T i - sumW X.h i := h1
    rw [h3]; omega
  have hok : okV (rstF (senseV X sun) (stD (arrB S (senseV X sun)) S fun _ => 0)) = true := (okV_iff _).2 fun i hi => (vb_iff _).2 (by rw [hr i hi]; have := (hm i hi).1; omega)
  unfold stC stP allF
  rw [hok, show isW (senseV X sun).f = true from k.w]
  show cmdF X.h X.f (allocF _ X.f) = _
  rw [allocF_congr hr k.w]
  rfl
theorem rtB_eq {X : BSt} {S : SSt} (k : RI X S) {sun : Nat → Int} (hs : senseOk (senseV X sun) = true) : rtB X S sun = tickX X (cmdF X.h X.f (tgt X)) (fun _ => 0) := by
  unfold rtB restC
  rw [if_pos hs, rest_cmd k sun]
theorem z_small : smallB (fun _ => 0) 1048576 = true := by decide
/-- The speeds behind a tick. -/
theorem rt_h {X : BSt} {S : SSt} (k : RI X S) {sun : Nat → Int} (hs : senseOk (senseV X sun) = true) (i : Nat) : (rtB X S sun).h i = if (i : Int) = X.f then X.h i else stpX (X.h i) (cmdX (X.h i) (tgt X i)) := by
  rw [rtB_eq k hs]
  unfold tickX
  rw [if_pos z_small]
  show stpF X.h X.f (cmdF X.h X.f (tgt X)) i = _
  unfold stpF
  split
  · rfl
  · rename_i h
    show stpX (X.h i) (cmdF X.h X.f (tgt X) i) = _
    unfold cmdF
    rw [if_neg h]
theorem rt_f {X : BSt} {S : SSt} (k : RI X S) {sun : Nat → Int} (hs : senseOk (senseV X sun) = true) : (rtB X S sun).f = X.f := by
  rw [rtB_eq k hs]; unfold tickX; rw [if_pos z_small]
theorem rt_Q {X : BSt} {S : SSt} (k : RI X S) {sun : Nat → Int} (hs : senseOk (senseV X sun) = true) : (rtB X S sun).Q = attG X.Q (momG X.Q X.T (rtB X S sun).h) := by
  rw [rtB_eq k hs]; unfold tickX; rw [if_pos z_small]; rfl
theorem rt_T {X : BSt} {S : SSt} (k : RI X S) {sun : Nat → Int} (hs : senseOk (senseV X sun) = true) : ∀ i, i < 3 → (rtB X S sun).T i = X.T i := fun i hi => by
  rw [rtB_eq k hs]
  have hD : ∀ i, i < 3 → tickD X (cmdF X.h X.f (tgt X)) (fun _ => 0) i = 0 := fun i hi => by
    obtain ⟨qI, qv⟩ := k.b.att (cmdF X.h X.f (tgt X))
    obtain ⟨_, _, hb⟩ := valid_back qI qv (by decide) (by decide) (vv0 (v := fun _ => 0) (fun i hi => rfl))
    have := (hb i hi).2
    unfold tickD; omega
  have bT := fun i hi => (allB_bd k.b.t).1 i hi
  obtain ⟨_, hv⟩ := vadd_ok (f := X.T) (g := tickD X (cmdF X.h X.f (tgt X)) (fun _ => 0)) (fun i hi => by have := bT i hi; omega) (fun i hi => by rw [hD i hi]; decide)
  unfold tickX
  rw [if_pos z_small]
  show (if allB (tickS X (cmdF X.h X.f (tgt X)) fun _ => 0) = true then tickS X (cmdF X.h X.f (tgt X)) (fun _ => 0) else X.T) i = X.T i
  split
  · show vaddF X.T (tickD X (cmdF X.h X.f (tgt X)) fun _ => 0) i = _
    rw [hv i, hD i hi]; omega
  · rfl
/-- What a tick of Rest keeps. -/
theorem RI.tick {X : BSt} {S : SSt} (k : RI X S) {sun : Nat → Int} (hs : senseOk (senseV X sun) = true) : RI (rtB X S sun) (restX S (senseV X sun)) := by
  refine ⟨?_, (restX_S k.s _).1, fun i hi e => ?_, fun i hi => ?_⟩
  · unfold rtB; exact k.b.tick _ _
  · rw [rt_f k hs] at e
    rw [rt_h k hs, if_pos e]; exact k.z i hi e
  · unfold restX; rw [if_pos hs]; exact stD_zero k.d _ hi
end Go.Proofs.Ytjnocbjngojigaa
namespace Go.Proofs.Ytjnocbjngojigaa
open Go.RowKit PM Dt
theorem rot_wide {E M u v g : Nat → Int} {V : Int} (h0 : 0 ≤ V) (hM : ∀ j, j < 9 → ∃ d, 1073741824 * M j = E j + d ∧ -536870912 ≤ d ∧ d ≤ 536870912)
    (hg : ∀ i, i < 3 → ∃ e, 1073741824 * g i = ap M v i + e ∧ -536870912 ≤ e ∧ e ≤ 536870912) (hn0 : 0 ≤ nn u) (hn : nn u < 1073741829 * 1073741829)
    (hF : vv (ap E v) = nn u * nn u * vv v) (hv : vv v ≤ V * V) {i : Nat} (hi : i < 3) : -(9 * V + 8) ≤ 8 * g i ∧ 8 * g i ≤ 9 * V + 8 := by
  have b := fun j (hj : j < 3) => vv_comp h0 hv hj
  have hFi : -(nn u * V) ≤ ap E v i ∧ ap E v i ≤ nn u * V := by
    refine vv_comp (v := ap E v) (Int.mul_nonneg hn0 h0) ?_ hi
    rw [hF]
    have := Int.mul_le_mul_of_nonneg_left hv (Int.mul_nonneg hn0 hn0)
    have e : nn u * nn u * (V * V) = nn u * V * (nn u * V) := by grind
    omega
  have hnV : nn u * V ≤ 1152921515344265241 * V := Int.mul_le_mul_of_nonneg_right (by omega) h0
  obtain ⟨d0, m0, l0, u0⟩ := hM (3 * i) (by omega)
  obtain ⟨d1, m1, l1, u1⟩ := hM (3 * i + 1) (by omega)
  obtain ⟨d2, m2, l2, u2⟩ := hM (3 * i + 2) (by omega)
  obtain ⟨e, hgi, le, ue⟩ := hg i hi
  have p0 := bmul (P := 536870912) (R := V) l0 u0 (b 0 (by omega)).1 (b 0 (by omega)).2
  have p1 := bmul (P := 536870912) (R := V) l1 u1 (b 1 (by omega)).1 (b 1 (by omega)).2
  have p2 := bmul (P := 536870912) (R := V) l2 u2 (b 2 (by omega)).1 (b 2 (by omega)).2
  have key : 1073741824 * ap M v i = ap E v i + (d0 * v 0 + d1 * v 1 + d2 * v 2) := by
    unfold ap
    have a0 : 1073741824 * (M (3 * i) * v 0) = (E (3 * i) + d0) * v 0 := by rw [← m0]; grind
    have a1 : 1073741824 * (M (3 * i + 1) * v 1) = (E (3 * i + 1) + d1) * v 1 := by rw [← m1]; grind
    have a2 : 1073741824 * (M (3 * i + 2) * v 2) = (E (3 * i + 2) + d2) * v 2 := by rw [← m2]; grind
    grind
  generalize d0 * v 0 = D0 at *
  generalize d1 * v 1 = D1 at *
  generalize d2 * v 2 = D2 at *
  generalize nn u * V = NV at *
  generalize ap M v i = X at *
  generalize ap E v i = Y at *
  generalize g i = G at *
  have hh : 1152921504606846976 * G = Y + (D0 + D1 + D2) + 1073741824 * e := by omega
  omega
theorem qback_wide {Q v : Nat → Int} (hI : ∀ i, i < 4 → I64 (Q i)) (hq : validQ Q = true) (hv : ∀ i, i < 3 → -1073741824 ≤ v i ∧ v i ≤ 1073741824) (hvv : vv v ≤ 1073741828 * 1073741828) {i : Nat} (hi : i < 3) : -2147483648 ≤ qbackF Q v i ∧ qbackF Q v i ≤ 2147483648 := by
  obtain ⟨ku, lo, hu⟩ := valid_nn hI hq
  have hM := vmat_ok hu
  have kv : okV v = true := (okV_iff v).2 fun i hi => (vb_iff _).2 (by have := hv i hi; omega)
  have B := fun i (hi' : i < 3) => rot_wide (g := backX (qmatX Q) v) (V := 1073741828) (by decide) (mat_err' Q) (fun i hi => back_ap _ _ hi) (by omega) hu (qent_orth' Q v) hvv hi'
  have kB : okV (backX (qmatX Q) v) = true := (okV_iff _).2 fun i hi => (vb_iff _).2 (by have := B i hi; omega)
  have eq : qbackF Q v = backX (qmatX Q) v := by unfold qbackF vbackF resF; rw [hq, hM, kv, kB]; rfl
  rw [eq]
  have := B i hi
  omega
theorem qback_congr (Q : Nat → Int) {v w : Nat → Int} (h : ∀ i, i < 3 → v i = w i) : qbackF Q v = qbackF Q w := by
  have hx : ∀ g, backX g v = backX g w := fun g => by
    funext i
    unfold backX d3
    rw [h 0 (by omega), h 1 (by omega), h 2 (by omega)]
  have ho : okV v = okV w := by unfold okV; rw [h 0 (by omega), h 1 (by omega), h 2 (by omega)]
  unfold qbackF vbackF
  rw [hx, ho]
/-- At rest: the wheels are where they shall go. -/
def R0 (X : BSt) : Prop := ∀ i, i < 4 → X.h i = tgt X i
theorem tgt_sum (X : BSt) {h : Nat → Int} (e : ∀ i, i < 4 → h i = tgt X i) {i : Nat} (hi : i < 3) : sumW h i = qbackF X.Q X.T i := by
  have := allocF_sum (qbackF X.Q X.T) X.f hi
  unfold sumW at this ⊢
  rw [e i (by omega), e 3 (by omega)]
  exact this
/-- Wheels that reach their targets leave the body at rest. -/
theorem reach {X : BSt} {S : SSt} (k : RI X S) {sun : Nat → Int} (hs : senseOk (senseV X sun) = true) (hh : ∀ i, i < 4 → (rtB X S sun).h i = tgt X i) :
    R0 (rtB X S sun) ∧ (rtB X S sun).Q = X.Q ∧ (∀ i, i < 3 → momF (rtB X S sun) i = 0) ∧ ∀ i, i < 3 → ownF X (rtB X S sun).h i = 0 := by
  have k' := k.tick hs
  have hS := k'.b.s
  rw [rt_f k hs] at hS
  obtain ⟨_, hm⟩ := momG_eq k.b.q k.b.v k.b.t hS
  have hl : ∀ i, i < 3 → momG X.Q X.T (rtB X S sun).h i = 0 := fun i hi => by
    rw [(hm i hi).2, tgt_sum X hh hi]; omega
  have hQ : (rtB X S sun).Q = X.Q := by
    rw [rt_Q k hs]; unfold attG; rw [if_pos (zV_of hl)]
  have hb : qbackF (rtB X S sun).Q (rtB X S sun).T = qbackF X.Q X.T := by rw [hQ]; exact qback_congr _ (rt_T k hs)
  have ht : tgt (rtB X S sun) = tgt X := by unfold tgt; rw [hb, rt_f k hs]
  refine ⟨fun i hi => by rw [ht]; exact hh i hi, hQ, fun i hi => ?_, hl⟩
  show momG (rtB X S sun).Q (rtB X S sun).T (rtB X S sun).h i = 0
  unfold momG
  rw [hb]
  exact hl i hi
theorem rest_stays {X : BSt} {S : SSt} (k : RI X S) {sun : Nat → Int} (hs : senseOk (senseV X sun) = true) (r : R0 X) : ∀ i, i < 4 → (rtB X S sun).h i = tgt X i := fun i hi => by
  rw [rt_h k hs]
  split
  · exact r i hi
  · have hP := tgt_bd k i
    have e := r i hi
    have hf := frW_bd (h := X.h i) (by rw [e]; omega)
    rcases stp_cases (h := X.h i) (P := tgt X i) (by rw [e]; omega) hP with ⟨_, _, c⟩ | ⟨a, _⟩ | ⟨a, _⟩
    · exact c
    · omega
    · omega
/-- Far away. -/
theorem ph_A {X : BSt} {S : SSt} (k : RI X S) {sun : Nat → Int} (hs : senseOk (senseV X sun) = true) {B : Int} (hB : 3145728 ≤ B ∧ B ≤ 16777216) (h : ∀ i, i < 4 → -B ≤ X.h i ∧ X.h i ≤ B) :
    ∀ i, i < 4 → -(B - 1048576) ≤ (rtB X S sun).h i ∧ (rtB X S sun).h i ≤ B - 1048576 := fun i hi => by
  rw [rt_h k hs]
  split
  · rename_i e; rw [k.z i hi e]; omega
  · have := wheel_band (h := X.h i) (P := tgt X i) (B := B) (by omega) (h i hi) (tgt_bd k i)
    omega
/-- Within the band. -/
def PB (E : Int) (X : BSt) : Prop := ∀ i, i < 4 → (-2097152 ≤ X.h i ∧ X.h i ≤ 2097152) ∧ -E ≤ X.h i - tgt X i ∧ X.h i - tgt X i ≤ E
theorem ph_B {X : BSt} {S : SSt} (k : RI X S) {sun : Nat → Int} (hs : senseOk (senseV X sun) = true) {E : Int} (hE : 1046528 ≤ E) (h : PB E X) : PB (E - 830527) (rtB X S sun) := by
  have k' := k.tick hs
  have step : ∀ i, i < 4 → (-2097152 ≤ (rtB X S sun).h i ∧ (rtB X S sun).h i ≤ 2097152) ∧ -(E - 1046528) ≤ (rtB X S sun).h i - tgt X i ∧ (rtB X S sun).h i - tgt X i ≤ E - 1046528 := fun i hi => by
    rw [rt_h k hs]
    split
    · rename_i e
      have z := k.z i hi e
      have t : tgt X i = 0 := allocF_failed hi e
      rw [z, t]; omega
    · obtain ⟨_, b, c, d⟩ := wheel_near (h i hi).1 (tgt_bd k i) (h i hi).2
      exact ⟨⟨c, d⟩, by omega, by omega⟩
  have hS := k'.b.s
  rw [rt_f k hs] at hS
  obtain ⟨_, hm⟩ := momG_eq k.b.q k.b.v k.b.t hS
  have hl : ∀ i, i < 3 → -5242880 ≤ momG X.Q X.T (rtB X S sun).h i ∧ momG X.Q X.T (rtB X S sun).h i ≤ 5242880 := fun i hi => by
    have a := hm i hi
    have b := (step i (by omega)).1
    have c := (step 3 (by omega)).1
    have e : sumW (rtB X S sun).h i = (rtB X S sun).h i + (rtB X S sun).h 3 := rfl
    omega
  have hb : ∀ i, i < 3 → -108000 ≤ qbackF (rtB X S sun).Q (rtB X S sun).T i - qbackF X.Q X.T i ∧ qbackF (rtB X S sun).Q (rtB X S sun).T i - qbackF X.Q X.T i ≤ 108000 := fun i hi => by
    rw [qback_congr _ (rt_T k hs), rt_Q k hs]
    exact back_near k.b.q k.b.v k.b.t hl hi
  have ht := allocF_near (f := X.f) (D := 108000) (by decide) hb k.w
  intro i hi
  have a := step i hi
  have b := ht i
  have e : tgt (rtB X S sun) i = allocF (qbackF (rtB X S sun).Q (rtB X S sun).T) X.f i := by unfold tgt; rw [rt_f k hs]
  have e2 : tgt X i = allocF (qbackF X.Q X.T) X.f i := rfl
  refine ⟨a.1, ?_, ?_⟩ <;> rw [e] <;> omega
theorem ph_C {X : BSt} {S : SSt} (k : RI X S) {sun : Nat → Int} (hs : senseOk (senseV X sun) = true) (h : PB 1046528 X) : ∀ i, i < 4 → (rtB X S sun).h i = tgt X i := fun i hi => by
  rw [rt_h k hs]
  split
  · rename_i e
    have t : tgt X i = 0 := allocF_failed hi e
    rw [k.z i hi e, t]
  · exact (wheel_near (h i hi).1 (tgt_bd k i) (h i hi).2).1 (by omega)
theorem sense_ok {X : BSt} {S : SSt} (k : RI X S) {sun : Nat → Int} (h1 : ∀ i, i < 3 → -1073741824 ≤ sun i ∧ sun i ≤ 1073741824) (h2 : vv sun ≤ 1073741828 * 1073741828) : senseOk (senseV X sun) = true := by
  have a : smallB (mulF 4 (momF X)) 268435456 = true := (smallB_iff _ _).2 fun i hi => (sb_iff _ _).2 (by
    have : -34603008 ≤ momF X i ∧ momF X i ≤ 34603008 := momG_bd k.b.q k.b.v k.b.t k.b.s hi
    unfold mulF; omega)
  have b : smallB (qbackF X.Q sun) 2147483648 = true := (smallB_iff _ _).2 fun i hi => (sb_iff _ _).2 (qback_wide k.b.q k.b.v h1 h2 hi)
  show (newB X.h X.f && (smallB (mulF 4 (momF X)) 268435456 && smallB (qbackF X.Q sun) 2147483648)) = true
  rw [k.new, a, b]; rfl
/-- How far the body has come after so many ticks of Rest. -/
def Stage (k : Nat) (X : BSt) : Prop :=
  (k ≤ 14 ∧ ∀ i, i < 4 → -(16777216 - 1048576 * (k : Int)) ≤ X.h i ∧ X.h i ≤ 16777216 - 1048576 * (k : Int)) ∨ (14 ≤ k ∧ k ≤ 18 ∧ PB (4194304 - 830527 * ((k : Int) - 14)) X) ∨ (19 ≤ k ∧ R0 X ∧ ∀ i, i < 3 → momF X i = 0)
theorem stage_zero {X : BSt} {S : SSt} (k : RI X S) : Stage 0 X := .inl ⟨by omega, fun i hi => by have := k.b.s.b i hi; omega⟩
theorem stage_step {X : BSt} {S : SSt} (k : RI X S) {sun : Nat → Int} (hs : senseOk (senseV X sun) = true) {n : Nat} (h : Stage n X) : Stage (n + 1) (rtB X S sun) := by
  have hB : ∀ m : Nat, 14 ≤ m → m ≤ 18 → PB (4194304 - 830527 * ((m : Int) - 14)) X → Stage (m + 1) (rtB X S sun) := fun m m1 m2 hp => by
    by_cases e : m = 18
    · subst e
      have c := ph_C k hs (fun i hi => by have := hp i hi; omega)
      obtain ⟨r, _, z, _⟩ := reach k hs c
      exact .inr (.inr ⟨by omega, r, z⟩)
    · have b := ph_B k hs (E := 4194304 - 830527 * ((m : Int) - 14)) (by omega) hp
      refine .inr (.inl ⟨by omega, by omega, ?_⟩)
      have e2 : 4194304 - 830527 * ((m : Int) - 14) - 830527 = 4194304 - 830527 * (((m + 1 : Nat) : Int) - 14) := by omega
      rw [← e2]; exact b
  rcases h with ⟨h1, h2⟩ | ⟨h1, h2, h3⟩ | ⟨h1, h2, _⟩
  · by_cases e : n = 14
    · subst e
      refine hB 14 (by omega) (by omega) fun i hi => ?_
      have a := h2 i hi
      have b := tgt_bd k i
      refine ⟨by omega, ?_, ?_⟩ <;> omega
    · have a := ph_A k hs (B := 16777216 - 1048576 * (n : Int)) (by omega) h2
      exact .inl ⟨by omega, fun i hi => by have := a i hi; omega⟩
  · exact hB n h1 h2 h3
  · obtain ⟨r, _, z, _⟩ := reach k hs (rest_stays k hs h2)
    exact .inr (.inr ⟨by omega, r, z⟩)
/-- A tick at rest. -/
theorem stage_rest {X : BSt} {S : SSt} (k : RI X S) {sun : Nat → Int} (hs : senseOk (senseV X sun) = true) {n : Nat} (hn : 19 ≤ n) (h : Stage n X) :
    (rtB X S sun).Q = X.Q ∧ (∀ i, i < 4 → (rtB X S sun).h i = X.h i) ∧ ∀ i, i < 3 → ownF X (rtB X S sun).h i = 0 := by
  have r : R0 X := by
    rcases h with ⟨h1, _⟩ | ⟨_, h2, _⟩ | ⟨_, h2, _⟩
    · omega
    · omega
    · exact h2
  have c := rest_stays k hs r
  obtain ⟨_, q, _, o⟩ := reach k hs c
  exact ⟨q, fun i hi => by rw [c i hi, r i hi], o⟩
end Go.Proofs.Ytjnocbjngojigaa
namespace Go.Proofs.Ytjnocbjngojigaa
open Go.RowKit PM Dt
theorem RI.made {X : BSt} (hQ : ∀ i, i < 4 → I64 (X.Q i)) (h : newOk X = true) : RI X SSt.zero := by
  have k := newOk_BI hQ h
  simp only [newOk, Bool.and_eq_true] at h
  exact ⟨k, ⟨fun i hi => z0 (N := 4194304) (by decide), fun i hi => z0 (N := 1073741824) (by decide)⟩, (newB_SI h.1).2, fun i hi => rfl⟩
set_option maxRecDepth 100000 in
set_option maxHeartbeats 4000000 in
theorem made26_no (x : BSt) (sun : Nat → Int) (w : World) (hQ : ∀ i, i < 4 → I64 (x.Q i)) (hk : newOk x = false) : Calls Try.prog 48 #[.agg (rbc x), .agg (vfn sun)] w fun e w' => e = .returned (.tuple #[.pointer none, .bool false]) ∧ Below w.heap.size w w' := by
  have NB := Lib.hid (fun w => bnew_no x w hQ hk)
  clear hQ hk
  go_enter Try.func48, Try.ntmps48
  go_upto_region 1 with (fail)
  have v : blk ((w.alloc (.cells (rbc x) 89)).alloc (.cells (vfn sun) 25)) w.heap.size (rbc x) 89 := (blk.new _ _ _).alloc _
  have sn : blk ((w.alloc (.cells (rbc x) 89)).alloc (.cells (vfn sun) 25)) (w.heap.size + 1) (vfn sun) 25 := blk.new' (by simp)
  have hB : Below w.heap.size w ((w.alloc (.cells (rbc x) 89)).alloc (.cells (vfn sun) 25)) := by go_grown
  generalize ((w.alloc (.cells (rbc x) 89)).alloc (.cells (vfn sun) 25)) = w0 at *
  have lt_v := v.lt
  have lt_sn := sn.lt
  have hW0 : w.heap.size ≤ w0.heap.size := by have := hB.size; first | exact this | simpa using this
  apply wp_region_Q 14 [0, 1, 3, 7, 15, 31, 63, 127, 255, 511, 1023, 2047, 4095, 8191] [] [_, _, _, _, _, _, _, _, _, _, _, _, _, _] (fun p L w' => w0.heap.size ≤ w'.heap.size ∧ Below w.heap.size w w' ∧ blk w' w.heap.size (rbc x) 89 ∧ blk w' (w.heap.size + 1) (vfn sun) 25) _ [(0, 9), (1, 10), (2, 11), (3, 12), (4, 13), (5, 14), (6, 15), (7, 16), (8, 17), (9, 8), (10, 18), (11, 19), (12, 6), (13, 7)] [0, 1, 2, 3, 4, 5, 6, 7, 8, 9, 10, 11, 12, 13]
  case hn => rfl
  case hB => kernel_rfl
  case hds => kernel_rfl
  case hA => (intro p; simp only [putsD, Act.put, List.setIfInBounds_toArray, List.set_cons_zero, List.set_cons_succ, List.getD_cons_zero, List.getD_cons_succ]; exact rfl)
  case h0 => exact fun p => ⟨Nat.le_refl _, hB, v, sn⟩
  case hmore => exact fun p L w1 w2 ⟨hsz, hB, v, sn⟩ hm => ⟨Nat.le_trans hsz hm.size, hB.trans (hm.mono (Nat.le_trans hW0 hsz)), v.below hm v.lt, sn.below hm sn.lt⟩
  case hs =>
    intro more
    refine stepV _ rfl rfl (fun _ _ _ h => h) (by intros; go_simp; exact ⟨rfl, rfl⟩) ?_
    refine stepV 1 rfl rfl (fun _ _ _ h => h) ?_ ?_
    · rintro p L w1 ⟨hsz, hB, v, sn⟩ hk
      exact valR_part _ _ rfl _ 0 rfl _ _ v (qfn x.Q) (rb_q x) _ Try.underlying23 rfl (by rw [qfn_size]; kernel_rfl) rfl
    refine stepV _ rfl rfl (fun _ _ _ h => h) (by intros; go_simp; exact ⟨rfl, rfl⟩) ?_
    refine stepV 3 rfl rfl (fun _ _ _ h => h) ?_ ?_
    · rintro p L w1 ⟨hsz, hB, v, sn⟩ hk
      exact valR_part _ _ rfl _ 4 rfl _ _ v (vfn x.T) (rb_t x) _ Try.underlying25 rfl (by rw [vfn_size]; kernel_rfl) rfl
    refine stepV _ rfl rfl (fun _ _ _ h => h) (by intros; go_simp; exact ⟨rfl, rfl⟩) ?_
    refine stepV 5 rfl rfl (fun _ _ _ h => h) ?_ ?_
    · rintro p L w1 ⟨hsz, hB, v, sn⟩ hk
      exact valR_part _ _ rfl _ 7 rfl _ _ v (qfn x.h) (rb_h x) _ Try.underlying22 rfl (by rw [qfn_size]; kernel_rfl) rfl
    refine stepV _ rfl rfl (fun _ _ _ h => h) (by intros; go_simp; exact ⟨rfl, rfl⟩) ?_
    refine stepV 7 rfl rfl (fun _ _ _ h => h) ?_ ?_
    · rintro p L w1 ⟨hsz, hB, v, sn⟩ hk
      have hc : w1.cell? ⟨w.heap.size, 11, none⟩ = some (.int .i64 x.f) := v.cellIs rfl
      go_simp
      exact ⟨rfl, rfl⟩
    refine stepD 8 rfl (fun p => rfl) (fun _ _ _ h => h) more ?_ ?_
    · rintro p L w1 ⟨hsz, hB, v, sn⟩ hk
      go_simp
      refine (NB.out _).mono ?_
      rintro e w2 ⟨rfl, h2⟩
      first | exact ⟨rfl, h2⟩ | (subst h2; exact ⟨rfl, Below.refl _ _⟩)
    iterate 5 (refine stepV _ rfl rfl (fun _ _ _ h => h) (by intros; go_simp; exact ⟨rfl, rfl⟩) ?_)
    exact AllI.nil
  case hV0 => exact fun p q => AllI.nil
  case he =>
  clear hB v sn
  rintro p w0r ⟨hsz, hB, v, sn⟩
  clear lt_v
  clear lt_sn
  clear hsz hW0
  go_wp2_with (fail)
  go_ret2
  exact ⟨rfl, hB⟩
set_option maxRecDepth 100000 in
set_option maxHeartbeats 8000000 in
theorem made26_yes (x : BSt) (sun : Nat → Int) (w : World) (hQ : ∀ i, i < 4 → I64 (x.Q i)) (hk : newOk x = true) : Calls Try.prog 48 #[.agg (rbc x), .agg (vfn sun)] w fun e w' => ∃ lo hi b, e = .returned (.tuple #[.pointer (some ⟨b, 0, none⟩), .bool true]) ∧ w.heap.size ≤ lo ∧ lop lo hi b w' (x, SSt.zero, sun) ∧ Below w.heap.size w w' := by
  have NB := Lib.hid (fun w => bnew_yes x w hQ hk)
  have NW := Lib.hid (fun w => tnew_any w)
  clear hQ hk
  go_enter Try.func48, Try.ntmps48
  go_upto_region 1 with (fail)
  have v : blk ((w.alloc (.cells (rbc x) 89)).alloc (.cells (vfn sun) 25)) w.heap.size (rbc x) 89 := (blk.new _ _ _).alloc _
  have sn : blk ((w.alloc (.cells (rbc x) 89)).alloc (.cells (vfn sun) 25)) (w.heap.size + 1) (vfn sun) 25 := blk.new' (by simp)
  have hB : Below w.heap.size w ((w.alloc (.cells (rbc x) 89)).alloc (.cells (vfn sun) 25)) := by go_grown
  generalize ((w.alloc (.cells (rbc x) 89)).alloc (.cells (vfn sun) 25)) = w0 at *
  have cf : w0.cell? ⟨w.heap.size, 11, none⟩ = some (.int .i64 x.f) := v.cellIs rfl
  have hlo := hB.size
  go_upto_region 2 with (first | (refine wpList_load_part ?hw _ _ rfl _ 0 rfl _ _ v (qfn x.Q) (rb_q x) _ Try.underlying23 rfl ?hi ?_; (case hw => (first | rfl | (simp [Region.wanted, yielded]; done))); (case hi => (rw [qfn_size]; kernel_rfl))) | (refine wpList_load_part ?hw _ _ rfl _ 4 rfl _ _ v (vfn x.T) (rb_t x) _ Try.underlying25 rfl ?hi ?_; (case hw => (first | rfl | (simp [Region.wanted, yielded]; done))); (case hi => (rw [vfn_size]; kernel_rfl))) | (refine wpList_load_part ?hw _ _ rfl _ 7 rfl _ _ v (qfn x.h) (rb_h x) _ Try.underlying22 rfl ?hi ?_; (case hw => (first | rfl | (simp [Region.wanted, yielded]; done))); (case hi => (rw [qfn_size]; kernel_rfl))) | (go_at_call 32; with_reducible refine (NB.out _).mono ?_; rintro e w1 ⟨ob, rfl, o, hb⟩; replace hB := hB.trans (hb.mono hB.size); replace v := v.below hb v.lt; replace sn := sn.below hb sn.lt; clear hb))
  clear NB cf v
  go_upto_region 4 with (fail)
  have lt_sn := sn.lt
  have lt_o := o.lt
  have hW0 : w.heap.size ≤ w1.heap.size := by have := hB.size; first | exact this | simpa using this
  apply wp_region_I 7 [0, 0, 0, 7, 15, 31, 63] [1, 4] [_, (fun p => ((fun b => .pointer (some ⟨b, 0, none⟩))) (p 1)), _, _, (fun p => ((fun b => .pointer (some ⟨b, 0, none⟩))) (p 4)), _, _] (fun p L w' => w1.heap.size ≤ w'.heap.size ∧ Below w.heap.size w w' ∧ blk w' (w.heap.size + 1) (vfn sun) 25 ∧ bod w0.heap.size ob w' (x) ∧ (L 1 = true → w1.heap.size ≤ p 1 ∧ blk w' (p 1) (ssc SSt.zero) 56) ∧ (L 4 = true → w1.heap.size ≤ p 4 ∧ blk w' (p 4) (lpc (ob, p 1, sun)) 94) ∧ (L 1 = true → L 4 = true → p 1 ≠ p 4)) _ [(0, 22), (1, 23), (2, 24), (3, 25), (4, 26), (5, 4), (6, 5)] [0, 1, 2, 3, 4, 5, 6]
  case hn => rfl
  case hm => kernel_rfl
  case hB => kernel_rfl
  case hds => kernel_rfl
  case hA => (intro p; simp only [putsD, Act.put, List.setIfInBounds_toArray, List.set_cons_zero, List.set_cons_succ, List.getD_cons_zero, List.getD_cons_succ]; exact rfl)
  case h0 => exact fun p => ⟨Nat.le_refl _, hB.drew, sn.drew, o.drew, fun h => absurd h (by decide), fun h => absurd h (by decide), fun h => absurd h (by decide)⟩
  case hmore => exact fun p L w1 w2 ⟨hsz, hB, sn, o, h_st, h_l, hne_st_l⟩ hm => ⟨Nat.le_trans hsz hm.size, hB.trans (hm.mono (Nat.le_trans hW0 hsz)), sn.below hm sn.lt, o.below hm o.lt, fun hl => ⟨(h_st hl).1, (h_st hl).2.below hm (h_st hl).2.lt⟩, fun hl => ⟨(h_l hl).1, (h_l hl).2.below hm (h_l hl).2.lt⟩, hne_st_l⟩
  case hs =>
    intro more
    refine stepV _ rfl rfl (fun _ _ _ h => h) (by intros; go_simp; exact ⟨rfl, rfl⟩) ?_
    refine AllI.cons ?_ ?_
    · refine stepI_new 1 rfl (fun p => rfl) rfl ((fun b => .pointer (some ⟨b, 0, none⟩))) (ssc SSt.zero) 56 (fun p => rfl) ?_ ?_
      · rintro p L w1 ⟨hsz, hB, sn, o, h_st, h_l, hne_st_l⟩ hk
        go_simp
        refine (NW.out _).mono ?_
        rintro e w2 ⟨b, rfl, hb, hle, hm⟩
        exact ⟨_, rfl, b, rfl, hb, hle, hm⟩
      rintro p L w1 w2 b ⟨hsz, hB, sn, o, h_st, h_l, hne_st_l⟩ hk hb hle hm
      refine ⟨Nat.le_trans hsz hm.size, hB.trans (hm.mono (Nat.le_trans hW0 hsz)), sn.below hm sn.lt, o.below hm o.lt, fun _ => ⟨Nat.le_trans hsz hle, ?_⟩, fun hl => absurd hl (by rw [show upL L 1 4 = false from hk.2.2 4 rfl]; decide), fun _ hl => absurd hl (by rw [show upL L 1 4 = false from hk.2.2 4 rfl]; decide)⟩
      exact hb
    refine stepV 2 rfl rfl (fun _ _ _ h => h) ?_ ?_
    · rintro p L w1 ⟨hsz, hB, sn, o, h_st, h_l, hne_st_l⟩ hk
      first | exact valR_row _ _ rfl _ rfl _ _ sn _ Try.underlying25 rfl (by first | kernel_rfl | (rw [vfn_size]; kernel_rfl)) rfl | (have hc := sn.cellIs (vfn_get _ (show 0 < 3 by omega)); go_simp; exact ⟨rfl, rfl⟩)
    refine stepV 3 rfl rfl (fun _ _ _ h => h) ?_ ?_
    · intros; (try simp only [vfn, qfn]); go_simp; exact ⟨rfl, rfl⟩
    refine AllI.cons ?_ ?_
    · refine stepI_fresh 4 rfl (fun p => rfl) rfl ((fun b => .pointer (some ⟨b, 0, none⟩))) (fun p => (lpc (ob, p 1, sun))) 94 (fun p => rfl) ?_ ?_
      · intro p w1
        simp only [vfn, qfn]
        go_simp
        try rfl
      rintro p L w1 ⟨hsz, hB, sn, o, h_st, h_l, hne_st_l⟩ hk
      refine ⟨Nat.le_trans hsz (by simp), hB.alloc (Nat.le_trans (by first | exact hW0 | (have := hB.size; simp at this ⊢; omega)) hsz) _, sn.alloc _, o.alloc _, fun hl => ⟨(h_st hl).1, (h_st hl).2.alloc _⟩, fun _ => ⟨hsz, ?_⟩, fun hl _ => Nat.ne_of_lt (h_st hl).2.lt⟩
      exact blk.new _ _ _
    iterate 2 (refine stepV _ rfl rfl (fun _ _ _ h => h) (by intros; go_simp; exact ⟨rfl, rfl⟩) ?_)
    exact AllI.nil
  case hV0 =>
    intro p q
    refine AllI.cons ?_ ?_
    · skip
      iterate 7 (refine AllI.cons (by first | exact .inl rfl | (refine .inr ?_; simp only [List.getD_cons_zero, List.getD_cons_succ]; done) | exact .inr rfl) ?_)
      exact AllI.nil
    refine AllI.cons ?_ ?_
    · skip
      iterate 7 (refine AllI.cons (by first | exact .inl rfl | (refine .inr ?_; simp only [List.getD_cons_zero, List.getD_cons_succ]; done) | exact .inr rfl) ?_)
      exact AllI.nil
    exact AllI.nil
  case he =>
  clear hB sn o
  rintro p w1r ⟨hsz, hB, sn, o, h_st, h_l, hne_st_l⟩
  obtain ⟨le_st, st⟩ := h_st rfl
  clear h_st
  obtain ⟨le_l, l⟩ := h_l rfl
  clear h_l
  have ne_st_l : p 1 ≠ p 4 := hne_st_l rfl rfl
  clear hne_st_l
  replace st : blk w1r (p 1) (ssc SSt.zero) 56 := st
  replace l : blk w1r (p 4) (lpc (ob, p 1, sun)) 94 := l
  have ne_sn_st : (w.heap.size + 1) ≠ p 1 := Nat.ne_of_lt (Nat.lt_of_lt_of_le lt_sn le_st)
  have ne_o_st : ob ≠ p 1 := Nat.ne_of_lt (Nat.lt_of_lt_of_le lt_o le_st)
  have ge_st : w.heap.size ≤ p 1 := Nat.le_trans hW0 le_st
  have out_st : ob < p 1 := Nat.lt_of_lt_of_le lt_o le_st
  have ne_sn_l : (w.heap.size + 1) ≠ p 4 := Nat.ne_of_lt (Nat.lt_of_lt_of_le lt_sn le_l)
  have ne_o_l : ob ≠ p 4 := Nat.ne_of_lt (Nat.lt_of_lt_of_le lt_o le_l)
  have ge_l : w.heap.size ≤ p 4 := Nat.le_trans hW0 le_l
  have out_l : ob < p 4 := Nat.lt_of_lt_of_le lt_o le_l
  generalize p 1 = st_b at *
  generalize p 4 = l_b at *
  clear lt_sn
  clear lt_o
  clear hsz hW0
  go_wp2_with (fail)
  go_ret2
  have lt1 := st.lt
  have lt2 := l.lt
  exact ⟨_, _, _, rfl, hlo, ⟨ob, st_b, out_st, out_l, ne_st_l, Nat.le_sub_one_of_lt lt1, Nat.le_sub_one_of_lt lt2, by omega, o, st, l⟩, hB⟩
end Go.Proofs.Ytjnocbjngojigaa
namespace Go.Proofs.Ytjnocbjngojigaa
open Go.RowKit PM Dt
/-- A tick of Rest, of a state that may be. -/
theorem tickR_ri (X : BSt) (S : SSt) (sun tq : Nat → Int) (lo hi lb : Nat) (w : World) (ho : lop lo hi lb w (X, S, sun)) (k : RI X S) (hs : senseOk (senseV X sun) = true) : Calls Try.prog 50 #[.pointer (some ⟨lb, 0, none⟩), .int .i64 0, .agg (qfn tq)] w fun e w' => e = .returned (.tuple #[.agg (vfn (ownF X (rtB X S sun).h)), .bool true]) ∧ lop lo hi lb w' (rtB X S sun, restX S (senseV X sun), sun) ∧ Save lo hi w w' := by
  have k' := k.tick hs
  have hS := k'.b.s
  have hS2 := hS
  rw [rt_f k hs] at hS2
  obtain ⟨_, hm⟩ := momG_eq k.b.q k.b.v k.b.t hS2
  have hE : vsubE (qbackF X.Q X.T) (sumW (rtB X S sun).h) = 0 := by
    have o1 : okV (qbackF X.Q X.T) = true := (okV_iff _).2 fun i hi => (vb_iff _).2 (by have a := (hm i hi).1; omega)
    have o2 : okV (sumW (rtB X S sun).h) = true := (okV_iff _).2 fun i hi => (vb_iff _).2 (by have a := sumW_bd hS2 hi; omega)
    have o3 : okV (subF (qbackF X.Q X.T) (sumW (rtB X S sun).h)) = true := (okV_iff _).2 fun i hi => (vb_iff _).2 (by
      have a := (hm i hi).1
      have b := sumW_bd hS2 hi
      show -1099511627776 ≤ qbackF X.Q X.T i - sumW (rtB X S sun).h i ∧ qbackF X.Q X.T i - sumW (rtB X S sun).h i ≤ 1099511627776
      omega)
    unfold vsubE resE
    rw [o1, o2, o3]; rfl
  exact tickR_any X S sun tq lo hi lb w ho k.b k.s hs hE hS
set_option maxRecDepth 100000 in
set_option maxHeartbeats 8000000 in
theorem rested_any (X0 : BSt) (S0 : SSt) (sun : Nat → Int) (lo hi lb : Nat) (w : World) (ho : lop lo hi lb w (X0, S0, sun)) (k0 : RI X0 S0) (h1 : ∀ i, i < 3 → -1073741824 ≤ sun i ∧ sun i ≤ 1073741824) (h2 : vv sun ≤ 1073741828 * 1073741828) : Calls Try.prog 49 #[.pointer (some ⟨lb, 0, none⟩)] w fun e w' => e = .returned (.bool true) ∧ (∃ X S, RI X S ∧ Stage 40 X ∧ lop lo hi lb w' (X, S, sun)) ∧ Save lo hi w w' := by
  have TK : Hid (∀ w X S, lop lo hi lb w (X, S, sun) → RI X S → Calls Try.prog 50 #[.pointer (some ⟨lb, 0, none⟩), .int .i64 0, .agg #[.int .i64 0, .int .i64 0, .int .i64 0, .int .i64 0]] w fun e w' => e = .returned (.tuple #[.agg (vfn (ownF X (rtB X S sun).h)), .bool true]) ∧ lop lo hi lb w' (rtB X S sun, restX S (senseV X sun), sun) ∧ Save lo hi w w') := Lib.hid (fun w X S ho k => by
    rw [zero_quat]
    exact tickR_ri X S sun _ lo hi lb w ho k (sense_ok k h1 h2))
  have ST : ∀ n X S, RI X S → Stage n X → RI (rtB X S sun) (restX S (senseV X sun)) ∧ Stage (n + 1) (rtB X S sun) := fun n X S k h => ⟨k.tick (sense_ok k h1 h2), stage_step k (sense_ok k h1 h2) h⟩
  have MO := Lib.hid (fun w X S ob (h : bod lo ob w X) (k : RI X S) (hz : ∀ i, i < 3 → momF X i = 0) => (vfn_congr hz ▸ bmom_any X lo ob w h k.b.q k.b.s : Calls Try.prog 28 #[.pointer (some ⟨ob, 0, none⟩)] w fun e w' => e = .returned (.agg (vfn fun _ => 0)) ∧ Below w.heap.size w w'))
  have E0 : ∀ w, (Op.equalIn 10000 25 (.agg (vfn fun _ => 0)) (.agg #[.int .i64 0, .int .i64 0, .int .i64 0])).run Try.prog w = .ok true w := fun w => by rw [zero_vec]; exact vec_eq_self _ w
  have K0 := stage_zero k0
  have hB : Save lo hi w w := Save.refl _ _ _
  clear h1 h2
  go_enter Try.func49, Try.ntmps49
  go_wp2_with (fail)
  go_loopg [3] 40 (fun g_ iv wr => ∃ (k : Nat) (X : BSt) (S : SSt), g_ + k = 40 ∧ iv = .int .i64 k ∧ RI X S ∧ Stage k X ∧ lop lo hi lb wr (X, S, sun) ∧ Save lo hi w wr)
  case atStart => exact ⟨0, X0, S0, rfl, rfl, k0, K0, ho, hB⟩
  case round =>
    clear ho hB k0 K0
    obtain ⟨k, X, S, hk, rfl, kR, kS, l, hB⟩ := hrel
    by_cases hkn : k < 40
    · have hdk : decide ((k : Int) < 40) = true := decide_eq_true (by omega)
      have hdk' : decide (k < 40) = true := decide_eq_true (by omega)
      have hw3 : IntKind.i64.wrap ((k : Int) + 1) = ((k + 1 : Nat) : Int) := by rw [IntKind.wrap_i64]; omega
      go_upto_region 5 with (first | (go_at_call 50; with_reducible refine (TK.out _ _ _ l kR).mono ?_; rintro e w1 ⟨rfl, l2, hS⟩; replace hB := hB.next hS; clear hS) | (rw [zero_vec]; refine wpList_store_row rfl _ _ _ rfl _ rfl _ rfl _ _ (blk.new _ _ _) (by first | kernel_rfl | (rw [vfn_size]; kernel_rfl)) (by first | rfl | simp only [vfn_size]) (by first | exact vfn_one _ | rfl) ?_))
      replace l2 := (l2.alloc (.cells (vfn fun _ => 0) 25)).rowOther (.inr l2.lt) (vfn (ownF X (rtB X S sun).h))
      replace hB := (hB.alloc hB.size (.cells (vfn fun _ => 0) 25)).row (g := w1.heap.size) (.inr hB.size) (vfn (ownF X (rtB X S sun).h))
      generalize (w1.alloc (.cells (vfn fun _ => 0) 25)).setRow w1.heap.size (vfn (ownF X (rtB X S sun).h)) = w2 at *
      generalize w1.heap.size = cb at *
      clear l
      go_wp2_with (fail)
      go_roundg (40 - (k + 1))
      case rel =>
        obtain ⟨r1, r2⟩ := ST k X S kR kS
        exact ⟨k + 1, _, _, by omega, rfl, r1, r2, l2, hB⟩
      case measure => omega
    · obtain rfl : k = 40 := by omega
      have hz : ∀ i, i < 3 → momF X i = 0 := by
        rcases kS with ⟨q, _⟩ | ⟨_, q, _⟩ | ⟨_, _, q⟩
        · omega
        · omega
        · exact q
      obtain ⟨ob, sb, l1, l2, l3, l4, l5, l6, o, st, g⟩ := l
      have c0 : wr.cell? ⟨lb, 0, none⟩ = some (.pointer (some ⟨ob, 0, none⟩)) := g.cellIs rfl
      go_wp2_with (first | (go_at_call 28; with_reducible refine (MO.out _ X S ob o kR hz).mono ?_; rintro e w3 ⟨rfl, hb⟩; replace hB := hB.trans (hb.mono hB.size); replace o := o.below hb o.lt; replace st := st.below hb st.lt; replace g := g.below hb g.lt; replace l6 := Nat.lt_of_lt_of_le l6 hb.size; clear hb))
      go_ret
      exact ⟨rfl, ⟨X, S, kR, kS, ⟨ob, sb, l1, l2, l3, l4, l5, l6, o, st, g⟩⟩, hB⟩
end Go.Proofs.Ytjnocbjngojigaa
namespace Go.Proofs.Ytjnocbjngojigaa
open Go.RowKit PM Dt
theorem spd_eq (f g : Nat → Int) (w : World) :
    (Op.equalIn 10000 22 (.agg (qfn f)) (.agg (qfn g))).run Try.prog w = .ok ((List.range 4).all fun j => f j == g j) w := by
  obtain ⟨i, hi⟩ : ∃ i, Try.prog.info? 2 = some i := Option.isSome_iff_exists.1 (by kernel_rfl)
  have hc : Try.prog.cellsOf 2 = 1 := by kernel_rfl
  exact run_equalIn_ints (P := Try.prog) Try.underlying22 hi hc Try.underlying2 f g (qfn f) (qfn g) (fun j hj => qfn_get _ hj) (fun j hj => qfn_get _ hj) 9998 w
theorem spd_eq_self (f : Nat → Int) (w : World) : (Op.equalIn 10000 22 (.agg (qfn f)) (.agg (qfn f))).run Try.prog w = .ok true w := by
  rw [spd_eq]; congr 1; simp
end Go.Proofs.Ytjnocbjngojigaa
namespace Go.Proofs.Ytjnocbjngojigaa
open Go.RowKit PM Dt
theorem sun1_le : ∀ i, i < 3 → -1073741824 ≤ of3 1073741824 0 0 i ∧ of3 1073741824 0 0 i ≤ 1073741824 := by decide
theorem sun1_vv : vv (of3 1073741824 0 0) ≤ 1073741828 * 1073741828 := by decide
set_option maxRecDepth 100000 in
set_option maxHeartbeats 4000000 in
theorem srests_no (x : BSt) (w : World) (hQ : ∀ i, i < 4 → I64 (x.Q i)) (hk : newOk x = false) : Calls Try.prog 13 #[.agg (rbc x)] w fun e w' => e = .returned (.bool true) ∧ Below w.heap.size w w' := by
  have MD := Lib.hid (fun w => made26_no x (of3 1073741824 0 0) w hQ hk)
  rw [← of3_cells] at MD
  clear hQ hk
  have AW := Lib.hid (fun w => awake26_any w)
  go_enter Try.func13, Try.ntmps13
  go_upto_region 1 with (fail)
  have v : blk (w.alloc (.cells (rbc x) 89)) w.heap.size (rbc x) 89 := blk.new _ _ _
  have hB : Below w.heap.size w (w.alloc (.cells (rbc x) 89)) := by go_grown
  generalize (w.alloc (.cells (rbc x) 89)) = w0 at *
  have lt_v := v.lt
  have hW0 : w.heap.size ≤ w0.heap.size := by have := hB.size; first | exact this | simpa using this
  apply wp_region_Q 8 [0, 1, 3, 7, 15, 31, 63, 127] [] [_, _, _, _, _, _, _, _] (fun p L w' => w0.heap.size ≤ w'.heap.size ∧ Below w.heap.size w w' ∧ blk w' w.heap.size (rbc x) 89) _ [(0, 11), (1, 12), (2, 13), (3, 10), (4, 14), (5, 15), (6, 3), (7, 4)] [0, 1, 2, 3, 4, 5, 6, 7]
  case hn => rfl
  case hB => kernel_rfl
  case hds => kernel_rfl
  case hA => (intro p; simp only [putsD, Act.put, List.setIfInBounds_toArray, List.set_cons_zero, List.set_cons_succ, List.getD_cons_zero, List.getD_cons_succ]; exact rfl)
  case h0 => exact fun p => ⟨Nat.le_refl _, hB, v⟩
  case hmore => exact fun p L w1 w2 ⟨hsz, hB, v⟩ hm => ⟨Nat.le_trans hsz hm.size, hB.trans (hm.mono (Nat.le_trans hW0 hsz)), v.below hm v.lt⟩
  case hs =>
    intro more
    refine stepV 0 rfl rfl (fun _ _ _ h => h) ?_ ?_
    · rintro p L w1 ⟨hsz, hB, v⟩ hk
      first | exact valR_row _ _ rfl _ rfl _ _ v _ Try.underlying89 rfl (by first | kernel_rfl | (rw [rbc_size]; kernel_rfl)) rfl | (have hc := v.cellIs (show _[0]? = some _ from rfl); go_simp; exact ⟨rfl, rfl⟩)
    refine stepV 1 rfl rfl (fun _ _ _ h => h) ?_ ?_
    · intros; (try simp only [vfn, qfn]); go_simp; exact ⟨rfl, rfl⟩
    refine stepD 2 rfl (fun p => rfl) (fun _ _ _ h => h) more ?_ ?_
    · rintro p L w1 ⟨hsz, hB, v⟩ hk
      go_simp
      refine (MD.out _).mono ?_
      rintro e w2 ⟨rfl, h2⟩
      first | exact ⟨rfl, h2⟩ | (subst h2; exact ⟨rfl, Below.refl _ _⟩)
    iterate 5 (refine stepV _ rfl rfl (fun _ _ _ h => h) (by intros; go_simp; exact ⟨rfl, rfl⟩) ?_)
    exact AllI.nil
  case hV0 => exact fun p q => AllI.nil
  case he =>
  clear hB v
  rintro p w0r ⟨hsz, hB, v⟩
  clear lt_v
  clear hsz hW0
  go_wp2_with (first
    | (go_at_call 19; with_reducible refine (AW.out _).mono ?_; rintro e w9 ⟨rfl, hb⟩; replace hB := hB.trans (hb.mono hB.size); replace v := v.below hb v.lt; clear hb))
  go_ret
  exact ⟨rfl, hB⟩
set_option maxRecDepth 100000 in
set_option maxHeartbeats 20000000 in
theorem srests_ok (x : BSt) (w : World) (hQ : ∀ i, i < 4 → I64 (x.Q i)) (hk : newOk x = true) : Calls Try.prog 13 #[.agg (rbc x)] w fun e w' => e = .returned (.bool true) ∧ Below w.heap.size w w' := by
  have MD := Lib.hid (fun w => made26_yes x (of3 1073741824 0 0) w hQ hk)
  rw [← of3_cells] at MD
  have AW := Lib.hid (fun w => awake26_any w)
  have RE := Lib.hid (fun w X S lo hi lb (h : lop lo hi lb w (X, S, of3 1073741824 0 0)) (k : RI X S) => rested_any X S (of3 1073741824 0 0) lo hi lb w h k sun1_le sun1_vv)
  have k0 := RI.made hQ hk
  have TK : Hid (∀ w X S lo hi lb, lop lo hi lb w (X, S, of3 1073741824 0 0) → RI X S → ∀ n, 19 ≤ n → Stage n X → Calls Try.prog 50 #[.pointer (some ⟨lb, 0, none⟩), .int .i64 0, .agg #[.int .i64 0, .int .i64 0, .int .i64 0, .int .i64 0]] w fun e w' => e = .returned (.tuple #[.agg (vfn fun _ => 0), .bool true]) ∧ lop lo hi lb w' (rtB X S (of3 1073741824 0 0), restX S (senseV X (of3 1073741824 0 0)), of3 1073741824 0 0) ∧ Save lo hi w w') := Lib.hid (fun w X S lo hi lb ho k n hn hst => by
    have hs := sense_ok k sun1_le sun1_vv
    rw [zero_quat, ← vfn_congr (stage_rest k hs hn hst).2.2]
    exact tickR_ri X S _ _ lo hi lb w ho k hs)
  have ST : ∀ n X S, RI X S → 19 ≤ n → Stage n X → RI (rtB X S (of3 1073741824 0 0)) (restX S (senseV X (of3 1073741824 0 0))) ∧ Stage (n + 1) (rtB X S (of3 1073741824 0 0)) ∧ (rtB X S (of3 1073741824 0 0)).Q = X.Q ∧ ∀ i, i < 4 → (rtB X S (of3 1073741824 0 0)).h i = X.h i := fun n X S k hn h => by
    have hs := sense_ok k sun1_le sun1_vv
    obtain ⟨a, b, c⟩ := stage_rest k hs hn h
    exact ⟨k.tick hs, stage_step k hs h, a, b⟩
  have AT := Lib.hid (fun w X lo b Q (h : bod lo b w X) (e : X.Q = Q) => (e ▸ battitude_any X lo b w h : Calls Try.prog 31 #[.pointer (some ⟨b, 0, none⟩)] w fun e w' => e = .returned (.agg (qfn Q)) ∧ Below w.heap.size w w'))
  have SP := Lib.hid (fun w X lo b H (h : bod lo b w X) (e : ∀ i, i < 4 → X.h i = H i) => (qfn_congr e ▸ bspeeds_any X lo b w h : Calls Try.prog 36 #[.pointer (some ⟨b, 0, none⟩)] w fun e w' => e = .returned (.agg (qfn H)) ∧ Below w.heap.size w w'))
  have E0 : ∀ w, (Op.equalIn 10000 25 (.agg (vfn fun _ => 0)) (.agg #[.int .i64 0, .int .i64 0, .int .i64 0])).run Try.prog w = .ok true w := fun w => by rw [zero_vec]; exact vec_eq_self _ w
  clear hQ hk
  go_enter Try.func13, Try.ntmps13
  go_upto_region 1 with (fail)
  have v : blk (w.alloc (.cells (rbc x) 89)) w.heap.size (rbc x) 89 := blk.new _ _ _
  have hB : Below w.heap.size w (w.alloc (.cells (rbc x) 89)) := by go_grown
  generalize (w.alloc (.cells (rbc x) 89)) = w0 at *
  have hlo := hB.size
  go_upto_region 4 with (first | (refine wpList_load_rowG ?hw _ _ rfl _ rfl _ _ _ _ v Try.underlying89 rfl ?hi ?_; (case hw => (first | rfl | (simp [Region.wanted, yielded]; done))); (case hi => (first | kernel_rfl | (rw [rbc_size]; kernel_rfl)))) | (go_at_call 48; with_reducible refine (MD.out _).mono ?_; rintro e w1 ⟨lo, hi, lb, rfl, hle, l, hb⟩; replace hB := hB.trans (hb.mono hB.size); replace v := v.below hb v.lt; clear hb))
  replace hlo : w.heap.size ≤ lo := Nat.le_trans hlo hle
  clear MD hle v
  go_upto_region 6 with (first | (go_at_call 49; with_reducible refine (RE.out _ _ _ _ _ _ l k0).mono ?_; rintro e w2 ⟨rfl, ⟨X, S, kR, kS, l2⟩, hS⟩; replace hB := hB.trans (hS.below hB.size hlo); clear hS))
  clear RE l k0
  obtain ⟨ob, sb, l1, l2, l3, l4, l5, l6, o, st, g⟩ := l2
  have E1 := quat_eq_self X.Q
  have E2 := spd_eq_self X.h
  have lt_o := o.lt
  have lt_st := st.lt
  have lt_g := g.lt
  have hW0 : w.heap.size ≤ w2.heap.size := by have := hB.size; first | exact this | simpa using this
  apply wp_region_I 14 [0, 1, 3, 7, 15, 0, 32, 96, 224, 511, 0, 0, 4095, 8191] [10, 11] [_, _, _, _, _, _, _, _, _, _, (fun p => .pointer (some ⟨p 10, 0, none⟩)), (fun p => .pointer (some ⟨p 11, 0, none⟩)), (fun _ => undef), (fun _ => undef)] (fun p L w' => w2.heap.size ≤ w'.heap.size ∧ Below w.heap.size w w' ∧ bod lo ob w' (X) ∧ blk w' sb (ssc S) 56 ∧ blk w' lb (lpc (ob, sb, of3 1073741824 0 0)) 94 ∧ (L 10 = true → w2.heap.size ≤ p 10 ∧ blk w' (p 10) (bif L 12 then (qfn X.Q) else (qfn fun _ => 0)) 23) ∧ (L 11 = true → w2.heap.size ≤ p 11 ∧ blk w' (p 11) (bif L 13 then (qfn X.h) else (qfn fun _ => 0)) 22) ∧ (L 10 = true → L 11 = true → p 10 ≠ p 11)) _ [(0, 22), (1, 23), (2, 24), (3, 25), (4, 26), (5, 27), (6, 28), (7, 29), (8, 30), (9, 31), (10, 5), (11, 6)] [0, 1, 2, 3, 4, 5, 6, 7, 8, 9, 10, 11, 12, 13]
  case hn => rfl
  case hm => kernel_rfl
  case hB => kernel_rfl
  case hds => kernel_rfl
  case hA => (intro p; simp only [putsD, Act.put, List.setIfInBounds_toArray, List.set_cons_zero, List.set_cons_succ, List.getD_cons_zero, List.getD_cons_succ]; exact rfl)
  case h0 => exact fun p => ⟨Nat.le_refl _, hB.drew, o.drew, st.drew, g.drew, fun h => absurd h (by decide), fun h => absurd h (by decide), fun h => absurd h (by decide)⟩
  case hmore => exact fun p L w1 w2 ⟨hsz, hB, o, st, g, h_q, h_h, hne_q_h⟩ hm => ⟨Nat.le_trans hsz hm.size, hB.trans (hm.mono (Nat.le_trans hW0 hsz)), o.below hm o.lt, st.below hm st.lt, g.below hm g.lt, fun hl => ⟨(h_q hl).1, (h_q hl).2.below hm (h_q hl).2.lt⟩, fun hl => ⟨(h_h hl).1, (h_h hl).2.below hm (h_h hl).2.lt⟩, hne_q_h⟩
  case hs =>
    intro more
    iterate 3 (refine stepV _ rfl rfl (fun _ _ _ h => h) (by intros; go_simp; exact ⟨rfl, rfl⟩) ?_)
    refine stepV 3 rfl rfl (fun _ _ _ h => h) ?_ ?_
    · rintro p L w1 ⟨hsz, hB, o, st, g, h_q, h_h, hne_q_h⟩ hk
      have L12 : L 12 = false := hk.2.2 12 rfl
      have L13 : L 13 = false := hk.2.2 13 rfl
      have hc : w1.cell? ⟨lb, 0, none⟩ = some (.pointer (some ⟨ob, 0, none⟩)) := g.cellIs rfl
      go_simp
      exact ⟨rfl, rfl⟩
    refine stepD 4 rfl (fun p => rfl) (fun _ _ _ h => h) more ?_ ?_
    · rintro p L w1 ⟨hsz, hB, o, st, g, h_q, h_h, hne_q_h⟩ hk
      have L12 : L 12 = false := hk.2.2 12 rfl
      have L13 : L 13 = false := hk.2.2 13 rfl
      go_simp
      refine (AT.out _ X _ _ _ o rfl).mono ?_
      rintro e w2 ⟨rfl, h2⟩
      first | exact ⟨rfl, h2⟩ | (subst h2; exact ⟨rfl, Below.refl _ _⟩)
    iterate 3 (refine stepV _ rfl rfl (fun _ _ _ h => h) (by intros; go_simp; exact ⟨rfl, rfl⟩) ?_)
    refine stepV 8 rfl rfl (fun _ _ _ h => h) ?_ ?_
    · rintro p L w1 ⟨hsz, hB, o, st, g, h_q, h_h, hne_q_h⟩ hk
      have L12 : L 12 = false := hk.2.2 12 rfl
      have L13 : L 13 = false := hk.2.2 13 rfl
      have hc : w1.cell? ⟨lb, 0, none⟩ = some (.pointer (some ⟨ob, 0, none⟩)) := g.cellIs rfl
      go_simp
      exact ⟨rfl, rfl⟩
    refine stepD 9 rfl (fun p => rfl) (fun _ _ _ h => h) more ?_ ?_
    · rintro p L w1 ⟨hsz, hB, o, st, g, h_q, h_h, hne_q_h⟩ hk
      have L12 : L 12 = false := hk.2.2 12 rfl
      have L13 : L 13 = false := hk.2.2 13 rfl
      go_simp
      refine (SP.out _ X _ _ _ o fun _ _ => rfl).mono ?_
      rintro e w2 ⟨rfl, h2⟩
      first | exact ⟨rfl, h2⟩ | (subst h2; exact ⟨rfl, Below.refl _ _⟩)
    refine AllI.cons ?_ ?_
    · refine stepI_alloc 10 rfl (fun p => rfl) rfl (qfn fun _ => 0) 23 (fun p => rfl) ?_ ?_
      · intro p w1
        go_simp
        first | rfl | rw [zero_quat]
      rintro p L w1 ⟨hsz, hB, o, st, g, h_q, h_h, hne_q_h⟩ hk
      have L12 : L 12 = false := hk.2.2 12 rfl
      have L13 : L 13 = false := hk.2.2 13 rfl
      refine ⟨Nat.le_trans hsz (by simp), hB.alloc (Nat.le_trans (by first | exact hW0 | (have := hB.size; simp at this ⊢; omega)) hsz) _, o.alloc _, st.alloc _, g.alloc _, fun _ => ⟨hsz, ?_⟩, fun hl => ⟨(h_h hl).1, (h_h hl).2.alloc _⟩, fun _ hl => Nat.ne_of_gt (h_h hl).2.lt⟩
      rw [show upL L 10 12 = false from L12]
      exact blk.new _ _ _
    refine AllI.cons ?_ ?_
    · refine stepI_alloc 11 rfl (fun p => rfl) rfl (qfn fun _ => 0) 22 (fun p => rfl) ?_ ?_
      · intro p w1
        go_simp
        first | rfl | rw [zero_spd]
      rintro p L w1 ⟨hsz, hB, o, st, g, h_q, h_h, hne_q_h⟩ hk
      have L12 : L 12 = false := hk.2.2 12 rfl
      have L13 : L 13 = false := hk.2.2 13 rfl
      refine ⟨Nat.le_trans hsz (by simp), hB.alloc (Nat.le_trans (by first | exact hW0 | (have := hB.size; simp at this ⊢; omega)) hsz) _, o.alloc _, st.alloc _, g.alloc _, fun hl => ⟨(h_q hl).1, (h_q hl).2.alloc _⟩, fun _ => ⟨hsz, ?_⟩, fun hl _ => Nat.ne_of_lt (h_q hl).2.lt⟩
      rw [show upL L 11 13 = false from L13]
      exact blk.new _ _ _
    refine AllI.cons ?_ ?_
    · refine stepI_store 12 rfl (fun p => rfl) (fun p => rfl) _ _ _ rfl (fun p => p 10) 0 (fun p => rfl) (fun p => (qfn X.Q)) (fun p => rfl) (fun p => (qfn fun _ => 0)) (fun p => (qfn X.Q)) 23 (fun p => over_qq _ _) (fun p => by first | (rw [qfn_size, qfn_size]; decide) | simp [qfn_size, qfn_size]) (fun p => by rw [qfn_size]; kernel_rfl) (fun p => qfn_one _) ?_ ?_
      · rintro p L w1 ⟨hsz, hB, o, st, g, h_q, h_h, hne_q_h⟩ hk
        have L12 : L 12 = false := hk.1
        have L13 : L 13 = false := hk.2.2 13 rfl
        have hh := (h_q (hk.2.1 10 rfl)).2
        rw [L12] at hh
        try simp only [cond_true, cond_false] at hh
        exact hh
      · rintro p L w1 ⟨hsz, hB, o, st, g, h_q, h_h, hne_q_h⟩ hk
        have L12 : L 12 = false := hk.1
        have L13 : L 13 = false := hk.2.2 13 rfl
        skip
        have hp := h_q (hk.2.1 10 rfl)
        refine ⟨(by simpa using hsz), Below.setRow hB (by first | exact Nat.le_trans hW0 hp.1 | exact ge_q | omega | (have := hB.size; simp at this ⊢; omega)) _, o.rowOther (.inr (Nat.lt_of_lt_of_le lt_o hp.1)) _, st.rowOther (by first | exact Nat.ne_of_lt (Nat.lt_of_lt_of_le lt_st hp.1) | omega) _, g.rowOther (by first | exact Nat.ne_of_lt (Nat.lt_of_lt_of_le lt_g hp.1) | omega) _, fun _ => ⟨hp.1, ?_⟩, fun hl => ⟨(h_h hl).1, (h_h hl).2.rowOther (Ne.symm (hne_q_h (hk.2.1 10 rfl) hl)) _⟩, hne_q_h⟩
        rw [show upL L 12 12 = true from rfl]
        exact hp.2.row _
    refine AllI.cons ?_ ?_
    · refine stepI_store 13 rfl (fun p => rfl) (fun p => rfl) _ _ _ rfl (fun p => p 11) 0 (fun p => rfl) (fun p => (qfn X.h)) (fun p => rfl) (fun p => (qfn fun _ => 0)) (fun p => (qfn X.h)) 22 (fun p => over_qq _ _) (fun p => by first | (rw [qfn_size, qfn_size]; decide) | simp [qfn_size, qfn_size]) (fun p => by rw [qfn_size]; kernel_rfl) (fun p => qfn_one _) ?_ ?_
      · rintro p L w1 ⟨hsz, hB, o, st, g, h_q, h_h, hne_q_h⟩ hk
        have L12 : L 12 = true := hk.2.1 12 rfl
        have L13 : L 13 = false := hk.1
        have hh := (h_h (hk.2.1 11 rfl)).2
        rw [L13] at hh
        try simp only [cond_true, cond_false] at hh
        exact hh
      · rintro p L w1 ⟨hsz, hB, o, st, g, h_q, h_h, hne_q_h⟩ hk
        have L12 : L 12 = true := hk.2.1 12 rfl
        have L13 : L 13 = false := hk.1
        skip
        have hp := h_h (hk.2.1 11 rfl)
        refine ⟨(by simpa using hsz), Below.setRow hB (by first | exact Nat.le_trans hW0 hp.1 | exact ge_h | omega | (have := hB.size; simp at this ⊢; omega)) _, o.rowOther (.inr (Nat.lt_of_lt_of_le lt_o hp.1)) _, st.rowOther (by first | exact Nat.ne_of_lt (Nat.lt_of_lt_of_le lt_st hp.1) | omega) _, g.rowOther (by first | exact Nat.ne_of_lt (Nat.lt_of_lt_of_le lt_g hp.1) | omega) _, fun hl => ⟨(h_q hl).1, (h_q hl).2.rowOther (hne_q_h hl (hk.2.1 11 rfl)) _⟩, fun _ => ⟨hp.1, ?_⟩, hne_q_h⟩
        rw [show upL L 13 13 = true from rfl]
        exact hp.2.row _
    exact AllI.nil
  case hV0 =>
    intro p q
    refine AllI.cons ?_ ?_
    · skip
      iterate 14 (refine AllI.cons (by first | exact .inl rfl | (refine .inr ?_; simp only [List.getD_cons_zero, List.getD_cons_succ]; done) | exact .inr rfl) ?_)
      exact AllI.nil
    refine AllI.cons ?_ ?_
    · skip
      iterate 14 (refine AllI.cons (by first | exact .inl rfl | (refine .inr ?_; simp only [List.getD_cons_zero, List.getD_cons_succ]; done) | exact .inr rfl) ?_)
      exact AllI.nil
    exact AllI.nil
  case he =>
  clear hB o st g
  rintro p w2r ⟨hsz, hB, o, st, g, h_q, h_h, hne_q_h⟩
  obtain ⟨le_q, q⟩ := h_q rfl
  clear h_q
  obtain ⟨le_h, h⟩ := h_h rfl
  clear h_h
  have ne_q_h : p 10 ≠ p 11 := hne_q_h rfl rfl
  clear hne_q_h
  replace q : blk w2r (p 10) (qfn X.Q) 23 := q
  replace h : blk w2r (p 11) (qfn X.h) 22 := h
  have ne_o_q : ob ≠ p 10 := Nat.ne_of_lt (Nat.lt_of_lt_of_le lt_o le_q)
  have ne_st_q : sb ≠ p 10 := Nat.ne_of_lt (Nat.lt_of_lt_of_le lt_st le_q)
  have ne_g_q : lb ≠ p 10 := Nat.ne_of_lt (Nat.lt_of_lt_of_le lt_g le_q)
  have ge_q : w.heap.size ≤ p 10 := Nat.le_trans hW0 le_q
  have out_q : ob < p 10 := Nat.lt_of_lt_of_le lt_o le_q
  have ne_o_h : ob ≠ p 11 := Nat.ne_of_lt (Nat.lt_of_lt_of_le lt_o le_h)
  have ne_st_h : sb ≠ p 11 := Nat.ne_of_lt (Nat.lt_of_lt_of_le lt_st le_h)
  have ne_g_h : lb ≠ p 11 := Nat.ne_of_lt (Nat.lt_of_lt_of_le lt_g le_h)
  have ge_h : w.heap.size ≤ p 11 := Nat.le_trans hW0 le_h
  have out_h : ob < p 11 := Nat.lt_of_lt_of_le lt_o le_h
  generalize p 10 = q_b at *
  generalize p 11 = h_b at *
  clear lt_o
  clear lt_st
  clear lt_g
  clear hsz hW0
  have oq : hi < q_b := Nat.lt_of_lt_of_le l6 le_q
  have oh : hi < h_b := Nat.lt_of_lt_of_le l6 le_h
  have l : lop lo hi lb w2r (X, S, of3 1073741824 0 0) := ⟨ob, sb, l1, l2, l3, l4, l5, Nat.lt_of_lt_of_le oq (Nat.le_of_lt q.lt), o, st, g⟩
  clear o st g
  go_wp2_with (fail)
  go_loopg [7] 10 (fun g_ iv wr => ∃ (k : Nat) (Y : BSt) (T : SSt), g_ + k = 10 ∧ iv = .int .i64 k ∧ RI Y T ∧ Stage (40 + k) Y ∧ Y.Q = X.Q ∧ (∀ i, i < 4 → Y.h i = X.h i) ∧ lop lo hi lb wr (Y, T, of3 1073741824 0 0) ∧ blk wr q_b (qfn X.Q) 23 ∧ blk wr h_b (qfn X.h) 22 ∧ Below w.heap.size w wr)
  case atStart => exact ⟨0, X, S, rfl, rfl, kR, kS, rfl, fun _ _ => rfl, l, q, h, hB⟩
  case round =>
    clear l hB kR kS q h
    obtain ⟨k, Y, T, hk, rfl, kR, kS, eQ, eH, l, q, h, hB⟩ := hrel
    by_cases hkn : k < 10
    · have hdk : decide ((k : Int) < 10) = true := decide_eq_true (by omega)
      have hdk' : decide (k < 10) = true := decide_eq_true (by omega)
      have hw3 : IntKind.i64.wrap ((k : Int) + 1) = ((k + 1 : Nat) : Int) := by rw [IntKind.wrap_i64]; omega
      obtain ⟨r1, r2, r3, r4⟩ := ST (40 + k) Y T kR (by omega) kS
      replace r3 : (rtB Y T (of3 1073741824 0 0)).Q = X.Q := r3.trans eQ
      replace r4 : ∀ i, i < 4 → (rtB Y T (of3 1073741824 0 0)).h i = X.h i := fun i hi => (r4 i hi).trans (eH i hi)
      replace TK := Lib.hid (fun w h => TK.out w Y T lo hi lb h kR (40 + k) (by omega) kS)
      generalize rtB Y T (of3 1073741824 0 0) = Yn at *
      generalize restX T (senseV Y (of3 1073741824 0 0)) = Tn at *
      go_upto_region 11 with (first | (go_at_call 50; with_reducible refine (TK.out _ l).mono ?_; rintro e w5 ⟨rfl, l2, hS⟩; replace hB := hB.trans (hS.below hB.size hlo); replace q := q.save hS (.inr oq); replace h := h.save hS (.inr oh); clear hS) | (rw [zero_vec]; refine wpList_store_row rfl _ _ _ rfl _ rfl _ rfl _ _ (blk.new _ _ _) (by first | kernel_rfl | (rw [vfn_size]; kernel_rfl)) (by first | rfl | simp only [vfn_size]) (by first | exact vfn_one _ | rfl) ?_))
      clear l TK
      obtain ⟨ob, sb, l1, l2, l3, l4, l5, l6, o, st, g⟩ := l2
      have c := (blk.new w5 (vfn fun _ => 0) 25).row (vfn (fun _ => 0))
      replace hB := Below.setRow (hB.alloc hB.size (.cells (vfn fun _ => 0) 25)) (g := w5.heap.size) hB.size (vfn (fun _ => 0))
      have hne : ∀ x, x < w5.heap.size → x ≠ w5.heap.size := fun x hx => Nat.ne_of_lt hx
      have out_c : ob < w5.heap.size := o.lt
      replace q := (q.alloc (.cells (vfn fun _ => 0) 25)).rowOther (hne _ q.lt) (vfn (fun _ => 0))
      replace h := (h.alloc (.cells (vfn fun _ => 0) 25)).rowOther (hne _ h.lt) (vfn (fun _ => 0))
      replace o := (o.alloc (.cells (vfn fun _ => 0) 25)).rowOther (.inr o.lt) (vfn (fun _ => 0))
      replace st := (st.alloc (.cells (vfn fun _ => 0) 25)).rowOther (hne _ st.lt) (vfn (fun _ => 0))
      replace g := (g.alloc (.cells (vfn fun _ => 0) 25)).rowOther (hne _ g.lt) (vfn (fun _ => 0))
      clear hne
      generalize (w5.alloc (.cells (vfn fun _ => 0) 25)).setRow w5.heap.size (vfn (fun _ => 0)) = w5x at *
      generalize w5.heap.size = c_b at *
      have lt_q := q.lt
      have lt_h := h.lt
      have lt_o := o.lt
      have lt_st := st.lt
      have lt_g := g.lt
      have lt_c := c.lt
      have hW0 : w.heap.size ≤ w5x.heap.size := by have := hB.size; first | exact this | simpa using this
      apply wp_region_I 25 [0, 1, 3, 7, 7, 31, 63, 127, 255, 511, 1023, 2047, 4095, 255, 16383, 32767, 65535, 131071, 262143, 524287, 1048575, 2097151, 131071, 8388607, 16777215] [] [_, _, _, _, _, _, _, _, _, _, _, _, _, _, _, _, _, _, _, _, _, _, _, _, _] (fun p L w' => w5x.heap.size ≤ w'.heap.size ∧ Below w.heap.size w w' ∧ blk w' q_b (qfn X.Q) 23 ∧ blk w' h_b (qfn X.h) 22 ∧ bod lo ob w' (Yn) ∧ blk w' sb (ssc Tn) 56 ∧ blk w' lb (lpc (ob, sb, of3 1073741824 0 0)) 94 ∧ blk w' c_b (vfn (fun _ => 0)) 25) _ [(0, 42), (1, 43), (2, 44), (3, 45), (4, 46), (5, 47), (6, 48), (7, 49), (8, 50), (9, 51), (10, 52), (11, 53), (12, 54), (13, 55), (14, 56), (15, 57), (16, 58), (17, 59), (18, 60), (19, 61), (20, 62), (21, 63), (22, 64), (23, 65), (24, 66)] [0, 1, 2, 3, 4, 5, 6, 7, 8, 9, 10, 11, 12, 13, 14, 15, 16, 17, 18, 19, 20, 21, 22, 23, 24]
      case hn => rfl
      case hm => kernel_rfl
      case hB => kernel_rfl
      case hds => kernel_rfl
      case hA => (intro p; simp only [putsD, Act.put, List.setIfInBounds_toArray, List.set_cons_zero, List.set_cons_succ, List.getD_cons_zero, List.getD_cons_succ]; exact rfl)
      case h0 => exact fun p => ⟨Nat.le_refl _, hB.drew, q.drew, h.drew, o.drew, st.drew, g.drew, c.drew⟩
      case hmore => exact fun p L w1 w2 ⟨hsz, hB, q, h, o, st, g, c⟩ hm => ⟨Nat.le_trans hsz hm.size, hB.trans (hm.mono (Nat.le_trans hW0 hsz)), q.below hm q.lt, h.below hm h.lt, o.below hm o.lt, st.below hm st.lt, g.below hm g.lt, c.below hm c.lt⟩
      case hs =>
        intro more
        iterate 3 (refine stepV _ rfl rfl (fun _ _ _ h => h) (by intros; go_simp; exact ⟨rfl, rfl⟩) ?_)
        refine stepVg 3 rfl (fun p => (by first | rfl | (simp [Region.wanted, yielded]; done))) (fun _ _ _ h => h) ?_ ?_
        · rintro p L w1 ⟨hsz, hB, q, h, o, st, g, c⟩ hk
          first | exact valR_row _ _ rfl _ rfl _ _ c _ Try.underlying25 rfl (by first | kernel_rfl | (rw [vfn_size]; kernel_rfl)) rfl | (have hc := c.cellIs (vfn_get _ (show 0 < 3 by omega)); go_simp; exact ⟨rfl, rfl⟩)
        refine stepVg 4 rfl (fun p => (by first | rfl | (simp [Region.wanted, yielded]; done))) (fun _ _ _ h => h) ?_ ?_
        · intros; (try simp only [vfn, qfn]); go_simp; exact ⟨rfl, rfl⟩
        refine stepVg _ rfl (fun p => (by first | rfl | (simp [Region.wanted, yielded]; done))) (fun _ _ _ h => h) (by intros; go_simp; exact ⟨rfl, rfl⟩) ?_
        iterate 2 (refine stepV _ rfl rfl (fun _ _ _ h => h) (by intros; go_simp; exact ⟨rfl, rfl⟩) ?_)
        iterate 3 (refine stepVg _ rfl (fun p => (by first | rfl | (simp [Region.wanted, yielded]; done))) (fun _ _ _ h => h) (by intros; go_simp; exact ⟨rfl, rfl⟩) ?_)
        refine stepVg 11 rfl (fun p => (by first | rfl | (simp [Region.wanted, yielded]; done))) (fun _ _ _ h => h) ?_ ?_
        · rintro p L w1 ⟨hsz, hB, q, h, o, st, g, c⟩ hk
          have hc : w1.cell? ⟨lb, 0, none⟩ = some (.pointer (some ⟨ob, 0, none⟩)) := g.cellIs rfl
          go_simp
          exact ⟨rfl, rfl⟩
        refine stepD 12 rfl (fun p => (by first | rfl | (simp [Region.wanted, yielded]; done))) (fun _ _ _ h => h) more ?_ ?_
        · rintro p L w1 ⟨hsz, hB, q, h, o, st, g, c⟩ hk
          go_simp
          refine (AT.out _ Yn _ _ _ o r3).mono ?_
          rintro e w2 ⟨rfl, h2⟩
          first | exact ⟨rfl, h2⟩ | (subst h2; exact ⟨rfl, Below.refl _ _⟩)
        refine stepVg 13 rfl (fun p => (by first | rfl | (simp [Region.wanted, yielded]; done))) (fun _ _ _ h => h) ?_ ?_
        · rintro p L w1 ⟨hsz, hB, q, h, o, st, g, c⟩ hk
          first | exact valR_row _ _ rfl _ rfl _ _ q _ Try.underlying23 rfl (by first | kernel_rfl | (rw [qfn_size]; kernel_rfl)) rfl | (have hc := q.cellIs (qfn_get _ (show 0 < 4 by omega)); go_simp; exact ⟨rfl, rfl⟩)
        refine stepVg _ rfl (fun p => (by first | rfl | (simp [Region.wanted, yielded]; done))) (fun _ _ _ h => h) (by intros; go_simp; exact ⟨rfl, rfl⟩) ?_
        iterate 2 (refine stepV _ rfl rfl (fun _ _ _ h => h) (by intros; go_simp; exact ⟨rfl, rfl⟩) ?_)
        iterate 3 (refine stepVg _ rfl (fun p => (by first | rfl | (simp [Region.wanted, yielded]; done))) (fun _ _ _ h => h) (by intros; go_simp; exact ⟨rfl, rfl⟩) ?_)
        refine stepVg 20 rfl (fun p => (by first | rfl | (simp [Region.wanted, yielded]; done))) (fun _ _ _ h => h) ?_ ?_
        · rintro p L w1 ⟨hsz, hB, q, h, o, st, g, c⟩ hk
          have hc : w1.cell? ⟨lb, 0, none⟩ = some (.pointer (some ⟨ob, 0, none⟩)) := g.cellIs rfl
          go_simp
          exact ⟨rfl, rfl⟩
        refine stepD 21 rfl (fun p => (by first | rfl | (simp [Region.wanted, yielded]; done))) (fun _ _ _ h => h) more ?_ ?_
        · rintro p L w1 ⟨hsz, hB, q, h, o, st, g, c⟩ hk
          go_simp
          refine (SP.out _ Yn _ _ _ o r4).mono ?_
          rintro e w2 ⟨rfl, h2⟩
          first | exact ⟨rfl, h2⟩ | (subst h2; exact ⟨rfl, Below.refl _ _⟩)
        refine stepVg 22 rfl (fun p => (by first | rfl | (simp [Region.wanted, yielded]; done))) (fun _ _ _ h => h) ?_ ?_
        · rintro p L w1 ⟨hsz, hB, q, h, o, st, g, c⟩ hk
          first | exact valR_row _ _ rfl _ rfl _ _ h _ Try.underlying22 rfl (by first | kernel_rfl | (rw [qfn_size]; kernel_rfl)) rfl | (have hc := h.cellIs (qfn_get _ (show 0 < 4 by omega)); go_simp; exact ⟨rfl, rfl⟩)
        refine stepVg _ rfl (fun p => (by first | rfl | (simp [Region.wanted, yielded]; done))) (fun _ _ _ h => h) (by intros; go_simp; exact ⟨rfl, rfl⟩) ?_
        refine stepV _ rfl rfl (fun _ _ _ h => h) (by intros; go_simp; exact ⟨rfl, rfl⟩) ?_
        exact AllI.nil
      case hV0 => exact fun p q => AllI.nil
      case he =>
      clear hB q h o st g c
      rintro p w5xr ⟨hsz, hB, q, h, o, st, g, c⟩
      clear lt_q
      clear lt_h
      clear lt_o
      clear lt_st
      clear lt_g
      clear lt_c
      clear hsz hW0
      have l : lop lo hi lb w5xr (Yn, Tn, of3 1073741824 0 0) := ⟨ob, sb, l1, l2, l3, l4, l5, by have := h.lt; omega, o, st, g⟩
      clear o st g c
      go_wp2_with (fail)
      go_roundg (10 - (k + 1))
      case rel =>
        exact ⟨k + 1, Yn, Tn, by omega, rfl, r1, r2, r3, r4, l, q, h, hB⟩
      case measure => omega
    · obtain rfl : k = 10 := by omega
      go_wp2_with (first
        | (go_at_call 19; with_reducible refine (AW.out _).mono ?_; rintro e w9 ⟨rfl, hb⟩; replace hB := hB.trans (hb.mono hB.size); replace q := q.below hb q.lt; replace h := h.below hb h.lt; clear hb))
      go_ret
      exact ⟨rfl, hB⟩
theorem srests_any (x : BSt) (w : World) (hQ : ∀ i, i < 4 → I64 (x.Q i)) : Calls Try.prog 13 #[.agg (rbc x)] w fun e w' => e = .returned (.bool true) ∧ Below w.heap.size w w' := by
  cases hk : newOk x with
  | false => exact srests_no x w hQ hk
  | true => exact srests_ok x w hQ hk
end Go.Proofs.Ytjnocbjngojigaa
