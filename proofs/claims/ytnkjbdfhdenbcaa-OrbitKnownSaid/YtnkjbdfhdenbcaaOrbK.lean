/-
  Orbits: the examples of the document, reckoned.
-/
import Derived.Test.YtnkjbdfhdenbcaaWinE
set_option linter.unusedSimpArgs false
set_option linter.unusedVariables false
namespace Go.Proofs.Ytnkjbdfhdenbcaa
open Go.RowKit PM Dt
theorem poly_steps {y a b c d e p1 p2 p3 p4 p5 : Int} (h1 : mulV y e = p1) (h2 : mulV y (wrap64 (d - p1)) = p2) (h3 : mulV y (wrap64 (c - p2)) = p3) (h4 : mulV y (wrap64 (b - p3)) = p4) (h5 : mulV y (wrap64 (a - p4)) = p5) : poly y a b c d e = p5 := by
  unfold poly; rw [h1, h2, h3, h4, h5]
theorem wv0 : waveV 0 = 0 := by
  have h1 : arcV 0 = 0 := by decide +kernel
  have h2 : mulV 0 0 = 0 := by decide +kernel
  have h3 : poly 0 178956971 8947849 213044 2959 27 = 0 := poly_steps (p1 := 0) (p2 := 0) (p3 := 0) (p4 := 0) (by decide +kernel) (by decide +kernel) (by decide +kernel) (by decide +kernel) (by decide +kernel)
  unfold waveV
  rw [if_pos (by decide), h1, h2, h3]
  decide +kernel
theorem wv1 : waveV 134217728 = 209476638 := by
  have h1 : arcV 134217728 = 210828714 := by decide +kernel
  have h2 : mulV 210828714 210828714 = 41396121 := by decide +kernel
  have h3 : poly 41396121 178956971 8947849 213044 2959 27 = 6886066 := poly_steps (p1 := 1) (p2 := 114) (p3 := 8209) (p4 := 344651) (by decide +kernel) (by decide +kernel) (by decide +kernel) (by decide +kernel) (by decide +kernel)
  unfold waveV
  rw [if_pos (by decide), h1, h2, h3]
  decide +kernel
theorem wv2 : waveV 268435456 = 410903207 := by
  have h1 : arcV 268435456 = 421657428 := by decide +kernel
  have h2 : mulV 421657428 421657428 = 165584485 := by decide +kernel
  have h3 : poly 165584485 178956971 8947849 213044 2959 27 = 27385400 := poly_steps (p1 := 4) (p2 := 456) (p3 := 32784) (p4 := 1374815) (by decide +kernel) (by decide +kernel) (by decide +kernel) (by decide +kernel) (by decide +kernel)
  unfold waveV
  rw [if_pos (by decide), h1, h2, h3]
  decide +kernel
theorem wv4 : waveV 536870912 = 759250125 := by
  have h1 : arcV 536870912 = 843314857 := by decide +kernel
  have h2 : mulV 843314857 843314857 = 662337940 := by decide +kernel
  have h3 : poly 662337940 178956971 8947849 213044 2959 27 = 107034541 := poly_steps (p1 := 17) (p2 := 1815) (p3 := 130297) (p4 := 5439109) (by decide +kernel) (by decide +kernel) (by decide +kernel) (by decide +kernel) (by decide +kernel)
  unfold waveV
  rw [if_pos (by decide), h1, h2, h3]
  decide +kernel
theorem wv6 : waveV 805306368 = 992008094 := by
  have h0 : (1073741824 : Int) - 805306368 = 268435456 := by decide
  have h1 : arcV 268435456 = 421657428 := by decide +kernel
  have h2 : mulV 421657428 421657428 = 165584485 := by decide +kernel
  have h3 : poly 165584485 536870912 44739243 1491308 26631 296 = 81733730 := poly_steps (p1 := 46) (p2 := 4100) (p3 := 229346) (p4 := 6863986) (by decide +kernel) (by decide +kernel) (by decide +kernel) (by decide +kernel) (by decide +kernel)
  unfold waveV
  rw [if_neg (by decide), h0, h1, h2, h3]
  decide +kernel
theorem wv7 : waveV 939524096 = 1053110176 := by
  have h0 : (1073741824 : Int) - 939524096 = 134217728 := by decide
  have h1 : arcV 134217728 = 210828714 := by decide +kernel
  have h2 : mulV 210828714 210828714 = 41396121 := by decide +kernel
  have h3 : poly 41396121 536870912 44739243 1491308 26631 296 = 20631648 := poly_steps (p1 := 11) (p2 := 1026) (p3 := 57455) (p4 := 1722623) (by decide +kernel) (by decide +kernel) (by decide +kernel) (by decide +kernel) (by decide +kernel)
  unfold waveV
  rw [if_neg (by decide), h0, h1, h2, h3]
  decide +kernel
theorem wv8 : waveV 1073741824 = 1073741824 := by
  have h0 : (1073741824 : Int) - 1073741824 = 0 := by decide
  have h1 : arcV 0 = 0 := by decide +kernel
  have h2 : mulV 0 0 = 0 := by decide +kernel
  have h3 : poly 0 536870912 44739243 1491308 26631 296 = 0 := poly_steps (p1 := 0) (p2 := 0) (p3 := 0) (p4 := 0) (by decide +kernel) (by decide +kernel) (by decide +kernel) (by decide +kernel) (by decide +kernel)
  unfold waveV
  rw [if_neg (by decide), h0, h1, h2, h3]
  decide +kernel
theorem sv0 : sinV 0 = 0 := by
  rw [sinV_of (q := 0) (r := 0) (by omega) (by omega), sinQ0, show ((0 : Nat) : Int) = 0 from by decide, wv0]
theorem sv1 : sinV 134217728 = 209476638 := by
  rw [sinV_of (q := 0) (r := 134217728) (by omega) (by omega), sinQ0, show ((134217728 : Nat) : Int) = 134217728 from by decide, wv1]
theorem sv2 : sinV 268435456 = 410903207 := by
  rw [sinV_of (q := 0) (r := 268435456) (by omega) (by omega), sinQ0, show ((268435456 : Nat) : Int) = 268435456 from by decide, wv2]
theorem sv4 : sinV 536870912 = 759250125 := by
  rw [sinV_of (q := 0) (r := 536870912) (by omega) (by omega), sinQ0, show ((536870912 : Nat) : Int) = 536870912 from by decide, wv4]
theorem sv6 : sinV 805306368 = 992008094 := by
  rw [sinV_of (q := 0) (r := 805306368) (by omega) (by omega), sinQ0, show ((805306368 : Nat) : Int) = 805306368 from by decide, wv6]
theorem sv8 : sinV 1073741824 = 1073741824 := by
  rw [sinV_of (q := 1) (r := 0) (by omega) (by omega), sinQ1, show (1073741824 : Int) - ((0 : Nat) : Int) = 1073741824 from by decide, wv8]
theorem sv10 : sinV 1342177280 = 992008094 := by
  rw [sinV_of (q := 1) (r := 268435456) (by omega) (by omega), sinQ1, show (1073741824 : Int) - ((268435456 : Nat) : Int) = 805306368 from by decide, wv6]
theorem sv12 : sinV 1610612736 = 759250125 := by
  rw [sinV_of (q := 1) (r := 536870912) (by omega) (by omega), sinQ1, show (1073741824 : Int) - ((536870912 : Nat) : Int) = 536870912 from by decide, wv4]
theorem sv14 : sinV 1879048192 = 410903207 := by
  rw [sinV_of (q := 1) (r := 805306368) (by omega) (by omega), sinQ1, show (1073741824 : Int) - ((805306368 : Nat) : Int) = 268435456 from by decide, wv2]
theorem sv16 : sinV 2147483648 = 0 := by
  rw [sinV_of (q := 2) (r := 0) (by omega) (by omega), sinQ2 (by omega), show ((0 : Nat) : Int) = 0 from by decide, wv0]
  rfl
theorem sv18 : sinV 2415919104 = (-410903207) := by
  rw [sinV_of (q := 2) (r := 268435456) (by omega) (by omega), sinQ2 (by omega), show ((268435456 : Nat) : Int) = 268435456 from by decide, wv2]
theorem sv20 : sinV 2684354560 = (-759250125) := by
  rw [sinV_of (q := 2) (r := 536870912) (by omega) (by omega), sinQ2 (by omega), show ((536870912 : Nat) : Int) = 536870912 from by decide, wv4]
theorem sv22 : sinV 2952790016 = (-992008094) := by
  rw [sinV_of (q := 2) (r := 805306368) (by omega) (by omega), sinQ2 (by omega), show ((805306368 : Nat) : Int) = 805306368 from by decide, wv6]
theorem sv24 : sinV 3221225472 = (-1073741824) := by
  rw [sinV_of (q := 3) (r := 0) (by omega) (by omega), sinQ3 (by omega), show (1073741824 : Int) - ((0 : Nat) : Int) = 1073741824 from by decide, wv8]
theorem sv26 : sinV 3489660928 = (-992008094) := by
  rw [sinV_of (q := 3) (r := 268435456) (by omega) (by omega), sinQ3 (by omega), show (1073741824 : Int) - ((268435456 : Nat) : Int) = 805306368 from by decide, wv6]
theorem sv28 : sinV 3758096384 = (-759250125) := by
  rw [sinV_of (q := 3) (r := 536870912) (by omega) (by omega), sinQ3 (by omega), show (1073741824 : Int) - ((536870912 : Nat) : Int) = 536870912 from by decide, wv4]
theorem sv30 : sinV 4026531840 = (-410903207) := by
  rw [sinV_of (q := 3) (r := 805306368) (by omega) (by omega), sinQ3 (by omega), show (1073741824 : Int) - ((805306368 : Nat) : Int) = 268435456 from by decide, wv2]
theorem sv9 : sinV 1207959552 = 1053110176 := by
  rw [sinV_of (q := 1) (r := 134217728) (by omega) (by omega), sinQ1, show (1073741824 : Int) - ((134217728 : Nat) : Int) = 939524096 from by decide, wv7]
theorem sinI_at {x : Int} (k : Nat) (v : Int) (h : x.toNat = k) (hv : sinV k = v) : sinI x = v := by unfold sinI; rw [h, hv]
theorem cosI_at {x : Int} (k : Nat) (v : Int) (h : (x.toNat + 1073741824) % 4294967296 = k) (hv : sinV k = v) : cosI x = v := by unfold cosI; rw [h, hv]
theorem pl_eval {f : Nat → Int} {t u su cu cn sn ct st y x1 x2 z : Int} (hu : orbU f t = u) (h1 : sinI u = su) (h2 : cosI u = cu) (h3 : cosI (f 4) = cn) (h4 : sinI (f 4) = sn) (h5 : cosI (f 5) = ct) (h6 : sinI (f 5) = st) (hy : mulV su ct = y) (hx : dotV [cu, wrap64 (-y)] [cn, sn] = x1) (hx2 : dotV [cu, y] [sn, cn] = x2) (hz : mulV su st = z) : plX3 f t = of3 x1 x2 z := by
  unfold plX3 plY; rw [hu, h1, h2, h3, h4, h5, h6, hy, hx, hx2, hz]
theorem su_eval {f : Nat → Int} {t u su cu : Int} (hu : orbS f t = u) (h1 : sinI u = su) (h2 : cosI u = cu) : suX3 f t = of3 cu su 0 := by
  unfold suX3; rw [hu, h1, h2]
theorem st_eval {f g : Nat → Int} {t u su cu cl sl x1 x2 : Int} (hu : orbD f g t = u) (h1 : sinI u = su) (h2 : cosI u = cu) (h3 : cosI (g 0) = cl) (h4 : sinI (g 0) = sl) (hx : mulV cl cu = x1) (hx2 : mulV cl su = x2) : stX3 f g t = of3 x1 x2 sl := by
  unfold stX3; rw [hu, h1, h2, h3, h4, hx, hx2]
theorem unit3_val {f F : Nat → Int} (N : Nat) {a b c : Int} (hk : okV f = true) (hz : zV f = false) (hF : ∀ i, i < 3 → shft 3 45 f i = F i) (h4 : sqs [F 0, F 1, F 2] < 4 ^ 200) (h1 : N * N ≤ sqs [F 0, F 1, F 2]) (h2 : sqs [F 0, F 1, F 2] < (N + 1) * (N + 1))
    (ha : ratioV (F 0) 1073741824 (fitV (N : Int)) = a) (hb : ratioV (F 1) 1073741824 (fitV (N : Int)) = b) (hc : ratioV (F 2) 1073741824 (fitV (N : Int)) = c) : ∀ i, i < 3 → vunF f i = of3 a b c i := by
  have hn : n3 (shft 3 45 f) = (N : Int) := by
    unfold n3 hypQ
    rw [hF 0 (by omega), hF 1 (by omega), hF 2 (by omega), isqrt_eq h4 h1 h2]
  have hv : vunF f = vuX f := by unfold vunF; rw [hk, hz]; rfl
  intro i hi
  have e : vunF f i = ratioV (F i) 1073741824 (fitV (N : Int)) := by rw [hv]; unfold vuX; rw [hF i hi, hn]
  have : i = 0 ∨ i = 1 ∨ i = 2 := by omega
  rcases this with rfl | rfl | rfl
  · exact e.trans ha
  · exact e.trans hb
  · exact e.trans hc
theorem dec3f {f g : Nat → Int} (h0 : f 0 = g 0) (h1 : f 1 = g 1) (h2 : f 2 = g 2) : ∀ i, i < 3 → f i = g i := by
  intro i hi
  have : i = 0 ∨ i = 1 ∨ i = 2 := by omega
  rcases this with rfl | rfl | rfl <;> assumption
theorem vdot_congr {f f' g g' : Nat → Int} (hf : ∀ i, i < 3 → f i = f' i) (hg : ∀ i, i < 3 → g i = g' i) : vdotV f g = vdotV f' g' := by
  unfold vdotV okV d3
  rw [hf 0 (by omega), hf 1 (by omega), hf 2 (by omega), hg 0 (by omega), hg 1 (by omega), hg 2 (by omega)]
theorem placeF_of {f : Nat → Int} {t : Int} (h : (okO f && okT t) = true) : placeF f t = vunF (plX3 f t) := if_pos h
theorem sunF_of {f : Nat → Int} {t : Int} (h : (okO f && okT t) = true) : sunF f t = vunF (suX3 f t) := if_pos h
theorem statF_of {f g : Nat → Int} {t : Int} (h : (okO f && okT t && okS g) = true) : statF f g t = vunF (stX3 f g t) := if_pos h
theorem view_of {f g X Y : Nat → Int} {t : Int} (h : (okO f && okT t && okS g) = true) (hX : ∀ i, i < 3 → placeF f t i = X i) (hY : ∀ i, i < 3 → statF f g t i = Y i) (b : Bool) (hb : decide (g 2 ≤ vdotV X Y) = b) : viewB f g t = b := by
  unfold viewB; rw [h]
  show decide (g 2 ≤ vdotV (placeF f t) (statF f g t)) = b
  rw [vdot_congr hX hY]; exact hb
theorem dark_of {f X Y : Nat → Int} {t : Int} (h : (okO f && okT t) = true) (hX : ∀ i, i < 3 → placeF f t i = X i) (hY : ∀ i, i < 3 → sunF f t i = Y i) (b : Bool) (hb : dark0 (vdotV X Y) (f 7) = b) : darkB f t = b := by
  unfold darkB; rw [h]
  show dark0 (vdotV (placeF f t) (sunF f t)) (f 7) = b
  rw [vdot_congr hX hY]; exact hb
/-- The orbits and the station of the examples. -/
def osm : Nat → Int := fun i => if i = 0 then 8 else if i = 1 then 16 else if i = 2 then 64 else if i = 7 then 805306368 else 0
def osmt : Nat → Int := fun i => if i = 0 then 8 else if i = 1 then 16 else if i = 2 then 64 else if i = 7 then 805306368 else if i = 5 then 1073741824 else 0
def osmn : Nat → Int := fun i => if i = 0 then 8 else if i = 1 then 16 else if i = 2 then 64 else if i = 7 then 805306368 else if i = 4 then 1073741824 else 0
def ost0 : Nat → Int := fun i => if i = 2 then 536870912 else 0
theorem osm_cells : #[Value.int .i64 8, .int .i64 16, .int .i64 64, .int .u32 0, .int .u32 0, .int .u32 0, .int .u32 0, .int .i64 805306368] = ofn osm := by unfold ofn; rfl
theorem osmt_cells : #[Value.int .i64 8, .int .i64 16, .int .i64 64, .int .u32 0, .int .u32 0, .int .u32 1073741824, .int .u32 0, .int .i64 805306368] = ofn osmt := by unfold ofn; rfl
theorem osmn_cells : #[Value.int .i64 8, .int .i64 16, .int .i64 64, .int .u32 0, .int .u32 1073741824, .int .u32 0, .int .u32 0, .int .i64 805306368] = ofn osmn := by unfold ofn; rfl
theorem ost0_cells : #[Value.int .u32 0, .int .u32 0, .int .i64 536870912] = stn ost0 := by unfold stn; rfl
theorem OO_osm : OO osm := ⟨⟨⟨by decide, by decide⟩, ⟨by decide, by decide⟩, ⟨by decide, by decide⟩, ⟨by decide, by decide⟩⟩, ⟨by decide, by decide⟩, ⟨by decide, by decide⟩, ⟨by decide, by decide⟩, ⟨by decide, by decide⟩⟩
theorem OO_osmt : OO osmt := ⟨⟨⟨by decide, by decide⟩, ⟨by decide, by decide⟩, ⟨by decide, by decide⟩, ⟨by decide, by decide⟩⟩, ⟨by decide, by decide⟩, ⟨by decide, by decide⟩, ⟨by decide, by decide⟩, ⟨by decide, by decide⟩⟩
theorem OO_osmn : OO osmn := ⟨⟨⟨by decide, by decide⟩, ⟨by decide, by decide⟩, ⟨by decide, by decide⟩, ⟨by decide, by decide⟩⟩, ⟨by decide, by decide⟩, ⟨by decide, by decide⟩, ⟨by decide, by decide⟩, ⟨by decide, by decide⟩⟩
theorem SS_ost0 : SS ost0 := ⟨⟨by decide, by decide⟩, ⟨by decide, by decide⟩, ⟨by decide, by decide⟩⟩
theorem pl_osm_0 : ∀ i, i < 3 → placeF osm 0 i = of3 1073741824 0 0 i := by
  have h : plX3 osm 0 = of3 1073741824 0 0 := pl_eval (u := 0) (y := 0) (by decide +kernel) (sinI_at 0 0 (by decide +kernel) sv0) (cosI_at 1073741824 1073741824 (by decide +kernel) sv8) (cosI_at 1073741824 1073741824 (by decide +kernel) sv8) (sinI_at 0 0 (by decide +kernel) sv0) (cosI_at 1073741824 1073741824 (by decide +kernel) sv8) (sinI_at 0 0 (by decide +kernel) sv0) (by decide +kernel) (by decide +kernel) (by decide +kernel) (by decide +kernel)
  rw [placeF_of (by decide +kernel), h]
  exact unit3_val (f := (of3 1073741824 0 0)) (F := (of3 35184372088832 0 0)) 35184372088832 (by decide +kernel) (by decide +kernel) (dec3f (by decide +kernel) (by decide +kernel) (by decide +kernel)) (by decide +kernel) (by decide +kernel) (by decide +kernel) (by decide +kernel) (by decide +kernel) (by decide +kernel)
theorem st_osm_0 : ∀ i, i < 3 → statF osm ost0 0 i = of3 1073741824 0 0 i := by
  have h : stX3 osm ost0 0 = of3 1073741824 0 0 := st_eval (u := 0) (by decide +kernel) (sinI_at 0 0 (by decide +kernel) sv0) (cosI_at 1073741824 1073741824 (by decide +kernel) sv8) (cosI_at 1073741824 1073741824 (by decide +kernel) sv8) (sinI_at 0 0 (by decide +kernel) sv0) (by decide +kernel) (by decide +kernel)
  rw [statF_of (by decide +kernel), h]
  exact unit3_val (f := (of3 1073741824 0 0)) (F := (of3 35184372088832 0 0)) 35184372088832 (by decide +kernel) (by decide +kernel) (dec3f (by decide +kernel) (by decide +kernel) (by decide +kernel)) (by decide +kernel) (by decide +kernel) (by decide +kernel) (by decide +kernel) (by decide +kernel) (by decide +kernel)
theorem vw0 : viewB osm ost0 (0 + ((0 : Nat) : Int)) = true := show viewB osm ost0 0 = true from view_of (by decide +kernel) pl_osm_0 st_osm_0 _ (by decide +kernel)
theorem pl_osm_1 : ∀ i, i < 3 → placeF osm 1 i = of3 759250125 759250125 0 i := by
  have h : plX3 osm 1 = of3 759250125 759250125 0 := pl_eval (u := 536870912) (y := 759250125) (by decide +kernel) (sinI_at 536870912 759250125 (by decide +kernel) sv4) (cosI_at 1610612736 759250125 (by decide +kernel) sv12) (cosI_at 1073741824 1073741824 (by decide +kernel) sv8) (sinI_at 0 0 (by decide +kernel) sv0) (cosI_at 1073741824 1073741824 (by decide +kernel) sv8) (sinI_at 0 0 (by decide +kernel) sv0) (by decide +kernel) (by decide +kernel) (by decide +kernel) (by decide +kernel)
  rw [placeF_of (by decide +kernel), h]
  exact unit3_val (f := (of3 759250125 759250125 0)) (F := (of3 49758216192000 49758216192000 0)) 70368744178218 (by decide +kernel) (by decide +kernel) (dec3f (by decide +kernel) (by decide +kernel) (by decide +kernel)) (by decide +kernel) (by decide +kernel) (by decide +kernel) (by decide +kernel) (by decide +kernel) (by decide +kernel)
theorem st_osm_1 : ∀ i, i < 3 → statF osm ost0 1 i = of3 992008094 410903207 0 i := by
  have h : stX3 osm ost0 1 = of3 992008094 410903207 0 := st_eval (u := 268435456) (by decide +kernel) (sinI_at 268435456 410903207 (by decide +kernel) sv2) (cosI_at 1342177280 992008094 (by decide +kernel) sv10) (cosI_at 1073741824 1073741824 (by decide +kernel) sv8) (sinI_at 0 0 (by decide +kernel) sv0) (by decide +kernel) (by decide +kernel)
  rw [statF_of (by decide +kernel), h]
  exact unit3_val (f := (of3 992008094 410903207 0)) (F := (of3 65012242448384 26928952573952 0)) 70368744161720 (by decide +kernel) (by decide +kernel) (dec3f (by decide +kernel) (by decide +kernel) (by decide +kernel)) (by decide +kernel) (by decide +kernel) (by decide +kernel) (by decide +kernel) (by decide +kernel) (by decide +kernel)
theorem vw1 : viewB osm ost0 (0 + ((1 : Nat) : Int)) = true := show viewB osm ost0 1 = true from view_of (by decide +kernel) pl_osm_1 st_osm_1 _ (by decide +kernel)
theorem pl_osm_2 : ∀ i, i < 3 → placeF osm 2 i = of3 0 1073741824 0 i := by
  have h : plX3 osm 2 = of3 0 1073741824 0 := pl_eval (u := 1073741824) (y := 1073741824) (by decide +kernel) (sinI_at 1073741824 1073741824 (by decide +kernel) sv8) (cosI_at 2147483648 0 (by decide +kernel) sv16) (cosI_at 1073741824 1073741824 (by decide +kernel) sv8) (sinI_at 0 0 (by decide +kernel) sv0) (cosI_at 1073741824 1073741824 (by decide +kernel) sv8) (sinI_at 0 0 (by decide +kernel) sv0) (by decide +kernel) (by decide +kernel) (by decide +kernel) (by decide +kernel)
  rw [placeF_of (by decide +kernel), h]
  exact unit3_val (f := (of3 0 1073741824 0)) (F := (of3 0 35184372088832 0)) 35184372088832 (by decide +kernel) (by decide +kernel) (dec3f (by decide +kernel) (by decide +kernel) (by decide +kernel)) (by decide +kernel) (by decide +kernel) (by decide +kernel) (by decide +kernel) (by decide +kernel) (by decide +kernel)
theorem st_osm_2 : ∀ i, i < 3 → statF osm ost0 2 i = of3 759250125 759250125 0 i := by
  have h : stX3 osm ost0 2 = of3 759250125 759250125 0 := st_eval (u := 536870912) (by decide +kernel) (sinI_at 536870912 759250125 (by decide +kernel) sv4) (cosI_at 1610612736 759250125 (by decide +kernel) sv12) (cosI_at 1073741824 1073741824 (by decide +kernel) sv8) (sinI_at 0 0 (by decide +kernel) sv0) (by decide +kernel) (by decide +kernel)
  rw [statF_of (by decide +kernel), h]
  exact unit3_val (f := (of3 759250125 759250125 0)) (F := (of3 49758216192000 49758216192000 0)) 70368744178218 (by decide +kernel) (by decide +kernel) (dec3f (by decide +kernel) (by decide +kernel) (by decide +kernel)) (by decide +kernel) (by decide +kernel) (by decide +kernel) (by decide +kernel) (by decide +kernel) (by decide +kernel)
theorem vw2 : viewB osm ost0 (0 + ((2 : Nat) : Int)) = true := show viewB osm ost0 2 = true from view_of (by decide +kernel) pl_osm_2 st_osm_2 _ (by decide +kernel)
theorem pl_osm_3 : ∀ i, i < 3 → placeF osm 3 i = of3 (-759250125) 759250125 0 i := by
  have h : plX3 osm 3 = of3 (-759250125) 759250125 0 := pl_eval (u := 1610612736) (y := 759250125) (by decide +kernel) (sinI_at 1610612736 759250125 (by decide +kernel) sv12) (cosI_at 2684354560 (-759250125) (by decide +kernel) sv20) (cosI_at 1073741824 1073741824 (by decide +kernel) sv8) (sinI_at 0 0 (by decide +kernel) sv0) (cosI_at 1073741824 1073741824 (by decide +kernel) sv8) (sinI_at 0 0 (by decide +kernel) sv0) (by decide +kernel) (by decide +kernel) (by decide +kernel) (by decide +kernel)
  rw [placeF_of (by decide +kernel), h]
  exact unit3_val (f := (of3 (-759250125) 759250125 0)) (F := (of3 (-49758216192000) 49758216192000 0)) 70368744178218 (by decide +kernel) (by decide +kernel) (dec3f (by decide +kernel) (by decide +kernel) (by decide +kernel)) (by decide +kernel) (by decide +kernel) (by decide +kernel) (by decide +kernel) (by decide +kernel) (by decide +kernel)
theorem st_osm_3 : ∀ i, i < 3 → statF osm ost0 3 i = of3 410903207 992008094 0 i := by
  have h : stX3 osm ost0 3 = of3 410903207 992008094 0 := st_eval (u := 805306368) (by decide +kernel) (sinI_at 805306368 992008094 (by decide +kernel) sv6) (cosI_at 1879048192 410903207 (by decide +kernel) sv14) (cosI_at 1073741824 1073741824 (by decide +kernel) sv8) (sinI_at 0 0 (by decide +kernel) sv0) (by decide +kernel) (by decide +kernel)
  rw [statF_of (by decide +kernel), h]
  exact unit3_val (f := (of3 410903207 992008094 0)) (F := (of3 26928952573952 65012242448384 0)) 70368744161720 (by decide +kernel) (by decide +kernel) (dec3f (by decide +kernel) (by decide +kernel) (by decide +kernel)) (by decide +kernel) (by decide +kernel) (by decide +kernel) (by decide +kernel) (by decide +kernel) (by decide +kernel)
theorem vw3 : viewB osm ost0 (0 + ((3 : Nat) : Int)) = false := show viewB osm ost0 3 = false from view_of (by decide +kernel) pl_osm_3 st_osm_3 _ (by decide +kernel)
theorem pl_osm_4 : ∀ i, i < 3 → placeF osm 4 i = of3 (-1073741824) 0 0 i := by
  have h : plX3 osm 4 = of3 (-1073741824) 0 0 := pl_eval (u := 2147483648) (y := 0) (by decide +kernel) (sinI_at 2147483648 0 (by decide +kernel) sv16) (cosI_at 3221225472 (-1073741824) (by decide +kernel) sv24) (cosI_at 1073741824 1073741824 (by decide +kernel) sv8) (sinI_at 0 0 (by decide +kernel) sv0) (cosI_at 1073741824 1073741824 (by decide +kernel) sv8) (sinI_at 0 0 (by decide +kernel) sv0) (by decide +kernel) (by decide +kernel) (by decide +kernel) (by decide +kernel)
  rw [placeF_of (by decide +kernel), h]
  exact unit3_val (f := (of3 (-1073741824) 0 0)) (F := (of3 (-35184372088832) 0 0)) 35184372088832 (by decide +kernel) (by decide +kernel) (dec3f (by decide +kernel) (by decide +kernel) (by decide +kernel)) (by decide +kernel) (by decide +kernel) (by decide +kernel) (by decide +kernel) (by decide +kernel) (by decide +kernel)
theorem st_osm_4 : ∀ i, i < 3 → statF osm ost0 4 i = of3 0 1073741824 0 i := by
  have h : stX3 osm ost0 4 = of3 0 1073741824 0 := st_eval (u := 1073741824) (by decide +kernel) (sinI_at 1073741824 1073741824 (by decide +kernel) sv8) (cosI_at 2147483648 0 (by decide +kernel) sv16) (cosI_at 1073741824 1073741824 (by decide +kernel) sv8) (sinI_at 0 0 (by decide +kernel) sv0) (by decide +kernel) (by decide +kernel)
  rw [statF_of (by decide +kernel), h]
  exact unit3_val (f := (of3 0 1073741824 0)) (F := (of3 0 35184372088832 0)) 35184372088832 (by decide +kernel) (by decide +kernel) (dec3f (by decide +kernel) (by decide +kernel) (by decide +kernel)) (by decide +kernel) (by decide +kernel) (by decide +kernel) (by decide +kernel) (by decide +kernel) (by decide +kernel)
theorem vw4 : viewB osm ost0 (0 + ((4 : Nat) : Int)) = false := show viewB osm ost0 4 = false from view_of (by decide +kernel) pl_osm_4 st_osm_4 _ (by decide +kernel)
theorem pl_osm_5 : ∀ i, i < 3 → placeF osm 5 i = of3 (-759250125) (-759250125) 0 i := by
  have h : plX3 osm 5 = of3 (-759250125) (-759250125) 0 := pl_eval (u := 2684354560) (y := (-759250125)) (by decide +kernel) (sinI_at 2684354560 (-759250125) (by decide +kernel) sv20) (cosI_at 3758096384 (-759250125) (by decide +kernel) sv28) (cosI_at 1073741824 1073741824 (by decide +kernel) sv8) (sinI_at 0 0 (by decide +kernel) sv0) (cosI_at 1073741824 1073741824 (by decide +kernel) sv8) (sinI_at 0 0 (by decide +kernel) sv0) (by decide +kernel) (by decide +kernel) (by decide +kernel) (by decide +kernel)
  rw [placeF_of (by decide +kernel), h]
  exact unit3_val (f := (of3 (-759250125) (-759250125) 0)) (F := (of3 (-49758216192000) (-49758216192000) 0)) 70368744178218 (by decide +kernel) (by decide +kernel) (dec3f (by decide +kernel) (by decide +kernel) (by decide +kernel)) (by decide +kernel) (by decide +kernel) (by decide +kernel) (by decide +kernel) (by decide +kernel) (by decide +kernel)
theorem st_osm_5 : ∀ i, i < 3 → statF osm ost0 5 i = of3 (-410903207) 992008094 0 i := by
  have h : stX3 osm ost0 5 = of3 (-410903207) 992008094 0 := st_eval (u := 1342177280) (by decide +kernel) (sinI_at 1342177280 992008094 (by decide +kernel) sv10) (cosI_at 2415919104 (-410903207) (by decide +kernel) sv18) (cosI_at 1073741824 1073741824 (by decide +kernel) sv8) (sinI_at 0 0 (by decide +kernel) sv0) (by decide +kernel) (by decide +kernel)
  rw [statF_of (by decide +kernel), h]
  exact unit3_val (f := (of3 (-410903207) 992008094 0)) (F := (of3 (-26928952573952) 65012242448384 0)) 70368744161720 (by decide +kernel) (by decide +kernel) (dec3f (by decide +kernel) (by decide +kernel) (by decide +kernel)) (by decide +kernel) (by decide +kernel) (by decide +kernel) (by decide +kernel) (by decide +kernel) (by decide +kernel)
theorem vw5 : viewB osm ost0 (0 + ((5 : Nat) : Int)) = false := show viewB osm ost0 5 = false from view_of (by decide +kernel) pl_osm_5 st_osm_5 _ (by decide +kernel)
theorem pl_osm_6 : ∀ i, i < 3 → placeF osm 6 i = of3 0 (-1073741824) 0 i := by
  have h : plX3 osm 6 = of3 0 (-1073741824) 0 := pl_eval (u := 3221225472) (y := (-1073741824)) (by decide +kernel) (sinI_at 3221225472 (-1073741824) (by decide +kernel) sv24) (cosI_at 0 0 (by decide +kernel) sv0) (cosI_at 1073741824 1073741824 (by decide +kernel) sv8) (sinI_at 0 0 (by decide +kernel) sv0) (cosI_at 1073741824 1073741824 (by decide +kernel) sv8) (sinI_at 0 0 (by decide +kernel) sv0) (by decide +kernel) (by decide +kernel) (by decide +kernel) (by decide +kernel)
  rw [placeF_of (by decide +kernel), h]
  exact unit3_val (f := (of3 0 (-1073741824) 0)) (F := (of3 0 (-35184372088832) 0)) 35184372088832 (by decide +kernel) (by decide +kernel) (dec3f (by decide +kernel) (by decide +kernel) (by decide +kernel)) (by decide +kernel) (by decide +kernel) (by decide +kernel) (by decide +kernel) (by decide +kernel) (by decide +kernel)
theorem st_osm_6 : ∀ i, i < 3 → statF osm ost0 6 i = of3 (-759250125) 759250125 0 i := by
  have h : stX3 osm ost0 6 = of3 (-759250125) 759250125 0 := st_eval (u := 1610612736) (by decide +kernel) (sinI_at 1610612736 759250125 (by decide +kernel) sv12) (cosI_at 2684354560 (-759250125) (by decide +kernel) sv20) (cosI_at 1073741824 1073741824 (by decide +kernel) sv8) (sinI_at 0 0 (by decide +kernel) sv0) (by decide +kernel) (by decide +kernel)
  rw [statF_of (by decide +kernel), h]
  exact unit3_val (f := (of3 (-759250125) 759250125 0)) (F := (of3 (-49758216192000) 49758216192000 0)) 70368744178218 (by decide +kernel) (by decide +kernel) (dec3f (by decide +kernel) (by decide +kernel) (by decide +kernel)) (by decide +kernel) (by decide +kernel) (by decide +kernel) (by decide +kernel) (by decide +kernel) (by decide +kernel)
theorem vw6 : viewB osm ost0 (0 + ((6 : Nat) : Int)) = false := show viewB osm ost0 6 = false from view_of (by decide +kernel) pl_osm_6 st_osm_6 _ (by decide +kernel)
theorem pl_osm_7 : ∀ i, i < 3 → placeF osm 7 i = of3 759250125 (-759250125) 0 i := by
  have h : plX3 osm 7 = of3 759250125 (-759250125) 0 := pl_eval (u := 3758096384) (y := (-759250125)) (by decide +kernel) (sinI_at 3758096384 (-759250125) (by decide +kernel) sv28) (cosI_at 536870912 759250125 (by decide +kernel) sv4) (cosI_at 1073741824 1073741824 (by decide +kernel) sv8) (sinI_at 0 0 (by decide +kernel) sv0) (cosI_at 1073741824 1073741824 (by decide +kernel) sv8) (sinI_at 0 0 (by decide +kernel) sv0) (by decide +kernel) (by decide +kernel) (by decide +kernel) (by decide +kernel)
  rw [placeF_of (by decide +kernel), h]
  exact unit3_val (f := (of3 759250125 (-759250125) 0)) (F := (of3 49758216192000 (-49758216192000) 0)) 70368744178218 (by decide +kernel) (by decide +kernel) (dec3f (by decide +kernel) (by decide +kernel) (by decide +kernel)) (by decide +kernel) (by decide +kernel) (by decide +kernel) (by decide +kernel) (by decide +kernel) (by decide +kernel)
theorem st_osm_7 : ∀ i, i < 3 → statF osm ost0 7 i = of3 (-992008094) 410903207 0 i := by
  have h : stX3 osm ost0 7 = of3 (-992008094) 410903207 0 := st_eval (u := 1879048192) (by decide +kernel) (sinI_at 1879048192 410903207 (by decide +kernel) sv14) (cosI_at 2952790016 (-992008094) (by decide +kernel) sv22) (cosI_at 1073741824 1073741824 (by decide +kernel) sv8) (sinI_at 0 0 (by decide +kernel) sv0) (by decide +kernel) (by decide +kernel)
  rw [statF_of (by decide +kernel), h]
  exact unit3_val (f := (of3 (-992008094) 410903207 0)) (F := (of3 (-65012242448384) 26928952573952 0)) 70368744161720 (by decide +kernel) (by decide +kernel) (dec3f (by decide +kernel) (by decide +kernel) (by decide +kernel)) (by decide +kernel) (by decide +kernel) (by decide +kernel) (by decide +kernel) (by decide +kernel) (by decide +kernel)
theorem vw7 : viewB osm ost0 (0 + ((7 : Nat) : Int)) = false := show viewB osm ost0 7 = false from view_of (by decide +kernel) pl_osm_7 st_osm_7 _ (by decide +kernel)
theorem pl_osm_8 : ∀ i, i < 3 → placeF osm 8 i = of3 1073741824 0 0 i := by
  have h : plX3 osm 8 = of3 1073741824 0 0 := pl_eval (u := 0) (y := 0) (by decide +kernel) (sinI_at 0 0 (by decide +kernel) sv0) (cosI_at 1073741824 1073741824 (by decide +kernel) sv8) (cosI_at 1073741824 1073741824 (by decide +kernel) sv8) (sinI_at 0 0 (by decide +kernel) sv0) (cosI_at 1073741824 1073741824 (by decide +kernel) sv8) (sinI_at 0 0 (by decide +kernel) sv0) (by decide +kernel) (by decide +kernel) (by decide +kernel) (by decide +kernel)
  rw [placeF_of (by decide +kernel), h]
  exact unit3_val (f := (of3 1073741824 0 0)) (F := (of3 35184372088832 0 0)) 35184372088832 (by decide +kernel) (by decide +kernel) (dec3f (by decide +kernel) (by decide +kernel) (by decide +kernel)) (by decide +kernel) (by decide +kernel) (by decide +kernel) (by decide +kernel) (by decide +kernel) (by decide +kernel)
theorem st_osm_8 : ∀ i, i < 3 → statF osm ost0 8 i = of3 (-1073741824) 0 0 i := by
  have h : stX3 osm ost0 8 = of3 (-1073741824) 0 0 := st_eval (u := 2147483648) (by decide +kernel) (sinI_at 2147483648 0 (by decide +kernel) sv16) (cosI_at 3221225472 (-1073741824) (by decide +kernel) sv24) (cosI_at 1073741824 1073741824 (by decide +kernel) sv8) (sinI_at 0 0 (by decide +kernel) sv0) (by decide +kernel) (by decide +kernel)
  rw [statF_of (by decide +kernel), h]
  exact unit3_val (f := (of3 (-1073741824) 0 0)) (F := (of3 (-35184372088832) 0 0)) 35184372088832 (by decide +kernel) (by decide +kernel) (dec3f (by decide +kernel) (by decide +kernel) (by decide +kernel)) (by decide +kernel) (by decide +kernel) (by decide +kernel) (by decide +kernel) (by decide +kernel) (by decide +kernel)
theorem vw8 : viewB osm ost0 (0 + ((8 : Nat) : Int)) = false := show viewB osm ost0 8 = false from view_of (by decide +kernel) pl_osm_8 st_osm_8 _ (by decide +kernel)
theorem pl_osm_9 : ∀ i, i < 3 → placeF osm 9 i = of3 759250125 759250125 0 i := by
  have h : plX3 osm 9 = of3 759250125 759250125 0 := pl_eval (u := 536870912) (y := 759250125) (by decide +kernel) (sinI_at 536870912 759250125 (by decide +kernel) sv4) (cosI_at 1610612736 759250125 (by decide +kernel) sv12) (cosI_at 1073741824 1073741824 (by decide +kernel) sv8) (sinI_at 0 0 (by decide +kernel) sv0) (cosI_at 1073741824 1073741824 (by decide +kernel) sv8) (sinI_at 0 0 (by decide +kernel) sv0) (by decide +kernel) (by decide +kernel) (by decide +kernel) (by decide +kernel)
  rw [placeF_of (by decide +kernel), h]
  exact unit3_val (f := (of3 759250125 759250125 0)) (F := (of3 49758216192000 49758216192000 0)) 70368744178218 (by decide +kernel) (by decide +kernel) (dec3f (by decide +kernel) (by decide +kernel) (by decide +kernel)) (by decide +kernel) (by decide +kernel) (by decide +kernel) (by decide +kernel) (by decide +kernel) (by decide +kernel)
theorem st_osm_9 : ∀ i, i < 3 → statF osm ost0 9 i = of3 (-992008094) (-410903207) 0 i := by
  have h : stX3 osm ost0 9 = of3 (-992008094) (-410903207) 0 := st_eval (u := 2415919104) (by decide +kernel) (sinI_at 2415919104 (-410903207) (by decide +kernel) sv18) (cosI_at 3489660928 (-992008094) (by decide +kernel) sv26) (cosI_at 1073741824 1073741824 (by decide +kernel) sv8) (sinI_at 0 0 (by decide +kernel) sv0) (by decide +kernel) (by decide +kernel)
  rw [statF_of (by decide +kernel), h]
  exact unit3_val (f := (of3 (-992008094) (-410903207) 0)) (F := (of3 (-65012242448384) (-26928952573952) 0)) 70368744161720 (by decide +kernel) (by decide +kernel) (dec3f (by decide +kernel) (by decide +kernel) (by decide +kernel)) (by decide +kernel) (by decide +kernel) (by decide +kernel) (by decide +kernel) (by decide +kernel) (by decide +kernel)
theorem vw9 : viewB osm ost0 (0 + ((9 : Nat) : Int)) = false := show viewB osm ost0 9 = false from view_of (by decide +kernel) pl_osm_9 st_osm_9 _ (by decide +kernel)
theorem pl_osm_10 : ∀ i, i < 3 → placeF osm 10 i = of3 0 1073741824 0 i := by
  have h : plX3 osm 10 = of3 0 1073741824 0 := pl_eval (u := 1073741824) (y := 1073741824) (by decide +kernel) (sinI_at 1073741824 1073741824 (by decide +kernel) sv8) (cosI_at 2147483648 0 (by decide +kernel) sv16) (cosI_at 1073741824 1073741824 (by decide +kernel) sv8) (sinI_at 0 0 (by decide +kernel) sv0) (cosI_at 1073741824 1073741824 (by decide +kernel) sv8) (sinI_at 0 0 (by decide +kernel) sv0) (by decide +kernel) (by decide +kernel) (by decide +kernel) (by decide +kernel)
  rw [placeF_of (by decide +kernel), h]
  exact unit3_val (f := (of3 0 1073741824 0)) (F := (of3 0 35184372088832 0)) 35184372088832 (by decide +kernel) (by decide +kernel) (dec3f (by decide +kernel) (by decide +kernel) (by decide +kernel)) (by decide +kernel) (by decide +kernel) (by decide +kernel) (by decide +kernel) (by decide +kernel) (by decide +kernel)
theorem st_osm_10 : ∀ i, i < 3 → statF osm ost0 10 i = of3 (-759250125) (-759250125) 0 i := by
  have h : stX3 osm ost0 10 = of3 (-759250125) (-759250125) 0 := st_eval (u := 2684354560) (by decide +kernel) (sinI_at 2684354560 (-759250125) (by decide +kernel) sv20) (cosI_at 3758096384 (-759250125) (by decide +kernel) sv28) (cosI_at 1073741824 1073741824 (by decide +kernel) sv8) (sinI_at 0 0 (by decide +kernel) sv0) (by decide +kernel) (by decide +kernel)
  rw [statF_of (by decide +kernel), h]
  exact unit3_val (f := (of3 (-759250125) (-759250125) 0)) (F := (of3 (-49758216192000) (-49758216192000) 0)) 70368744178218 (by decide +kernel) (by decide +kernel) (dec3f (by decide +kernel) (by decide +kernel) (by decide +kernel)) (by decide +kernel) (by decide +kernel) (by decide +kernel) (by decide +kernel) (by decide +kernel) (by decide +kernel)
theorem vw10 : viewB osm ost0 (0 + ((10 : Nat) : Int)) = false := show viewB osm ost0 10 = false from view_of (by decide +kernel) pl_osm_10 st_osm_10 _ (by decide +kernel)
theorem pl_osm_11 : ∀ i, i < 3 → placeF osm 11 i = of3 (-759250125) 759250125 0 i := by
  have h : plX3 osm 11 = of3 (-759250125) 759250125 0 := pl_eval (u := 1610612736) (y := 759250125) (by decide +kernel) (sinI_at 1610612736 759250125 (by decide +kernel) sv12) (cosI_at 2684354560 (-759250125) (by decide +kernel) sv20) (cosI_at 1073741824 1073741824 (by decide +kernel) sv8) (sinI_at 0 0 (by decide +kernel) sv0) (cosI_at 1073741824 1073741824 (by decide +kernel) sv8) (sinI_at 0 0 (by decide +kernel) sv0) (by decide +kernel) (by decide +kernel) (by decide +kernel) (by decide +kernel)
  rw [placeF_of (by decide +kernel), h]
  exact unit3_val (f := (of3 (-759250125) 759250125 0)) (F := (of3 (-49758216192000) 49758216192000 0)) 70368744178218 (by decide +kernel) (by decide +kernel) (dec3f (by decide +kernel) (by decide +kernel) (by decide +kernel)) (by decide +kernel) (by decide +kernel) (by decide +kernel) (by decide +kernel) (by decide +kernel) (by decide +kernel)
theorem st_osm_11 : ∀ i, i < 3 → statF osm ost0 11 i = of3 (-410903207) (-992008094) 0 i := by
  have h : stX3 osm ost0 11 = of3 (-410903207) (-992008094) 0 := st_eval (u := 2952790016) (by decide +kernel) (sinI_at 2952790016 (-992008094) (by decide +kernel) sv22) (cosI_at 4026531840 (-410903207) (by decide +kernel) sv30) (cosI_at 1073741824 1073741824 (by decide +kernel) sv8) (sinI_at 0 0 (by decide +kernel) sv0) (by decide +kernel) (by decide +kernel)
  rw [statF_of (by decide +kernel), h]
  exact unit3_val (f := (of3 (-410903207) (-992008094) 0)) (F := (of3 (-26928952573952) (-65012242448384) 0)) 70368744161720 (by decide +kernel) (by decide +kernel) (dec3f (by decide +kernel) (by decide +kernel) (by decide +kernel)) (by decide +kernel) (by decide +kernel) (by decide +kernel) (by decide +kernel) (by decide +kernel) (by decide +kernel)
theorem vw11 : viewB osm ost0 (0 + ((11 : Nat) : Int)) = false := show viewB osm ost0 11 = false from view_of (by decide +kernel) pl_osm_11 st_osm_11 _ (by decide +kernel)
theorem pl_osm_12 : ∀ i, i < 3 → placeF osm 12 i = of3 (-1073741824) 0 0 i := by
  have h : plX3 osm 12 = of3 (-1073741824) 0 0 := pl_eval (u := 2147483648) (y := 0) (by decide +kernel) (sinI_at 2147483648 0 (by decide +kernel) sv16) (cosI_at 3221225472 (-1073741824) (by decide +kernel) sv24) (cosI_at 1073741824 1073741824 (by decide +kernel) sv8) (sinI_at 0 0 (by decide +kernel) sv0) (cosI_at 1073741824 1073741824 (by decide +kernel) sv8) (sinI_at 0 0 (by decide +kernel) sv0) (by decide +kernel) (by decide +kernel) (by decide +kernel) (by decide +kernel)
  rw [placeF_of (by decide +kernel), h]
  exact unit3_val (f := (of3 (-1073741824) 0 0)) (F := (of3 (-35184372088832) 0 0)) 35184372088832 (by decide +kernel) (by decide +kernel) (dec3f (by decide +kernel) (by decide +kernel) (by decide +kernel)) (by decide +kernel) (by decide +kernel) (by decide +kernel) (by decide +kernel) (by decide +kernel) (by decide +kernel)
theorem st_osm_12 : ∀ i, i < 3 → statF osm ost0 12 i = of3 0 (-1073741824) 0 i := by
  have h : stX3 osm ost0 12 = of3 0 (-1073741824) 0 := st_eval (u := 3221225472) (by decide +kernel) (sinI_at 3221225472 (-1073741824) (by decide +kernel) sv24) (cosI_at 0 0 (by decide +kernel) sv0) (cosI_at 1073741824 1073741824 (by decide +kernel) sv8) (sinI_at 0 0 (by decide +kernel) sv0) (by decide +kernel) (by decide +kernel)
  rw [statF_of (by decide +kernel), h]
  exact unit3_val (f := (of3 0 (-1073741824) 0)) (F := (of3 0 (-35184372088832) 0)) 35184372088832 (by decide +kernel) (by decide +kernel) (dec3f (by decide +kernel) (by decide +kernel) (by decide +kernel)) (by decide +kernel) (by decide +kernel) (by decide +kernel) (by decide +kernel) (by decide +kernel) (by decide +kernel)
theorem vw12 : viewB osm ost0 (0 + ((12 : Nat) : Int)) = false := show viewB osm ost0 12 = false from view_of (by decide +kernel) pl_osm_12 st_osm_12 _ (by decide +kernel)
theorem pl_osm_13 : ∀ i, i < 3 → placeF osm 13 i = of3 (-759250125) (-759250125) 0 i := by
  have h : plX3 osm 13 = of3 (-759250125) (-759250125) 0 := pl_eval (u := 2684354560) (y := (-759250125)) (by decide +kernel) (sinI_at 2684354560 (-759250125) (by decide +kernel) sv20) (cosI_at 3758096384 (-759250125) (by decide +kernel) sv28) (cosI_at 1073741824 1073741824 (by decide +kernel) sv8) (sinI_at 0 0 (by decide +kernel) sv0) (cosI_at 1073741824 1073741824 (by decide +kernel) sv8) (sinI_at 0 0 (by decide +kernel) sv0) (by decide +kernel) (by decide +kernel) (by decide +kernel) (by decide +kernel)
  rw [placeF_of (by decide +kernel), h]
  exact unit3_val (f := (of3 (-759250125) (-759250125) 0)) (F := (of3 (-49758216192000) (-49758216192000) 0)) 70368744178218 (by decide +kernel) (by decide +kernel) (dec3f (by decide +kernel) (by decide +kernel) (by decide +kernel)) (by decide +kernel) (by decide +kernel) (by decide +kernel) (by decide +kernel) (by decide +kernel) (by decide +kernel)
theorem st_osm_13 : ∀ i, i < 3 → statF osm ost0 13 i = of3 410903207 (-992008094) 0 i := by
  have h : stX3 osm ost0 13 = of3 410903207 (-992008094) 0 := st_eval (u := 3489660928) (by decide +kernel) (sinI_at 3489660928 (-992008094) (by decide +kernel) sv26) (cosI_at 268435456 410903207 (by decide +kernel) sv2) (cosI_at 1073741824 1073741824 (by decide +kernel) sv8) (sinI_at 0 0 (by decide +kernel) sv0) (by decide +kernel) (by decide +kernel)
  rw [statF_of (by decide +kernel), h]
  exact unit3_val (f := (of3 410903207 (-992008094) 0)) (F := (of3 26928952573952 (-65012242448384) 0)) 70368744161720 (by decide +kernel) (by decide +kernel) (dec3f (by decide +kernel) (by decide +kernel) (by decide +kernel)) (by decide +kernel) (by decide +kernel) (by decide +kernel) (by decide +kernel) (by decide +kernel) (by decide +kernel)
theorem vw13 : viewB osm ost0 (0 + ((13 : Nat) : Int)) = false := show viewB osm ost0 13 = false from view_of (by decide +kernel) pl_osm_13 st_osm_13 _ (by decide +kernel)
theorem pl_osm_14 : ∀ i, i < 3 → placeF osm 14 i = of3 0 (-1073741824) 0 i := by
  have h : plX3 osm 14 = of3 0 (-1073741824) 0 := pl_eval (u := 3221225472) (y := (-1073741824)) (by decide +kernel) (sinI_at 3221225472 (-1073741824) (by decide +kernel) sv24) (cosI_at 0 0 (by decide +kernel) sv0) (cosI_at 1073741824 1073741824 (by decide +kernel) sv8) (sinI_at 0 0 (by decide +kernel) sv0) (cosI_at 1073741824 1073741824 (by decide +kernel) sv8) (sinI_at 0 0 (by decide +kernel) sv0) (by decide +kernel) (by decide +kernel) (by decide +kernel) (by decide +kernel)
  rw [placeF_of (by decide +kernel), h]
  exact unit3_val (f := (of3 0 (-1073741824) 0)) (F := (of3 0 (-35184372088832) 0)) 35184372088832 (by decide +kernel) (by decide +kernel) (dec3f (by decide +kernel) (by decide +kernel) (by decide +kernel)) (by decide +kernel) (by decide +kernel) (by decide +kernel) (by decide +kernel) (by decide +kernel) (by decide +kernel)
theorem st_osm_14 : ∀ i, i < 3 → statF osm ost0 14 i = of3 759250125 (-759250125) 0 i := by
  have h : stX3 osm ost0 14 = of3 759250125 (-759250125) 0 := st_eval (u := 3758096384) (by decide +kernel) (sinI_at 3758096384 (-759250125) (by decide +kernel) sv28) (cosI_at 536870912 759250125 (by decide +kernel) sv4) (cosI_at 1073741824 1073741824 (by decide +kernel) sv8) (sinI_at 0 0 (by decide +kernel) sv0) (by decide +kernel) (by decide +kernel)
  rw [statF_of (by decide +kernel), h]
  exact unit3_val (f := (of3 759250125 (-759250125) 0)) (F := (of3 49758216192000 (-49758216192000) 0)) 70368744178218 (by decide +kernel) (by decide +kernel) (dec3f (by decide +kernel) (by decide +kernel) (by decide +kernel)) (by decide +kernel) (by decide +kernel) (by decide +kernel) (by decide +kernel) (by decide +kernel) (by decide +kernel)
theorem vw14 : viewB osm ost0 (0 + ((14 : Nat) : Int)) = true := show viewB osm ost0 14 = true from view_of (by decide +kernel) pl_osm_14 st_osm_14 _ (by decide +kernel)
theorem pl_osm_15 : ∀ i, i < 3 → placeF osm 15 i = of3 759250125 (-759250125) 0 i := by
  have h : plX3 osm 15 = of3 759250125 (-759250125) 0 := pl_eval (u := 3758096384) (y := (-759250125)) (by decide +kernel) (sinI_at 3758096384 (-759250125) (by decide +kernel) sv28) (cosI_at 536870912 759250125 (by decide +kernel) sv4) (cosI_at 1073741824 1073741824 (by decide +kernel) sv8) (sinI_at 0 0 (by decide +kernel) sv0) (cosI_at 1073741824 1073741824 (by decide +kernel) sv8) (sinI_at 0 0 (by decide +kernel) sv0) (by decide +kernel) (by decide +kernel) (by decide +kernel) (by decide +kernel)
  rw [placeF_of (by decide +kernel), h]
  exact unit3_val (f := (of3 759250125 (-759250125) 0)) (F := (of3 49758216192000 (-49758216192000) 0)) 70368744178218 (by decide +kernel) (by decide +kernel) (dec3f (by decide +kernel) (by decide +kernel) (by decide +kernel)) (by decide +kernel) (by decide +kernel) (by decide +kernel) (by decide +kernel) (by decide +kernel) (by decide +kernel)
theorem st_osm_15 : ∀ i, i < 3 → statF osm ost0 15 i = of3 992008094 (-410903207) 0 i := by
  have h : stX3 osm ost0 15 = of3 992008094 (-410903207) 0 := st_eval (u := 4026531840) (by decide +kernel) (sinI_at 4026531840 (-410903207) (by decide +kernel) sv30) (cosI_at 805306368 992008094 (by decide +kernel) sv6) (cosI_at 1073741824 1073741824 (by decide +kernel) sv8) (sinI_at 0 0 (by decide +kernel) sv0) (by decide +kernel) (by decide +kernel)
  rw [statF_of (by decide +kernel), h]
  exact unit3_val (f := (of3 992008094 (-410903207) 0)) (F := (of3 65012242448384 (-26928952573952) 0)) 70368744161720 (by decide +kernel) (by decide +kernel) (dec3f (by decide +kernel) (by decide +kernel) (by decide +kernel)) (by decide +kernel) (by decide +kernel) (by decide +kernel) (by decide +kernel) (by decide +kernel) (by decide +kernel)
theorem vw15 : viewB osm ost0 (0 + ((15 : Nat) : Int)) = true := show viewB osm ost0 15 = true from view_of (by decide +kernel) pl_osm_15 st_osm_15 _ (by decide +kernel)
theorem su_osm_0 : ∀ i, i < 3 → sunF osm 0 i = of3 1073741824 0 0 i := by
  have h : suX3 osm 0 = of3 1073741824 0 0 := su_eval (u := 0) (by decide +kernel) (sinI_at 0 0 (by decide +kernel) sv0) (cosI_at 1073741824 1073741824 (by decide +kernel) sv8)
  rw [sunF_of (by decide +kernel), h]
  exact unit3_val (f := (of3 1073741824 0 0)) (F := (of3 35184372088832 0 0)) 35184372088832 (by decide +kernel) (by decide +kernel) (dec3f (by decide +kernel) (by decide +kernel) (by decide +kernel)) (by decide +kernel) (by decide +kernel) (by decide +kernel) (by decide +kernel) (by decide +kernel) (by decide +kernel)
theorem su_osm_2 : ∀ i, i < 3 → sunF osm 2 i = of3 1053110176 209476638 0 i := by
  have h : suX3 osm 2 = of3 1053110176 209476638 0 := su_eval (u := 134217728) (by decide +kernel) (sinI_at 134217728 209476638 (by decide +kernel) sv1) (cosI_at 1207959552 1053110176 (by decide +kernel) sv9)
  rw [sunF_of (by decide +kernel), h]
  exact unit3_val (f := (of3 1053110176 209476638 0)) (F := (of3 69016628494336 13728260947968 0)) 70368744179363 (by decide +kernel) (by decide +kernel) (dec3f (by decide +kernel) (by decide +kernel) (by decide +kernel)) (by decide +kernel) (by decide +kernel) (by decide +kernel) (by decide +kernel) (by decide +kernel) (by decide +kernel)
theorem su_osm_4 : ∀ i, i < 3 → sunF osm 4 i = of3 992008094 410903207 0 i := by
  have h : suX3 osm 4 = of3 992008094 410903207 0 := su_eval (u := 268435456) (by decide +kernel) (sinI_at 268435456 410903207 (by decide +kernel) sv2) (cosI_at 1342177280 992008094 (by decide +kernel) sv10)
  rw [sunF_of (by decide +kernel), h]
  exact unit3_val (f := (of3 992008094 410903207 0)) (F := (of3 65012242448384 26928952573952 0)) 70368744161720 (by decide +kernel) (by decide +kernel) (dec3f (by decide +kernel) (by decide +kernel) (by decide +kernel)) (by decide +kernel) (by decide +kernel) (by decide +kernel) (by decide +kernel) (by decide +kernel) (by decide +kernel)
theorem su_osm_16 : ∀ i, i < 3 → sunF osm 16 i = of3 0 1073741824 0 i := by
  have h : suX3 osm 16 = of3 0 1073741824 0 := su_eval (u := 1073741824) (by decide +kernel) (sinI_at 1073741824 1073741824 (by decide +kernel) sv8) (cosI_at 2147483648 0 (by decide +kernel) sv16)
  rw [sunF_of (by decide +kernel), h]
  exact unit3_val (f := (of3 0 1073741824 0)) (F := (of3 0 35184372088832 0)) 35184372088832 (by decide +kernel) (by decide +kernel) (dec3f (by decide +kernel) (by decide +kernel) (by decide +kernel)) (by decide +kernel) (by decide +kernel) (by decide +kernel) (by decide +kernel) (by decide +kernel) (by decide +kernel)
theorem dk0 : darkB osm 0 = false := dark_of (by decide +kernel) pl_osm_0 su_osm_0 _ (by decide +kernel)
theorem dk2 : darkB osm 2 = false := dark_of (by decide +kernel) pl_osm_2 su_osm_2 _ (by decide +kernel)
theorem dk4 : darkB osm 4 = true := dark_of (by decide +kernel) pl_osm_4 su_osm_4 _ (by decide +kernel)
theorem pl_osmt_2 : ∀ i, i < 3 → placeF osmt 2 i = of3 0 0 1073741824 i := by
  have h : plX3 osmt 2 = of3 0 0 1073741824 := pl_eval (u := 1073741824) (y := 0) (by decide +kernel) (sinI_at 1073741824 1073741824 (by decide +kernel) sv8) (cosI_at 2147483648 0 (by decide +kernel) sv16) (cosI_at 1073741824 1073741824 (by decide +kernel) sv8) (sinI_at 0 0 (by decide +kernel) sv0) (cosI_at 2147483648 0 (by decide +kernel) sv16) (sinI_at 1073741824 1073741824 (by decide +kernel) sv8) (by decide +kernel) (by decide +kernel) (by decide +kernel) (by decide +kernel)
  rw [placeF_of (by decide +kernel), h]
  exact unit3_val (f := (of3 0 0 1073741824)) (F := (of3 0 0 35184372088832)) 35184372088832 (by decide +kernel) (by decide +kernel) (dec3f (by decide +kernel) (by decide +kernel) (by decide +kernel)) (by decide +kernel) (by decide +kernel) (by decide +kernel) (by decide +kernel) (by decide +kernel) (by decide +kernel)
theorem pl_osmn_0 : ∀ i, i < 3 → placeF osmn 0 i = of3 0 1073741824 0 i := by
  have h : plX3 osmn 0 = of3 0 1073741824 0 := pl_eval (u := 0) (y := 0) (by decide +kernel) (sinI_at 0 0 (by decide +kernel) sv0) (cosI_at 1073741824 1073741824 (by decide +kernel) sv8) (cosI_at 2147483648 0 (by decide +kernel) sv16) (sinI_at 1073741824 1073741824 (by decide +kernel) sv8) (cosI_at 1073741824 1073741824 (by decide +kernel) sv8) (sinI_at 0 0 (by decide +kernel) sv0) (by decide +kernel) (by decide +kernel) (by decide +kernel) (by decide +kernel)
  rw [placeF_of (by decide +kernel), h]
  exact unit3_val (f := (of3 0 1073741824 0)) (F := (of3 0 35184372088832 0)) 35184372088832 (by decide +kernel) (by decide +kernel) (dec3f (by decide +kernel) (by decide +kernel) (by decide +kernel)) (by decide +kernel) (by decide +kernel) (by decide +kernel) (by decide +kernel) (by decide +kernel) (by decide +kernel)
theorem tkA_0 : tick osm ost0 0 0 = [] := rfl
theorem tkA_1 : tick osm ost0 0 1 = [0] := (tick_yes vw0).trans (by rw [tkA_0]; rfl)
theorem tkA_2 : tick osm ost0 0 2 = [0, 1] := (tick_yes vw1).trans (by rw [tkA_1]; rfl)
theorem tkA_3 : tick osm ost0 0 3 = [0, 1, 2] := (tick_yes vw2).trans (by rw [tkA_2]; rfl)
theorem tkA_4 : tick osm ost0 0 4 = [0, 1, 2] := (tick_no vw3).trans tkA_3
theorem tkA_5 : tick osm ost0 0 5 = [0, 1, 2] := (tick_no vw4).trans tkA_4
theorem tkA_6 : tick osm ost0 0 6 = [0, 1, 2] := (tick_no vw5).trans tkA_5
theorem tkA_7 : tick osm ost0 0 7 = [0, 1, 2] := (tick_no vw6).trans tkA_6
theorem tkA_8 : tick osm ost0 0 8 = [0, 1, 2] := (tick_no vw7).trans tkA_7
theorem tkA_9 : tick osm ost0 0 9 = [0, 1, 2] := (tick_no vw8).trans tkA_8
theorem tkA_10 : tick osm ost0 0 10 = [0, 1, 2] := (tick_no vw9).trans tkA_9
theorem tkA_11 : tick osm ost0 0 11 = [0, 1, 2] := (tick_no vw10).trans tkA_10
theorem tkA_12 : tick osm ost0 0 12 = [0, 1, 2] := (tick_no vw11).trans tkA_11
theorem tkA_13 : tick osm ost0 0 13 = [0, 1, 2] := (tick_no vw12).trans tkA_12
theorem tkA_14 : tick osm ost0 0 14 = [0, 1, 2] := (tick_no vw13).trans tkA_13
theorem tkA_15 : tick osm ost0 0 15 = [0, 1, 2, 14] := (tick_yes vw14).trans (by rw [tkA_14]; rfl)
theorem tkA_16 : tick osm ost0 0 16 = [0, 1, 2, 14, 15] := (tick_yes vw15).trans (by rw [tkA_15]; rfl)
theorem tkB_0 : tick osm ost0 3 0 = [] := rfl
theorem tkB_1 : tick osm ost0 3 1 = [] := (tick_no (show viewB osm ost0 (3 + ((0 : Nat) : Int)) = false from vw3)).trans tkB_0
theorem tkB_2 : tick osm ost0 3 2 = [] := (tick_no (show viewB osm ost0 (3 + ((1 : Nat) : Int)) = false from vw4)).trans tkB_1
theorem tkB_3 : tick osm ost0 3 3 = [] := (tick_no (show viewB osm ost0 (3 + ((2 : Nat) : Int)) = false from vw5)).trans tkB_2
theorem tkB_4 : tick osm ost0 3 4 = [] := (tick_no (show viewB osm ost0 (3 + ((3 : Nat) : Int)) = false from vw6)).trans tkB_3
theorem tkB_5 : tick osm ost0 3 5 = [] := (tick_no (show viewB osm ost0 (3 + ((4 : Nat) : Int)) = false from vw7)).trans tkB_4
theorem tkB_6 : tick osm ost0 3 6 = [] := (tick_no (show viewB osm ost0 (3 + ((5 : Nat) : Int)) = false from vw8)).trans tkB_5
theorem tkB_7 : tick osm ost0 3 7 = [] := (tick_no (show viewB osm ost0 (3 + ((6 : Nat) : Int)) = false from vw9)).trans tkB_6
theorem tkB_8 : tick osm ost0 3 8 = [] := (tick_no (show viewB osm ost0 (3 + ((7 : Nat) : Int)) = false from vw10)).trans tkB_7
theorem tkB_9 : tick osm ost0 3 9 = [] := (tick_no (show viewB osm ost0 (3 + ((8 : Nat) : Int)) = false from vw11)).trans tkB_8
theorem tkB_10 : tick osm ost0 3 10 = [] := (tick_no (show viewB osm ost0 (3 + ((9 : Nat) : Int)) = false from vw12)).trans tkB_9
theorem tkB_11 : tick osm ost0 3 11 = [] := (tick_no (show viewB osm ost0 (3 + ((10 : Nat) : Int)) = false from vw13)).trans tkB_10
theorem wlA : winL osm ost0 0 16 = [(0, 3), (14, 16)] := by
  have h : winOk osm ost0 0 16 := ⟨by decide +kernel, by decide, by decide, by decide⟩
  unfold winL
  rw [if_pos h]
  show win (tick osm ost0 0 16) = _
  rw [tkA_16]; decide +kernel
theorem weA : winE osm ost0 0 16 = 0 := if_pos ⟨by decide +kernel, by decide, by decide, by decide⟩
theorem wlB : winL osm ost0 3 14 = [] := by
  have h : winOk osm ost0 3 14 := ⟨by decide +kernel, by decide, by decide, by decide⟩
  unfold winL
  rw [if_pos h]
  show win (tick osm ost0 3 11) = _
  rw [tkB_11]; decide +kernel
theorem weB : winE osm ost0 3 14 = 0 := if_pos ⟨by decide +kernel, by decide, by decide, by decide⟩
end Go.Proofs.Ytnkjbdfhdenbcaa
