/-
  Orbits: the places of the craft and the sun, in the package and in its specification.
-/
import Derived.Test.YtnkjbdfhdenbcaaOrbB
import Derived.Test.YtnkjbdfhdenbcaaOrbM
set_option linter.unusedSimpArgs false
set_option linter.unusedVariables false
namespace Go.Proofs.Ytnkjbdfhdenbcaa
open Go.RowKit PM Dt
set_option maxRecDepth 100000 in
set_option maxHeartbeats 4000000 in
theorem place_any (f : Nat → Int) (t : Int) (w : World) (hf : OO f) : Calls Try.prog 19 #[.agg (ofn f), .int .i64 t] w fun e w' => e = .returned (.tuple #[.agg (vfn (placeF f t)), .int .i64 (placeE f t)]) ∧ Below w.heap.size w w' := by
  have CK := Lib.hid (fun w => check_any f w)
  have TM := Lib.hid (fun w => time_any t w)
  obtain ⟨RF, hRF⟩ : ∃ F, placeF f t = F := ⟨_, rfl⟩
  obtain ⟨RE, hRE⟩ : ∃ F, placeE f t = F := ⟨_, rfl⟩
  rw [hRF, hRE]
  unfold placeF at hRF
  unfold placeE at hRE
  unfold chkE at CK
  cases hb : okO f
  case false =>
    rw [hb] at CK hRF hRE
    have HF := Lib.hid hRF
    have HE := Lib.hid hRE
    clear hRF hRE
    go_enter Try.func19, Try.ntmps19
    go_upto_region 1 with (fail)
    simp only [zero_vec]
    have p : blk ((w.alloc (.cells (ofn f) 24)).alloc (.cells (vfn fun _ => 0) 39)) w.heap.size (ofn f) 24 := (blk.new _ _ _).alloc _
    have r : blk ((w.alloc (.cells (ofn f) 24)).alloc (.cells (vfn fun _ => 0) 39)) (w.heap.size + 1) (vfn fun _ => 0) 39 := blk.new' (by simp)
    have hB : Below w.heap.size w ((w.alloc (.cells (ofn f) 24)).alloc (.cells (vfn fun _ => 0) 39)) := by go_grown
    generalize ((w.alloc (.cells (ofn f) 24)).alloc (.cells (vfn fun _ => 0) 39)) = w0 at *
    go_wp2_with (first
      | (refine wpList_load_rowG ?hw _ _ rfl _ rfl _ _ _ _ p Try.underlying24 rfl ?hi ?_; (case hw => (first | rfl | (simp [Region.wanted, yielded]; done))); (case hi => (first | kernel_rfl | (rw [ofn_size]; kernel_rfl))))
      | (go_at_call 23; with_reducible refine (CK.out _).mono ?_; rintro e w1 ⟨rfl, hb⟩; replace hB := hB.trans (hb.mono hB.size); replace p := p.below hb p.lt; replace r := r.below hb r.lt; clear hb)
      | (rw [zero_vec]; refine wpList_store_row rfl _ _ _ rfl _ rfl _ rfl _ _ r (by first | kernel_rfl | (rw [vfn_size]; kernel_rfl)) (by first | rfl | simp only [vfn_size]) (by first | exact vfn_one _ | rfl) ?_))
    refine bodyPost_ret (results_vec rfl _ _ _ _ _ _ _ rfl (r.row (vfn fun _ => 0)) Try.underlying39 rfl (by first | kernel_rfl | (rw [vfn_size]; kernel_rfl))) rfl ?_
    refine ⟨?_, Below.setRow hB (by omega) _⟩
    rw [← HF.out, ← HE.out]
    rfl
  case true =>
    cases hc : okT t
    case false =>
      rw [hb] at CK
      rw [hc] at TM
      rw [hb, hc] at hRF hRE
      have HF := Lib.hid hRF
      have HE := Lib.hid hRE
      clear hRF hRE
      go_enter Try.func19, Try.ntmps19
      go_upto_region 1 with (fail)
      simp only [zero_vec]
      have p : blk ((w.alloc (.cells (ofn f) 24)).alloc (.cells (vfn fun _ => 0) 39)) w.heap.size (ofn f) 24 := (blk.new _ _ _).alloc _
      have r : blk ((w.alloc (.cells (ofn f) 24)).alloc (.cells (vfn fun _ => 0) 39)) (w.heap.size + 1) (vfn fun _ => 0) 39 := blk.new' (by simp)
      have hB : Below w.heap.size w ((w.alloc (.cells (ofn f) 24)).alloc (.cells (vfn fun _ => 0) 39)) := by go_grown
      generalize ((w.alloc (.cells (ofn f) 24)).alloc (.cells (vfn fun _ => 0) 39)) = w0 at *
      go_wp2_with (first
        | (refine wpList_load_rowG ?hw _ _ rfl _ rfl _ _ _ _ p Try.underlying24 rfl ?hi ?_; (case hw => (first | rfl | (simp [Region.wanted, yielded]; done))); (case hi => (first | kernel_rfl | (rw [ofn_size]; kernel_rfl))))
        | (go_at_call 23; with_reducible refine (CK.out _).mono ?_; rintro e w1 ⟨rfl, hb⟩; replace hB := hB.trans (hb.mono hB.size); replace p := p.below hb p.lt; replace r := r.below hb r.lt; clear hb)
        | (go_at_call 57; with_reducible refine (TM.out _).mono ?_; rintro e wt ⟨rfl, rfl⟩)
        | (rw [zero_vec]; refine wpList_store_row rfl _ _ _ rfl _ rfl _ rfl _ _ r (by first | kernel_rfl | (rw [vfn_size]; kernel_rfl)) (by first | rfl | simp only [vfn_size]) (by first | exact vfn_one _ | rfl) ?_))
      refine bodyPost_ret (results_vec rfl _ _ _ _ _ _ _ rfl (r.row (vfn fun _ => 0)) Try.underlying39 rfl (by first | kernel_rfl | (rw [vfn_size]; kernel_rfl))) rfl ?_
      refine ⟨?_, Below.setRow hB (by omega) _⟩
      rw [← HF.out, ← HE.out]
      rfl
    case true =>
      rw [hb] at CK
      rw [hc] at TM
      rw [hb, hc] at hRF hRE
      have HF := Lib.hid hRF
      have HE := Lib.hid hRE
      clear hRF hRE
      have hb2 := Lib.hid hb
      have hc2 := Lib.hid hc
      have hI : ∀ i, i < 3 → I64 (plX3 f t i) := by unfold plX3; exact of3_I (dotV_I _ _) (dotV_I _ _) (mulV_I _ _)
      have hvE := vunE_0 (plX3_ok t hf)
      have UN := Lib.hid (fun w => vunit_any (plX3 f t) w hI)
      rw [hvE] at UN
      obtain ⟨u3, u4, u5, u6⟩ := hf.2
      have ho := (okO_iff f).1 hb
      have AN := Lib.hid (fun w => angle_any t (f 0) w hc ho.1.1)
      have hU : U32 (orbU f t) := wrap_U _
      have hu : IntKind.u32.wrap (f 3 + angV t (f 0)) = orbU f t := rfl
      have S1 := Lib.hid (fun w => sinI_any (orbU f t) w hU)
      have C1 := Lib.hid (fun w => cosI_any (orbU f t) w hU)
      have CT := Lib.hid (fun w => cosI_any (f 5) w u5)
      have ST := Lib.hid (fun w => sinI_any (f 5) w u5)
      have M1 := Lib.hid (fun w => omul_any (sinI (orbU f t)) (cosI (f 5)) w (sinI_I hU) (cosI_I u5))
      have M2 := Lib.hid (fun w => omul_any (sinI (orbU f t)) (sinI (f 5)) w (sinI_I hU) (sinI_I u5))
      have TN := Lib.hid (fun w => turned_orb (cosI (orbU f t)) (plY f t) (f 4) w (cosI_I hU) (mulV_I _ _) u4 (sinI_I u4) (cosI_I u4))
      obtain ⟨Y, hY⟩ : ∃ Y, vunF (plX3 f t) = Y := ⟨_, rfl⟩
      rw [hY] at UN HF
      clear hY
      unfold plX3 at UN
      rw [← of3_cells] at UN
      unfold plY at UN TN
      generalize angV t (f 0) = A at *
      generalize orbU f t = u at *
      generalize sinI u = su at *
      generalize cosI u = cu at *
      generalize cosI (f 5) = ct at *
      generalize sinI (f 5) = st at *
      generalize mulV su ct = y0 at *
      generalize mulV su st = z0 at *
      generalize dotV [cu, wrap64 (-y0)] [cosI (f 4), sinI (f 4)] = x1 at *
      generalize dotV [cu, y0] [sinI (f 4), cosI (f 4)] = x2 at *
      clear hI hvE u3 u4 u5 u6 ho hU hf
      go_enter Try.func19, Try.ntmps19
      go_upto_region 1 with (fail)
      simp only [zero_vec]
      have p : blk ((w.alloc (.cells (ofn f) 24)).alloc (.cells (vfn fun _ => 0) 39)) w.heap.size (ofn f) 24 := (blk.new _ _ _).alloc _
      have r : blk ((w.alloc (.cells (ofn f) 24)).alloc (.cells (vfn fun _ => 0) 39)) (w.heap.size + 1) (vfn fun _ => 0) 39 := blk.new' (by simp)
      have hB : Below w.heap.size w ((w.alloc (.cells (ofn f) 24)).alloc (.cells (vfn fun _ => 0) 39)) := by go_grown
      generalize ((w.alloc (.cells (ofn f) 24)).alloc (.cells (vfn fun _ => 0) 39)) = w0 at *
      go_upto_region 3 with (first
        | (refine wpList_load_rowG ?hw _ _ rfl _ rfl _ _ _ _ p Try.underlying24 rfl ?hi ?_; (case hw => (first | rfl | (simp [Region.wanted, yielded]; done))); (case hi => (first | kernel_rfl | (rw [ofn_size]; kernel_rfl))))
        | (go_at_call 23; with_reducible refine (CK.out _).mono ?_; rintro e w1 ⟨rfl, hb⟩; replace hB := hB.trans (hb.mono hB.size); replace p := p.below hb p.lt; replace r := r.below hb r.lt; clear hb)
        | (go_at_call 57; with_reducible refine (TM.out _).mono ?_; rintro e wt ⟨rfl, rfl⟩))
      refine wp_region_Y 99 8 rfl (by kernel_rfl) ?_
      replace p := p.drew
      replace r := r.drew
      replace hB : Below w.heap.size w w1.drew := hB.drew
      generalize w1.drew = w1d at *
      apply wpY_takeB 0; (case ho' => exact rfl); (case hg => exact rfl); (case hB => kernel_rfl); (case h => (intro w1; go_simp; exact ⟨rfl, Below.refl _ _⟩))
      simp only [Act.put, List.setIfInBounds_toArray, List.set_cons_zero, List.set_cons_succ]
      apply wpY_takeA 1; (case ho' => exact rfl); (case hg => exact rfl); (case hB => kernel_rfl); (case hW => kernel_rfl); (case h => (intro w1 h1; first | exact detR_row _ _ rfl _ rfl _ _ _ (p.below h1 p.lt) Try.underlying24 rfl (by first | kernel_rfl | (rw [ofn_size]; kernel_rfl)) rfl | (have hc := (p.below h1 p.lt).cellIs ((show _[3]? = some _ from rfl)); go_simp; exact ⟨rfl, Below.refl _ _⟩)))
      simp only [Act.put, List.setIfInBounds_toArray, List.set_cons_zero, List.set_cons_succ]
      apply wpY_takeB 2; (case ho' => exact rfl); (case hg => exact rfl); (case hB => kernel_rfl); (case h => (intro w1; go_simp; exact ⟨rfl, Below.refl _ _⟩))
      simp only [Act.put, List.setIfInBounds_toArray, List.set_cons_zero, List.set_cons_succ]
      apply wpY_takeB 3; (case ho' => exact rfl); (case hg => exact rfl); (case hB => kernel_rfl); (case h => (intro w1; go_simp; exact ⟨rfl, Below.refl _ _⟩))
      simp only [Act.put, List.setIfInBounds_toArray, List.set_cons_zero, List.set_cons_succ]
      apply wpY_takeA 4; (case ho' => exact rfl); (case hg => exact rfl); (case hB => kernel_rfl); (case hW => kernel_rfl); (case h => (intro w1 h1; first | exact detR_row _ _ rfl _ rfl _ _ _ (p.below h1 p.lt) Try.underlying24 rfl (by first | kernel_rfl | (rw [ofn_size]; kernel_rfl)) rfl | (have hc := (p.below h1 p.lt).cellIs ((show _[0]? = some _ from rfl)); go_simp; exact ⟨rfl, Below.refl _ _⟩)))
      simp only [Act.put, List.setIfInBounds_toArray, List.set_cons_zero, List.set_cons_succ]
      apply wpY_takeA 5; (case ho' => exact rfl); (case hg => exact rfl); (case hB => kernel_rfl); (case hW => kernel_rfl); (case h => (intro w1 h1; go_simp; refine (AN.out _).mono ?_; rintro e w2 ⟨rfl, h2⟩; exact ⟨rfl, h2⟩))
      simp only [Act.put, List.setIfInBounds_toArray, List.set_cons_zero, List.set_cons_succ]
      apply wpY_takeB 6; (case ho' => exact rfl); (case hg => exact rfl); (case hB => kernel_rfl); (case h => (intro w1; go_simp; exact ⟨rfl, Below.refl _ _⟩))
      simp only [Act.put, List.setIfInBounds_toArray, List.set_cons_zero, List.set_cons_succ]
      apply wpY_takeB 7; (case ho' => exact rfl); (case hg => exact rfl); (case hB => kernel_rfl); (case h => (intro w1; go_simp; exact ⟨rfl, Below.refl _ _⟩))
      simp only [Act.put, List.setIfInBounds_toArray, List.set_cons_zero, List.set_cons_succ]
      refine wpY_end (by kernel_rfl) (fun we120 ht => ?_)
      replace hB := hB.trans (ht.mono hB.size)
      replace p := p.below ht p.lt
      replace r := r.below ht r.lt
      clear ht
      go_upto_region 5 with (first
        | (go_at_call 61; with_reducible refine (S1.out _).mono ?_; rintro e w2 ⟨rfl, hb⟩; replace hB := hB.trans (hb.mono hB.size); replace p := p.below hb p.lt; replace r := r.below hb r.lt; clear hb))
      refine wp_region_Y 99 15 rfl (by kernel_rfl) ?_
      replace p := p.drew
      replace r := r.drew
      replace hB : Below w.heap.size w w2.drew := hB.drew
      generalize w2.drew = w2d at *
      apply wpY_takeB 0; (case ho' => exact rfl); (case hg => exact rfl); (case hB => kernel_rfl); (case h => (intro w1; go_simp; exact ⟨rfl, Below.refl _ _⟩))
      simp only [Act.put, List.setIfInBounds_toArray, List.set_cons_zero, List.set_cons_succ]
      apply wpY_takeA 1; (case ho' => exact rfl); (case hg => exact rfl); (case hB => kernel_rfl); (case hW => kernel_rfl); (case h => (intro w1 h1; go_simp; refine (C1.out _).mono ?_; rintro e w2 ⟨rfl, h2⟩; exact ⟨rfl, h2⟩))
      simp only [Act.put, List.setIfInBounds_toArray, List.set_cons_zero, List.set_cons_succ]
      apply wpY_takeB 2; (case ho' => exact rfl); (case hg => exact rfl); (case hB => kernel_rfl); (case h => (intro w1; go_simp; exact ⟨rfl, Below.refl _ _⟩))
      simp only [Act.put, List.setIfInBounds_toArray, List.set_cons_zero, List.set_cons_succ]
      apply wpY_takeB 3; (case ho' => exact rfl); (case hg => exact rfl); (case hB => kernel_rfl); (case h => (intro w1; go_simp; exact ⟨rfl, Below.refl _ _⟩))
      simp only [Act.put, List.setIfInBounds_toArray, List.set_cons_zero, List.set_cons_succ]
      apply wpY_takeA 4; (case ho' => exact rfl); (case hg => exact rfl); (case hB => kernel_rfl); (case hW => kernel_rfl); (case h => (intro w1 h1; first | exact detR_row _ _ rfl _ rfl _ _ _ (p.below h1 p.lt) Try.underlying24 rfl (by first | kernel_rfl | (rw [ofn_size]; kernel_rfl)) rfl | (have hc := (p.below h1 p.lt).cellIs ((show _[5]? = some _ from rfl)); go_simp; exact ⟨rfl, Below.refl _ _⟩)))
      simp only [Act.put, List.setIfInBounds_toArray, List.set_cons_zero, List.set_cons_succ]
      apply wpY_takeA 5; (case ho' => exact rfl); (case hg => exact rfl); (case hB => kernel_rfl); (case hW => kernel_rfl); (case h => (intro w1 h1; go_simp; refine (CT.out _).mono ?_; rintro e w2 ⟨rfl, h2⟩; exact ⟨rfl, h2⟩))
      simp only [Act.put, List.setIfInBounds_toArray, List.set_cons_zero, List.set_cons_succ]
      apply wpY_takeA 6; (case ho' => exact rfl); (case hg => exact rfl); (case hB => kernel_rfl); (case hW => kernel_rfl); (case h => (intro w1 h1; go_simp; refine (M1.out _).mono ?_; rintro e w2 ⟨rfl, h2⟩; exact ⟨rfl, h2⟩))
      simp only [Act.put, List.setIfInBounds_toArray, List.set_cons_zero, List.set_cons_succ]
      apply wpY_takeB 7; (case ho' => exact rfl); (case hg => exact rfl); (case hB => kernel_rfl); (case h => (intro w1; go_simp; exact ⟨rfl, Below.refl _ _⟩))
      simp only [Act.put, List.setIfInBounds_toArray, List.set_cons_zero, List.set_cons_succ]
      apply wpY_takeA 8; (case ho' => exact rfl); (case hg => exact rfl); (case hB => kernel_rfl); (case hW => kernel_rfl); (case h => (intro w1 h1; first | exact detR_row _ _ rfl _ rfl _ _ _ (p.below h1 p.lt) Try.underlying24 rfl (by first | kernel_rfl | (rw [ofn_size]; kernel_rfl)) rfl | (have hc := (p.below h1 p.lt).cellIs ((show _[4]? = some _ from rfl)); go_simp; exact ⟨rfl, Below.refl _ _⟩)))
      simp only [Act.put, List.setIfInBounds_toArray, List.set_cons_zero, List.set_cons_succ]
      apply wpY_takeA 9; (case ho' => exact rfl); (case hg => exact rfl); (case hB => kernel_rfl); (case hW => kernel_rfl); (case h => (intro w1 h1; go_simp; refine (TN.out _).mono ?_; rintro e w2 ⟨rfl, h2⟩; exact ⟨rfl, h2⟩))
      simp only [Act.put, List.setIfInBounds_toArray, List.set_cons_zero, List.set_cons_succ]
      apply wpY_takeB 10; (case ho' => exact rfl); (case hg => exact rfl); (case hB => kernel_rfl); (case h => (intro w1; go_simp; exact ⟨rfl, Below.refl _ _⟩))
      simp only [Act.put, List.setIfInBounds_toArray, List.set_cons_zero, List.set_cons_succ]
      apply wpY_takeB 11; (case ho' => exact rfl); (case hg => exact rfl); (case hB => kernel_rfl); (case h => (intro w1; go_simp; exact ⟨rfl, Below.refl _ _⟩))
      simp only [Act.put, List.setIfInBounds_toArray, List.set_cons_zero, List.set_cons_succ]
      apply wpY_takeB 12; (case ho' => exact rfl); (case hg => exact rfl); (case hB => kernel_rfl); (case h => (intro w1; go_simp; exact ⟨rfl, Below.refl _ _⟩))
      simp only [Act.put, List.setIfInBounds_toArray, List.set_cons_zero, List.set_cons_succ]
      apply wpY_takeB 13; (case ho' => exact rfl); (case hg => exact rfl); (case hB => kernel_rfl); (case h => (intro w1; go_simp; exact ⟨rfl, Below.refl _ _⟩))
      simp only [Act.put, List.setIfInBounds_toArray, List.set_cons_zero, List.set_cons_succ]
      apply wpY_takeB 14; (case ho' => exact rfl); (case hg => exact rfl); (case hB => kernel_rfl); (case h => (intro w1; go_simp; exact ⟨rfl, Below.refl _ _⟩))
      simp only [Act.put, List.setIfInBounds_toArray, List.set_cons_zero, List.set_cons_succ]
      refine wpY_end (by kernel_rfl) (fun we161 ht => ?_)
      replace hB := hB.trans (ht.mono hB.size)
      replace p := p.below ht p.lt
      replace r := r.below ht r.lt
      clear ht
      go_upto_region 6 with (fail)
      have c5 : we161.cell? ⟨w.heap.size, 5, none⟩ = some (.int .u32 (f 5)) := p.cellIs (rfl)
      go_wp2_with (first
        | (go_at_call 61; with_reducible refine (ST.out _).mono ?_; rintro e w3 ⟨rfl, hb⟩; replace hB := hB.trans (hb.mono hB.size); replace p := p.below hb p.lt; replace r := r.below hb r.lt; clear hb)
        | (go_at_call 64; with_reducible refine (M2.out _).mono ?_; rintro e w4 ⟨rfl, hb⟩; replace hB := hB.trans (hb.mono hB.size); replace p := p.below hb p.lt; replace r := r.below hb r.lt; clear hb)
        | (go_at_call 65; with_reducible refine (UN.out _).mono ?_; rintro e w5 ⟨rfl, hb⟩; replace hB := hB.trans (hb.mono hB.size); replace p := p.below hb p.lt; replace r := r.below hb r.lt; clear hb)
        | (refine wpList_store_row rfl _ _ _ rfl _ rfl _ rfl _ _ r (by first | kernel_rfl | (rw [vfn_size]; kernel_rfl)) (by first | rfl | simp only [vfn_size]) (by first | exact vfn_one _ | rfl) ?_))
      refine bodyPost_ret (results_vec rfl _ _ _ _ _ _ _ rfl (r.row (vfn Y)) Try.underlying39 rfl (by first | kernel_rfl | (rw [vfn_size]; kernel_rfl))) rfl ?_
      refine ⟨?_, Below.setRow hB (by omega) _⟩
      rw [← HF.out, ← HE.out]
      rfl
set_option maxRecDepth 100000 in
set_option maxHeartbeats 4000000 in
theorem sun_any (f : Nat → Int) (t : Int) (w : World) (hf : OO f) : Calls Try.prog 20 #[.agg (ofn f), .int .i64 t] w fun e w' => e = .returned (.tuple #[.agg (vfn (sunF f t)), .int .i64 (placeE f t)]) ∧ Below w.heap.size w w' := by
  have CK := Lib.hid (fun w => check_any f w)
  have TM := Lib.hid (fun w => time_any t w)
  obtain ⟨RF, hRF⟩ : ∃ F, sunF f t = F := ⟨_, rfl⟩
  obtain ⟨RE, hRE⟩ : ∃ F, placeE f t = F := ⟨_, rfl⟩
  rw [hRF, hRE]
  unfold sunF at hRF
  unfold placeE at hRE
  unfold chkE at CK
  cases hb : okO f
  case false =>
    rw [hb] at CK hRF hRE
    have HF := Lib.hid hRF
    have HE := Lib.hid hRE
    clear hRF hRE
    go_enter Try.func20, Try.ntmps20
    go_upto_region 1 with (fail)
    simp only [zero_vec]
    have p : blk ((w.alloc (.cells (ofn f) 24)).alloc (.cells (vfn fun _ => 0) 39)) w.heap.size (ofn f) 24 := (blk.new _ _ _).alloc _
    have r : blk ((w.alloc (.cells (ofn f) 24)).alloc (.cells (vfn fun _ => 0) 39)) (w.heap.size + 1) (vfn fun _ => 0) 39 := blk.new' (by simp)
    have hB : Below w.heap.size w ((w.alloc (.cells (ofn f) 24)).alloc (.cells (vfn fun _ => 0) 39)) := by go_grown
    generalize ((w.alloc (.cells (ofn f) 24)).alloc (.cells (vfn fun _ => 0) 39)) = w0 at *
    go_wp2_with (first
      | (refine wpList_load_rowG ?hw _ _ rfl _ rfl _ _ _ _ p Try.underlying24 rfl ?hi ?_; (case hw => (first | rfl | (simp [Region.wanted, yielded]; done))); (case hi => (first | kernel_rfl | (rw [ofn_size]; kernel_rfl))))
      | (go_at_call 23; with_reducible refine (CK.out _).mono ?_; rintro e w1 ⟨rfl, hb⟩; replace hB := hB.trans (hb.mono hB.size); replace p := p.below hb p.lt; replace r := r.below hb r.lt; clear hb)
      | (rw [zero_vec]; refine wpList_store_row rfl _ _ _ rfl _ rfl _ rfl _ _ r (by first | kernel_rfl | (rw [vfn_size]; kernel_rfl)) (by first | rfl | simp only [vfn_size]) (by first | exact vfn_one _ | rfl) ?_))
    refine bodyPost_ret (results_vec rfl _ _ _ _ _ _ _ rfl (r.row (vfn fun _ => 0)) Try.underlying39 rfl (by first | kernel_rfl | (rw [vfn_size]; kernel_rfl))) rfl ?_
    refine ⟨?_, Below.setRow hB (by omega) _⟩
    rw [← HF.out, ← HE.out]
    rfl
  case true =>
    cases hc : okT t
    case false =>
      rw [hb] at CK
      rw [hc] at TM
      rw [hb, hc] at hRF hRE
      have HF := Lib.hid hRF
      have HE := Lib.hid hRE
      clear hRF hRE
      go_enter Try.func20, Try.ntmps20
      go_upto_region 1 with (fail)
      simp only [zero_vec]
      have p : blk ((w.alloc (.cells (ofn f) 24)).alloc (.cells (vfn fun _ => 0) 39)) w.heap.size (ofn f) 24 := (blk.new _ _ _).alloc _
      have r : blk ((w.alloc (.cells (ofn f) 24)).alloc (.cells (vfn fun _ => 0) 39)) (w.heap.size + 1) (vfn fun _ => 0) 39 := blk.new' (by simp)
      have hB : Below w.heap.size w ((w.alloc (.cells (ofn f) 24)).alloc (.cells (vfn fun _ => 0) 39)) := by go_grown
      generalize ((w.alloc (.cells (ofn f) 24)).alloc (.cells (vfn fun _ => 0) 39)) = w0 at *
      go_wp2_with (first
        | (refine wpList_load_rowG ?hw _ _ rfl _ rfl _ _ _ _ p Try.underlying24 rfl ?hi ?_; (case hw => (first | rfl | (simp [Region.wanted, yielded]; done))); (case hi => (first | kernel_rfl | (rw [ofn_size]; kernel_rfl))))
        | (go_at_call 23; with_reducible refine (CK.out _).mono ?_; rintro e w1 ⟨rfl, hb⟩; replace hB := hB.trans (hb.mono hB.size); replace p := p.below hb p.lt; replace r := r.below hb r.lt; clear hb)
        | (go_at_call 57; with_reducible refine (TM.out _).mono ?_; rintro e wt ⟨rfl, rfl⟩)
        | (rw [zero_vec]; refine wpList_store_row rfl _ _ _ rfl _ rfl _ rfl _ _ r (by first | kernel_rfl | (rw [vfn_size]; kernel_rfl)) (by first | rfl | simp only [vfn_size]) (by first | exact vfn_one _ | rfl) ?_))
      refine bodyPost_ret (results_vec rfl _ _ _ _ _ _ _ rfl (r.row (vfn fun _ => 0)) Try.underlying39 rfl (by first | kernel_rfl | (rw [vfn_size]; kernel_rfl))) rfl ?_
      refine ⟨?_, Below.setRow hB (by omega) _⟩
      rw [← HF.out, ← HE.out]
      rfl
    case true =>
      rw [hb] at CK
      rw [hc] at TM
      rw [hb, hc] at hRF hRE
      have HF := Lib.hid hRF
      have HE := Lib.hid hRE
      clear hRF hRE
      have hb2 := Lib.hid hb
      have hc2 := Lib.hid hc
      have hU : U32 (orbS f t) := wrap_U _
      have hI : ∀ i, i < 3 → I64 (suX3 f t i) := by unfold suX3; exact of3_I (cosI_I hU) (sinI_I hU) ⟨by decide, by decide⟩
      have hvE := vunE_0 (suX3_ok f t)
      have UN := Lib.hid (fun w => vunit_any (suX3 f t) w hI)
      rw [hvE] at UN
      have ho := (okO_iff f).1 hb
      have AN := Lib.hid (fun w => angle_any t (f 2) w hc ho.1.2.2)
      have hu : IntKind.u32.wrap (f 6 + angV t (f 2)) = orbS f t := rfl
      have S1 := Lib.hid (fun w => sinI_any (orbS f t) w hU)
      have C1 := Lib.hid (fun w => cosI_any (orbS f t) w hU)
      obtain ⟨Y, hY⟩ : ∃ Y, vunF (suX3 f t) = Y := ⟨_, rfl⟩
      rw [hY] at UN HF
      clear hY
      unfold suX3 at UN
      rw [← of3_cells] at UN
      generalize angV t (f 2) = A at *
      generalize orbS f t = u at *
      generalize sinI u = su at *
      generalize cosI u = cu at *
      clear hI hvE ho hU hf
      go_enter Try.func20, Try.ntmps20
      go_upto_region 1 with (fail)
      simp only [zero_vec]
      have p : blk ((w.alloc (.cells (ofn f) 24)).alloc (.cells (vfn fun _ => 0) 39)) w.heap.size (ofn f) 24 := (blk.new _ _ _).alloc _
      have r : blk ((w.alloc (.cells (ofn f) 24)).alloc (.cells (vfn fun _ => 0) 39)) (w.heap.size + 1) (vfn fun _ => 0) 39 := blk.new' (by simp)
      have hB : Below w.heap.size w ((w.alloc (.cells (ofn f) 24)).alloc (.cells (vfn fun _ => 0) 39)) := by go_grown
      generalize ((w.alloc (.cells (ofn f) 24)).alloc (.cells (vfn fun _ => 0) 39)) = w0 at *
      go_upto_region 3 with (first
        | (refine wpList_load_rowG ?hw _ _ rfl _ rfl _ _ _ _ p Try.underlying24 rfl ?hi ?_; (case hw => (first | rfl | (simp [Region.wanted, yielded]; done))); (case hi => (first | kernel_rfl | (rw [ofn_size]; kernel_rfl))))
        | (go_at_call 23; with_reducible refine (CK.out _).mono ?_; rintro e w1 ⟨rfl, hb⟩; replace hB := hB.trans (hb.mono hB.size); replace p := p.below hb p.lt; replace r := r.below hb r.lt; clear hb)
        | (go_at_call 57; with_reducible refine (TM.out _).mono ?_; rintro e wt ⟨rfl, rfl⟩))
      refine wp_region_Y 99 8 rfl (by kernel_rfl) ?_
      replace p := p.drew
      replace r := r.drew
      replace hB : Below w.heap.size w w1.drew := hB.drew
      generalize w1.drew = w1d at *
      apply wpY_takeB 0; (case ho' => exact rfl); (case hg => exact rfl); (case hB => kernel_rfl); (case h => (intro w1; go_simp; exact ⟨rfl, Below.refl _ _⟩))
      simp only [Act.put, List.setIfInBounds_toArray, List.set_cons_zero, List.set_cons_succ]
      apply wpY_takeA 1; (case ho' => exact rfl); (case hg => exact rfl); (case hB => kernel_rfl); (case hW => kernel_rfl); (case h => (intro w1 h1; first | exact detR_row _ _ rfl _ rfl _ _ _ (p.below h1 p.lt) Try.underlying24 rfl (by first | kernel_rfl | (rw [ofn_size]; kernel_rfl)) rfl | (have hc := (p.below h1 p.lt).cellIs ((show _[6]? = some _ from rfl)); go_simp; exact ⟨rfl, Below.refl _ _⟩)))
      simp only [Act.put, List.setIfInBounds_toArray, List.set_cons_zero, List.set_cons_succ]
      apply wpY_takeB 2; (case ho' => exact rfl); (case hg => exact rfl); (case hB => kernel_rfl); (case h => (intro w1; go_simp; exact ⟨rfl, Below.refl _ _⟩))
      simp only [Act.put, List.setIfInBounds_toArray, List.set_cons_zero, List.set_cons_succ]
      apply wpY_takeB 3; (case ho' => exact rfl); (case hg => exact rfl); (case hB => kernel_rfl); (case h => (intro w1; go_simp; exact ⟨rfl, Below.refl _ _⟩))
      simp only [Act.put, List.setIfInBounds_toArray, List.set_cons_zero, List.set_cons_succ]
      apply wpY_takeA 4; (case ho' => exact rfl); (case hg => exact rfl); (case hB => kernel_rfl); (case hW => kernel_rfl); (case h => (intro w1 h1; first | exact detR_row _ _ rfl _ rfl _ _ _ (p.below h1 p.lt) Try.underlying24 rfl (by first | kernel_rfl | (rw [ofn_size]; kernel_rfl)) rfl | (have hc := (p.below h1 p.lt).cellIs ((show _[2]? = some _ from rfl)); go_simp; exact ⟨rfl, Below.refl _ _⟩)))
      simp only [Act.put, List.setIfInBounds_toArray, List.set_cons_zero, List.set_cons_succ]
      apply wpY_takeA 5; (case ho' => exact rfl); (case hg => exact rfl); (case hB => kernel_rfl); (case hW => kernel_rfl); (case h => (intro w1 h1; go_simp; refine (AN.out _).mono ?_; rintro e w2 ⟨rfl, h2⟩; exact ⟨rfl, h2⟩))
      simp only [Act.put, List.setIfInBounds_toArray, List.set_cons_zero, List.set_cons_succ]
      apply wpY_takeB 6; (case ho' => exact rfl); (case hg => exact rfl); (case hB => kernel_rfl); (case h => (intro w1; go_simp; exact ⟨rfl, Below.refl _ _⟩))
      simp only [Act.put, List.setIfInBounds_toArray, List.set_cons_zero, List.set_cons_succ]
      apply wpY_takeB 7; (case ho' => exact rfl); (case hg => exact rfl); (case hB => kernel_rfl); (case h => (intro w1; go_simp; exact ⟨rfl, Below.refl _ _⟩))
      simp only [Act.put, List.setIfInBounds_toArray, List.set_cons_zero, List.set_cons_succ]
      refine wpY_end (by kernel_rfl) (fun we107 ht => ?_)
      replace hB := hB.trans (ht.mono hB.size)
      replace p := p.below ht p.lt
      replace r := r.below ht r.lt
      clear ht
      go_wp2_with (first
        | (go_at_call 63; with_reducible refine (C1.out _).mono ?_; rintro e w2 ⟨rfl, hb⟩; replace hB := hB.trans (hb.mono hB.size); replace p := p.below hb p.lt; replace r := r.below hb r.lt; clear hb)
        | (go_at_call 61; with_reducible refine (S1.out _).mono ?_; rintro e w3 ⟨rfl, hb⟩; replace hB := hB.trans (hb.mono hB.size); replace p := p.below hb p.lt; replace r := r.below hb r.lt; clear hb)
        | (go_at_call 65; with_reducible refine (UN.out _).mono ?_; rintro e w4 ⟨rfl, hb⟩; replace hB := hB.trans (hb.mono hB.size); replace p := p.below hb p.lt; replace r := r.below hb r.lt; clear hb)
        | (refine wpList_store_row rfl _ _ _ rfl _ rfl _ rfl _ _ r (by first | kernel_rfl | (rw [vfn_size]; kernel_rfl)) (by first | rfl | simp only [vfn_size]) (by first | exact vfn_one _ | rfl) ?_))
      refine bodyPost_ret (results_vec rfl _ _ _ _ _ _ _ rfl (r.row (vfn Y)) Try.underlying39 rfl (by first | kernel_rfl | (rw [vfn_size]; kernel_rfl))) rfl ?_
      refine ⟨?_, Below.setRow hB (by omega) _⟩
      rw [← HF.out, ← HE.out]
      rfl
end Go.Proofs.Ytnkjbdfhdenbcaa
