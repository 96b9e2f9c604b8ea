/-
  Orbits: the shadow, in the package and in its specification. Orbits: stations and what is in view, in the package and in its specification.
-/
import Derived.Test.YtkmelddejdikgaaOrbC
set_option linter.unusedSimpArgs false
set_option linter.unusedVariables false
namespace Go.Proofs.Ytkmelddejdikgaa
open Go.RowKit PM Dt
theorem place_not {f : Nat → Int} {t : Int} (h : (okO f && okT t) = false) : placeE f t = 2 := by unfold placeE; rw [h]; rfl
theorem place_yes {f : Nat → Int} {t : Int} (h : (okO f && okT t) = true) : placeE f t = 0 := by unfold placeE; rw [h]; rfl
end Go.Proofs.Ytkmelddejdikgaa
namespace Go.Proofs.Ytkmelddejdikgaa
open Go.RowKit PM Dt
set_option maxRecDepth 100000 in
set_option maxHeartbeats 8000000 in
theorem station_any (f g : Nat → Int) (t : Int) (w : World) (hf : OO f) (hg : SS g) : Calls Try.prog 76 #[.agg (ofn f), .agg (stn g), .int .i64 t] w fun e w' => e = .returned (.tuple #[.agg (vfn (statF f g t)), .int .i64 (statE f g t)]) ∧ Below w.heap.size w w' := by
  have CK := Lib.hid (fun w => check_any f w)
  have TM := Lib.hid (fun w => time_any t w)
  obtain ⟨RF, hRF⟩ : ∃ F, statF f g t = F := ⟨_, rfl⟩
  obtain ⟨RE, hRE⟩ : ∃ F, statE f g t = F := ⟨_, rfl⟩
  rw [hRF, hRE]
  unfold statF at hRF
  unfold statE at hRE
  unfold chkE at CK
  cases hb : okO f
  case false =>
    rw [hb] at CK hRF hRE
    have HF := Lib.hid hRF
    have HE := Lib.hid hRE
    clear hRF hRE
    go_enter Try.func76, Try.ntmps76
    go_upto_region 1 with (fail)
    simp only [zero_vec]
    have p : blk (((w.alloc (.cells (ofn f) 50)).alloc (.cells (stn g) 63)).alloc (.cells (vfn fun _ => 0) 31)) w.heap.size (ofn f) 50 := ((blk.new _ _ _).alloc _).alloc _
    have q : blk (((w.alloc (.cells (ofn f) 50)).alloc (.cells (stn g) 63)).alloc (.cells (vfn fun _ => 0) 31)) (w.heap.size + 1) (stn g) 63 := (blk.new' (by simp)).alloc _
    have r : blk (((w.alloc (.cells (ofn f) 50)).alloc (.cells (stn g) 63)).alloc (.cells (vfn fun _ => 0) 31)) (w.heap.size + 2) (vfn fun _ => 0) 31 := blk.new' (by simp)
    have hB : Below w.heap.size w (((w.alloc (.cells (ofn f) 50)).alloc (.cells (stn g) 63)).alloc (.cells (vfn fun _ => 0) 31)) := by go_grown
    generalize (((w.alloc (.cells (ofn f) 50)).alloc (.cells (stn g) 63)).alloc (.cells (vfn fun _ => 0) 31)) = w0 at *
    have c0 : w0.cell? ⟨(w.heap.size + 1), 0, none⟩ = some (.int .u32 (g 0)) := q.cellIs (rfl)
    have c1 : w0.cell? ⟨(w.heap.size + 1), 2, none⟩ = some (.int .i64 (g 2)) := q.cellIs (rfl)
    go_wp2_with (first
      | (refine wpList_load_rowG ?hw _ _ rfl _ rfl _ _ _ _ p Try.underlying50 rfl ?hi ?_; (case hw => (first | rfl | (simp [Region.wanted, yielded]; done))); (case hi => (first | kernel_rfl | (rw [ofn_size]; kernel_rfl))))
      | (refine wpList_load_rowG ?hw _ _ rfl _ rfl _ _ _ _ q Try.underlying63 rfl ?hi ?_; (case hw => (first | rfl | (simp [Region.wanted, yielded]; done))); (case hi => (first | kernel_rfl | (rw [stn_size]; kernel_rfl))))
      | (go_at_call 131; with_reducible refine (CK.out _).mono ?_; rintro e w1 ⟨rfl, hb⟩; replace hB := hB.trans (hb.mono hB.size); replace p := p.below hb p.lt; replace q := q.below hb q.lt; replace r := r.below hb r.lt; replace c0 : w1.cell? ⟨w.heap.size + 1, 0, none⟩ = some (.int .u32 (g 0)) := q.cellIs rfl; replace c1 : w1.cell? ⟨w.heap.size + 1, 2, none⟩ = some (.int .i64 (g 2)) := q.cellIs rfl; clear hb)
      | (go_at_call 129; with_reducible refine (TM.out _).mono ?_; rintro e wt ⟨rfl, rfl⟩)
      | fail
      | (rw [zero_vec]; refine wpList_store_row rfl _ _ _ rfl _ rfl _ rfl _ _ r (by first | kernel_rfl | (rw [vfn_size]; kernel_rfl)) (by first | rfl | simp only [vfn_size]) (by first | exact vfn_one _ | rfl) ?_))
    refine bodyPost_ret (results_vec rfl _ _ _ _ _ _ _ rfl (r.row (vfn fun _ => 0)) Try.underlying31 rfl (by first | kernel_rfl | (rw [vfn_size]; kernel_rfl))) rfl ?_
    refine ⟨?_, Below.setRow hB (by omega) _⟩
    rw [← HF.out, ← HE.out]
    rfl
  case true =>
    rw [hb] at CK
    cases hc : okT t
    case false =>
      rw [hc] at TM
      rw [hb, hc] at hRF hRE
      have HF := Lib.hid hRF
      have HE := Lib.hid hRE
      clear hRF hRE
      go_enter Try.func76, Try.ntmps76
      go_upto_region 1 with (fail)
      simp only [zero_vec]
      have p : blk (((w.alloc (.cells (ofn f) 50)).alloc (.cells (stn g) 63)).alloc (.cells (vfn fun _ => 0) 31)) w.heap.size (ofn f) 50 := ((blk.new _ _ _).alloc _).alloc _
      have q : blk (((w.alloc (.cells (ofn f) 50)).alloc (.cells (stn g) 63)).alloc (.cells (vfn fun _ => 0) 31)) (w.heap.size + 1) (stn g) 63 := (blk.new' (by simp)).alloc _
      have r : blk (((w.alloc (.cells (ofn f) 50)).alloc (.cells (stn g) 63)).alloc (.cells (vfn fun _ => 0) 31)) (w.heap.size + 2) (vfn fun _ => 0) 31 := blk.new' (by simp)
      have hB : Below w.heap.size w (((w.alloc (.cells (ofn f) 50)).alloc (.cells (stn g) 63)).alloc (.cells (vfn fun _ => 0) 31)) := by go_grown
      generalize (((w.alloc (.cells (ofn f) 50)).alloc (.cells (stn g) 63)).alloc (.cells (vfn fun _ => 0) 31)) = w0 at *
      have c0 : w0.cell? ⟨(w.heap.size + 1), 0, none⟩ = some (.int .u32 (g 0)) := q.cellIs (rfl)
      have c1 : w0.cell? ⟨(w.heap.size + 1), 2, none⟩ = some (.int .i64 (g 2)) := q.cellIs (rfl)
      go_wp2_with (first
        | (refine wpList_load_rowG ?hw _ _ rfl _ rfl _ _ _ _ p Try.underlying50 rfl ?hi ?_; (case hw => (first | rfl | (simp [Region.wanted, yielded]; done))); (case hi => (first | kernel_rfl | (rw [ofn_size]; kernel_rfl))))
        | (refine wpList_load_rowG ?hw _ _ rfl _ rfl _ _ _ _ q Try.underlying63 rfl ?hi ?_; (case hw => (first | rfl | (simp [Region.wanted, yielded]; done))); (case hi => (first | kernel_rfl | (rw [stn_size]; kernel_rfl))))
        | (go_at_call 131; with_reducible refine (CK.out _).mono ?_; rintro e w1 ⟨rfl, hb⟩; replace hB := hB.trans (hb.mono hB.size); replace p := p.below hb p.lt; replace q := q.below hb q.lt; replace r := r.below hb r.lt; replace c0 : w1.cell? ⟨w.heap.size + 1, 0, none⟩ = some (.int .u32 (g 0)) := q.cellIs rfl; replace c1 : w1.cell? ⟨w.heap.size + 1, 2, none⟩ = some (.int .i64 (g 2)) := q.cellIs rfl; clear hb)
        | (go_at_call 129; with_reducible refine (TM.out _).mono ?_; rintro e wt ⟨rfl, rfl⟩)
        | fail
        | (rw [zero_vec]; refine wpList_store_row rfl _ _ _ rfl _ rfl _ rfl _ _ r (by first | kernel_rfl | (rw [vfn_size]; kernel_rfl)) (by first | rfl | simp only [vfn_size]) (by first | exact vfn_one _ | rfl) ?_))
      refine bodyPost_ret (results_vec rfl _ _ _ _ _ _ _ rfl (r.row (vfn fun _ => 0)) Try.underlying31 rfl (by first | kernel_rfl | (rw [vfn_size]; kernel_rfl))) rfl ?_
      refine ⟨?_, Below.setRow hB (by omega) _⟩
      rw [← HF.out, ← HE.out]
      rfl
    case true =>
      rw [hc] at TM
      have z0 : decide (1073741824 < g 0) = !decide (g 0 ≤ 1073741824) := by by_cases h : g 0 ≤ 1073741824 <;> simp [h] <;> omega
      have z2 : decide (g 2 < 0) = !decide (0 ≤ g 2) := by by_cases h : 0 ≤ g 2 <;> simp [h] <;> omega
      have z3 : decide (1073741824 < g 2) = !decide (g 2 ≤ 1073741824) := by by_cases h : g 2 ≤ 1073741824 <;> simp [h] <;> omega
      have hs : okS g = ((decide (g 0 ≤ 1073741824) || decide (3221225472 ≤ g 0)) && (decide (0 ≤ g 2) && decide (g 2 ≤ 1073741824))) := rfl
      rw [hb, hc, hs] at hRF hRE
      clear hs
      obtain ⟨b0, hb0⟩ : ∃ b, decide (g 0 ≤ 1073741824) = b := ⟨_, rfl⟩
      obtain ⟨b1, hb1⟩ : ∃ b, decide (3221225472 ≤ g 0) = b := ⟨_, rfl⟩
      obtain ⟨b2, hb2⟩ : ∃ b, decide (0 ≤ g 2) = b := ⟨_, rfl⟩
      obtain ⟨b3, hb3⟩ : ∃ b, decide (g 2 ≤ 1073741824) = b := ⟨_, rfl⟩
      rw [hb0, hb1, hb2, hb3] at hRF hRE
      rw [hb0] at z0
      rw [hb2] at z2
      rw [hb3] at z3
      have HF := Lib.hid hRF
      have HE := Lib.hid hRE
      clear hRF hRE
      cases b0
      case false =>
        replace z0 : decide (1073741824 < g 0) = true := z0
        cases b1
        case false =>
          go_enter Try.func76, Try.ntmps76
          go_upto_region 1 with (fail)
          simp only [zero_vec]
          have p : blk (((w.alloc (.cells (ofn f) 50)).alloc (.cells (stn g) 63)).alloc (.cells (vfn fun _ => 0) 31)) w.heap.size (ofn f) 50 := ((blk.new _ _ _).alloc _).alloc _
          have q : blk (((w.alloc (.cells (ofn f) 50)).alloc (.cells (stn g) 63)).alloc (.cells (vfn fun _ => 0) 31)) (w.heap.size + 1) (stn g) 63 := (blk.new' (by simp)).alloc _
          have r : blk (((w.alloc (.cells (ofn f) 50)).alloc (.cells (stn g) 63)).alloc (.cells (vfn fun _ => 0) 31)) (w.heap.size + 2) (vfn fun _ => 0) 31 := blk.new' (by simp)
          have hB : Below w.heap.size w (((w.alloc (.cells (ofn f) 50)).alloc (.cells (stn g) 63)).alloc (.cells (vfn fun _ => 0) 31)) := by go_grown
          generalize (((w.alloc (.cells (ofn f) 50)).alloc (.cells (stn g) 63)).alloc (.cells (vfn fun _ => 0) 31)) = w0 at *
          have c0 : w0.cell? ⟨(w.heap.size + 1), 0, none⟩ = some (.int .u32 (g 0)) := q.cellIs (rfl)
          have c1 : w0.cell? ⟨(w.heap.size + 1), 2, none⟩ = some (.int .i64 (g 2)) := q.cellIs (rfl)
          go_wp2_with (first
            | (refine wpList_load_rowG ?hw _ _ rfl _ rfl _ _ _ _ p Try.underlying50 rfl ?hi ?_; (case hw => (first | rfl | (simp [Region.wanted, yielded]; done))); (case hi => (first | kernel_rfl | (rw [ofn_size]; kernel_rfl))))
            | (refine wpList_load_rowG ?hw _ _ rfl _ rfl _ _ _ _ q Try.underlying63 rfl ?hi ?_; (case hw => (first | rfl | (simp [Region.wanted, yielded]; done))); (case hi => (first | kernel_rfl | (rw [stn_size]; kernel_rfl))))
            | (go_at_call 131; with_reducible refine (CK.out _).mono ?_; rintro e w1 ⟨rfl, hb⟩; replace hB := hB.trans (hb.mono hB.size); replace p := p.below hb p.lt; replace q := q.below hb q.lt; replace r := r.below hb r.lt; replace c0 : w1.cell? ⟨w.heap.size + 1, 0, none⟩ = some (.int .u32 (g 0)) := q.cellIs rfl; replace c1 : w1.cell? ⟨w.heap.size + 1, 2, none⟩ = some (.int .i64 (g 2)) := q.cellIs rfl; clear hb)
            | (go_at_call 129; with_reducible refine (TM.out _).mono ?_; rintro e wt ⟨rfl, rfl⟩)
            | fail
            | (rw [zero_vec]; refine wpList_store_row rfl _ _ _ rfl _ rfl _ rfl _ _ r (by first | kernel_rfl | (rw [vfn_size]; kernel_rfl)) (by first | rfl | simp only [vfn_size]) (by first | exact vfn_one _ | rfl) ?_))
          refine bodyPost_ret (results_vec rfl _ _ _ _ _ _ _ rfl (r.row (vfn fun _ => 0)) Try.underlying31 rfl (by first | kernel_rfl | (rw [vfn_size]; kernel_rfl))) rfl ?_
          refine ⟨?_, Below.setRow hB (by omega) _⟩
          rw [← HF.out, ← HE.out]
          rfl
        case true =>
          cases b2
          case false =>
            replace z2 : decide (g 2 < 0) = true := z2
            go_enter Try.func76, Try.ntmps76
            go_upto_region 1 with (fail)
            simp only [zero_vec]
            have p : blk (((w.alloc (.cells (ofn f) 50)).alloc (.cells (stn g) 63)).alloc (.cells (vfn fun _ => 0) 31)) w.heap.size (ofn f) 50 := ((blk.new _ _ _).alloc _).alloc _
            have q : blk (((w.alloc (.cells (ofn f) 50)).alloc (.cells (stn g) 63)).alloc (.cells (vfn fun _ => 0) 31)) (w.heap.size + 1) (stn g) 63 := (blk.new' (by simp)).alloc _
            have r : blk (((w.alloc (.cells (ofn f) 50)).alloc (.cells (stn g) 63)).alloc (.cells (vfn fun _ => 0) 31)) (w.heap.size + 2) (vfn fun _ => 0) 31 := blk.new' (by simp)
            have hB : Below w.heap.size w (((w.alloc (.cells (ofn f) 50)).alloc (.cells (stn g) 63)).alloc (.cells (vfn fun _ => 0) 31)) := by go_grown
            generalize (((w.alloc (.cells (ofn f) 50)).alloc (.cells (stn g) 63)).alloc (.cells (vfn fun _ => 0) 31)) = w0 at *
            have c0 : w0.cell? ⟨(w.heap.size + 1), 0, none⟩ = some (.int .u32 (g 0)) := q.cellIs (rfl)
            have c1 : w0.cell? ⟨(w.heap.size + 1), 2, none⟩ = some (.int .i64 (g 2)) := q.cellIs (rfl)
            go_wp2_with (first
              | (refine wpList_load_rowG ?hw _ _ rfl _ rfl _ _ _ _ p Try.underlying50 rfl ?hi ?_; (case hw => (first | rfl | (simp [Region.wanted, yielded]; done))); (case hi => (first | kernel_rfl | (rw [ofn_size]; kernel_rfl))))
              | (refine wpList_load_rowG ?hw _ _ rfl _ rfl _ _ _ _ q Try.underlying63 rfl ?hi ?_; (case hw => (first | rfl | (simp [Region.wanted, yielded]; done))); (case hi => (first | kernel_rfl | (rw [stn_size]; kernel_rfl))))
              | (go_at_call 131; with_reducible refine (CK.out _).mono ?_; rintro e w1 ⟨rfl, hb⟩; replace hB := hB.trans (hb.mono hB.size); replace p := p.below hb p.lt; replace q := q.below hb q.lt; replace r := r.below hb r.lt; replace c0 : w1.cell? ⟨w.heap.size + 1, 0, none⟩ = some (.int .u32 (g 0)) := q.cellIs rfl; replace c1 : w1.cell? ⟨w.heap.size + 1, 2, none⟩ = some (.int .i64 (g 2)) := q.cellIs rfl; clear hb)
              | (go_at_call 129; with_reducible refine (TM.out _).mono ?_; rintro e wt ⟨rfl, rfl⟩)
              | fail
              | (rw [zero_vec]; refine wpList_store_row rfl _ _ _ rfl _ rfl _ rfl _ _ r (by first | kernel_rfl | (rw [vfn_size]; kernel_rfl)) (by first | rfl | simp only [vfn_size]) (by first | exact vfn_one _ | rfl) ?_))
            refine bodyPost_ret (results_vec rfl _ _ _ _ _ _ _ rfl (r.row (vfn fun _ => 0)) Try.underlying31 rfl (by first | kernel_rfl | (rw [vfn_size]; kernel_rfl))) rfl ?_
            refine ⟨?_, Below.setRow hB (by omega) _⟩
            rw [← HF.out, ← HE.out]
            rfl
          case true =>
            replace z2 : decide (g 2 < 0) = false := z2
            cases b3
            case false =>
              replace z3 : decide (1073741824 < g 2) = true := z3
              go_enter Try.func76, Try.ntmps76
              go_upto_region 1 with (fail)
              simp only [zero_vec]
              have p : blk (((w.alloc (.cells (ofn f) 50)).alloc (.cells (stn g) 63)).alloc (.cells (vfn fun _ => 0) 31)) w.heap.size (ofn f) 50 := ((blk.new _ _ _).alloc _).alloc _
              have q : blk (((w.alloc (.cells (ofn f) 50)).alloc (.cells (stn g) 63)).alloc (.cells (vfn fun _ => 0) 31)) (w.heap.size + 1) (stn g) 63 := (blk.new' (by simp)).alloc _
              have r : blk (((w.alloc (.cells (ofn f) 50)).alloc (.cells (stn g) 63)).alloc (.cells (vfn fun _ => 0) 31)) (w.heap.size + 2) (vfn fun _ => 0) 31 := blk.new' (by simp)
              have hB : Below w.heap.size w (((w.alloc (.cells (ofn f) 50)).alloc (.cells (stn g) 63)).alloc (.cells (vfn fun _ => 0) 31)) := by go_grown
              generalize (((w.alloc (.cells (ofn f) 50)).alloc (.cells (stn g) 63)).alloc (.cells (vfn fun _ => 0) 31)) = w0 at *
              have c0 : w0.cell? ⟨(w.heap.size + 1), 0, none⟩ = some (.int .u32 (g 0)) := q.cellIs (rfl)
              have c1 : w0.cell? ⟨(w.heap.size + 1), 2, none⟩ = some (.int .i64 (g 2)) := q.cellIs (rfl)
              go_wp2_with (first
                | (refine wpList_load_rowG ?hw _ _ rfl _ rfl _ _ _ _ p Try.underlying50 rfl ?hi ?_; (case hw => (first | rfl | (simp [Region.wanted, yielded]; done))); (case hi => (first | kernel_rfl | (rw [ofn_size]; kernel_rfl))))
                | (refine wpList_load_rowG ?hw _ _ rfl _ rfl _ _ _ _ q Try.underlying63 rfl ?hi ?_; (case hw => (first | rfl | (simp [Region.wanted, yielded]; done))); (case hi => (first | kernel_rfl | (rw [stn_size]; kernel_rfl))))
                | (go_at_call 131; with_reducible refine (CK.out _).mono ?_; rintro e w1 ⟨rfl, hb⟩; replace hB := hB.trans (hb.mono hB.size); replace p := p.below hb p.lt; replace q := q.below hb q.lt; replace r := r.below hb r.lt; replace c0 : w1.cell? ⟨w.heap.size + 1, 0, none⟩ = some (.int .u32 (g 0)) := q.cellIs rfl; replace c1 : w1.cell? ⟨w.heap.size + 1, 2, none⟩ = some (.int .i64 (g 2)) := q.cellIs rfl; clear hb)
                | (go_at_call 129; with_reducible refine (TM.out _).mono ?_; rintro e wt ⟨rfl, rfl⟩)
                | fail
                | (rw [zero_vec]; refine wpList_store_row rfl _ _ _ rfl _ rfl _ rfl _ _ r (by first | kernel_rfl | (rw [vfn_size]; kernel_rfl)) (by first | rfl | simp only [vfn_size]) (by first | exact vfn_one _ | rfl) ?_))
              refine bodyPost_ret (results_vec rfl _ _ _ _ _ _ _ rfl (r.row (vfn fun _ => 0)) Try.underlying31 rfl (by first | kernel_rfl | (rw [vfn_size]; kernel_rfl))) rfl ?_
              refine ⟨?_, Below.setRow hB (by omega) _⟩
              rw [← HF.out, ← HE.out]
              rfl
            case true =>
              replace z3 : decide (1073741824 < g 2) = false := z3
              have hU : U32 (orbD f g t) := wrap_U _
              have hI : ∀ i, i < 3 → I64 (stX3 f g t i) := by unfold stX3; exact of3_I (mulV_I _ _) (mulV_I _ _) (sinI_I hg.1)
              have hvE := vunE_0 (stX3_ok f t hg)
              have UN := Lib.hid (fun w => vunit_any (stX3 f g t) w hI)
              rw [hvE] at UN
              obtain ⟨u0, u1, _⟩ := hg
              have ho := (okO_iff f).1 hb
              have AN := Lib.hid (fun w => angle_any t (f 1) w hc ho.1.2.1)
              have hu : IntKind.u32.wrap (g 1 + angV t (f 1)) = orbD f g t := rfl
              have SA := Lib.hid (fun w => sinI_any (orbD f g t) w hU)
              have CA := Lib.hid (fun w => cosI_any (orbD f g t) w hU)
              have SL := Lib.hid (fun w => sinI_any (g 0) w u0)
              have CL := Lib.hid (fun w => cosI_any (g 0) w u0)
              have M1 := Lib.hid (fun w => omul_any (cosI (g 0)) (cosI (orbD f g t)) w (cosI_I u0) (cosI_I hU))
              have M2 := Lib.hid (fun w => omul_any (cosI (g 0)) (sinI (orbD f g t)) w (cosI_I u0) (sinI_I hU))
              obtain ⟨Y, hY⟩ : ∃ Y, vunF (stX3 f g t) = Y := ⟨_, rfl⟩
              rw [hY] at UN HF
              clear hY
              unfold stX3 at UN
              rw [← of3_cells] at UN
              generalize angV t (f 1) = A at *
              generalize orbD f g t = u at *
              generalize sinI u = su at *
              generalize cosI u = cu at *
              generalize sinI (g 0) = sl at *
              generalize cosI (g 0) = cl at *
              generalize mulV cl cu = m1 at *
              generalize mulV cl su = m2 at *
              clear hI hvE u0 u1 ho hU hf
              go_enter Try.func76, Try.ntmps76
              go_upto_region 1 with (fail)
              simp only [zero_vec]
              have p : blk (((w.alloc (.cells (ofn f) 50)).alloc (.cells (stn g) 63)).alloc (.cells (vfn fun _ => 0) 31)) w.heap.size (ofn f) 50 := ((blk.new _ _ _).alloc _).alloc _
              have q : blk (((w.alloc (.cells (ofn f) 50)).alloc (.cells (stn g) 63)).alloc (.cells (vfn fun _ => 0) 31)) (w.heap.size + 1) (stn g) 63 := (blk.new' (by simp)).alloc _
              have r : blk (((w.alloc (.cells (ofn f) 50)).alloc (.cells (stn g) 63)).alloc (.cells (vfn fun _ => 0) 31)) (w.heap.size + 2) (vfn fun _ => 0) 31 := blk.new' (by simp)
              have hB : Below w.heap.size w (((w.alloc (.cells (ofn f) 50)).alloc (.cells (stn g) 63)).alloc (.cells (vfn fun _ => 0) 31)) := by go_grown
              generalize (((w.alloc (.cells (ofn f) 50)).alloc (.cells (stn g) 63)).alloc (.cells (vfn fun _ => 0) 31)) = w0 at *
              have c0 : w0.cell? ⟨(w.heap.size + 1), 0, none⟩ = some (.int .u32 (g 0)) := q.cellIs (rfl)
              have c1 : w0.cell? ⟨(w.heap.size + 1), 2, none⟩ = some (.int .i64 (g 2)) := q.cellIs (rfl)
              go_upto_region 4 with (first
                | (refine wpList_load_rowG ?hw _ _ rfl _ rfl _ _ _ _ p Try.underlying50 rfl ?hi ?_; (case hw => (first | rfl | (simp [Region.wanted, yielded]; done))); (case hi => (first | kernel_rfl | (rw [ofn_size]; kernel_rfl))))
                | (go_at_call 131; with_reducible refine (CK.out _).mono ?_; rintro e w1 ⟨rfl, hb⟩; replace hB := hB.trans (hb.mono hB.size); replace p := p.below hb p.lt; replace q := q.below hb q.lt; replace r := r.below hb r.lt; replace c0 : w1.cell? ⟨w.heap.size + 1, 0, none⟩ = some (.int .u32 (g 0)) := q.cellIs rfl; replace c1 : w1.cell? ⟨w.heap.size + 1, 2, none⟩ = some (.int .i64 (g 2)) := q.cellIs rfl; clear hb)
                | (go_at_call 129; with_reducible refine (TM.out _).mono ?_; rintro e wt ⟨rfl, rfl⟩))
              clear c0 c1
              refine wp_region_Y 99 8 rfl (by kernel_rfl) ?_
              replace p := p.drew
              replace q := q.drew
              replace r := r.drew
              replace hB : Below w.heap.size w w1.drew := hB.drew
              generalize w1.drew = w1d at *
              apply wpY_takeB 0; (case ho' => exact rfl); (case hg => exact rfl); (case hB => kernel_rfl); (case h => (intro w1; go_simp; exact ⟨rfl, Below.refl _ _⟩))
              simp only [Act.put, List.setIfInBounds_toArray, List.set_cons_zero, List.set_cons_succ]
              apply wpY_takeA 1; (case ho' => exact rfl); (case hg => exact rfl); (case hB => kernel_rfl); (case hW => kernel_rfl); (case h => (intro w1 h1; first | exact detR_row _ _ rfl _ rfl _ _ _ (q.below h1 q.lt) Try.underlying63 rfl (by first | kernel_rfl | (rw [stn_size]; kernel_rfl)) rfl | (have hc := (q.below h1 q.lt).cellIs ((show _[1]? = some _ from rfl)); go_simp; exact ⟨rfl, Below.refl _ _⟩)))
              simp only [Act.put, List.setIfInBounds_toArray, List.set_cons_zero, List.set_cons_succ]
              apply wpY_takeB 2; (case ho' => exact rfl); (case hg => exact rfl); (case hB => kernel_rfl); (case h => (intro w1; go_simp; exact ⟨rfl, Below.refl _ _⟩))
              simp only [Act.put, List.setIfInBounds_toArray, List.set_cons_zero, List.set_cons_succ]
              apply wpY_takeB 3; (case ho' => exact rfl); (case hg => exact rfl); (case hB => kernel_rfl); (case h => (intro w1; go_simp; exact ⟨rfl, Below.refl _ _⟩))
              simp only [Act.put, List.setIfInBounds_toArray, List.set_cons_zero, List.set_cons_succ]
              apply wpY_takeA 4; (case ho' => exact rfl); (case hg => exact rfl); (case hB => kernel_rfl); (case hW => kernel_rfl); (case h => (intro w1 h1; first | exact detR_row _ _ rfl _ rfl _ _ _ (p.below h1 p.lt) Try.underlying50 rfl (by first | kernel_rfl | (rw [ofn_size]; kernel_rfl)) rfl | (have hc := (p.below h1 p.lt).cellIs ((show _[1]? = some _ from rfl)); go_simp; exact ⟨rfl, Below.refl _ _⟩)))
              simp only [Act.put, List.setIfInBounds_toArray, List.set_cons_zero, List.set_cons_succ]
              apply wpY_takeA 5; (case ho' => exact rfl); (case hg => exact rfl); (case hB => kernel_rfl); (case hW => kernel_rfl); (case h => (intro w1 h1; go_simp; refine (AN.out _).mono ?_; rintro e w2 ⟨rfl, h2⟩; exact ⟨rfl, h2⟩))
              simp only [Act.put, List.setIfInBounds_toArray, List.set_cons_zero, List.set_cons_succ]
              apply wpY_takeB 6; (case ho' => exact rfl); (case hg => exact rfl); (case hB => kernel_rfl); (case h => (intro w1; go_simp; exact ⟨rfl, Below.refl _ _⟩))
              simp only [Act.put, List.setIfInBounds_toArray, List.set_cons_zero, List.set_cons_succ]
              apply wpY_takeB 7; (case ho' => exact rfl); (case hg => exact rfl); (case hB => kernel_rfl); (case h => (intro w1; go_simp; exact ⟨rfl, Below.refl _ _⟩))
              simp only [Act.put, List.setIfInBounds_toArray, List.set_cons_zero, List.set_cons_succ]
              refine wpY_end (by kernel_rfl) (fun we198 ht => ?_)
              replace hB := hB.trans (ht.mono hB.size)
              replace p := p.below ht p.lt
              replace q := q.below ht q.lt
              replace r := r.below ht r.lt
              clear ht
              have c0 : we198.cell? ⟨(w.heap.size + 1), 0, none⟩ = some (.int .u32 (g 0)) := q.cellIs (rfl)
              go_upto_region 6 with (first
                | (go_at_call 135; with_reducible refine (CL.out _).mono ?_; rintro e w2 ⟨rfl, hb⟩; replace hB := hB.trans (hb.mono hB.size); replace p := p.below hb p.lt; replace q := q.below hb q.lt; replace r := r.below hb r.lt; clear hb))
              clear c0
              refine wp_region_Y 15 17 rfl (by kernel_rfl) ?_
              replace p := p.drew
              replace q := q.drew
              replace r := r.drew
              replace hB : Below w.heap.size w w2.drew := hB.drew
              generalize w2.drew = w2d at *
              apply wpY_takeB 0; (case ho' => exact rfl); (case hg => exact rfl); (case hB => kernel_rfl); (case h => (intro w1; go_simp; exact ⟨rfl, Below.refl _ _⟩))
              simp only [Act.put, List.setIfInBounds_toArray, List.set_cons_zero, List.set_cons_succ]
              apply wpY_takeB 1; (case ho' => exact rfl); (case hg => exact rfl); (case hB => kernel_rfl); (case h => (intro w1; go_simp; exact ⟨rfl, Below.refl _ _⟩))
              simp only [Act.put, List.setIfInBounds_toArray, List.set_cons_zero, List.set_cons_succ]
              apply wpY_takeA 2; (case ho' => exact rfl); (case hg => exact rfl); (case hB => kernel_rfl); (case hW => kernel_rfl); (case h => (intro w1 h1; go_simp; refine (CA.out _).mono ?_; rintro e w2 ⟨rfl, h2⟩; exact ⟨rfl, h2⟩))
              simp only [Act.put, List.setIfInBounds_toArray, List.set_cons_zero, List.set_cons_succ]
              apply wpY_takeA 3; (case ho' => exact rfl); (case hg => exact rfl); (case hB => kernel_rfl); (case hW => kernel_rfl); (case h => (intro w1 h1; go_simp; refine (M1.out _).mono ?_; rintro e w2 ⟨rfl, h2⟩; exact ⟨rfl, h2⟩))
              simp only [Act.put, List.setIfInBounds_toArray, List.set_cons_zero, List.set_cons_succ]
              apply wpY_takeB 4; (case ho' => exact rfl); (case hg => exact rfl); (case hB => kernel_rfl); (case h => (intro w1; go_simp; exact ⟨rfl, Below.refl _ _⟩))
              simp only [Act.put, List.setIfInBounds_toArray, List.set_cons_zero, List.set_cons_succ]
              apply wpY_takeB 5; (case ho' => exact rfl); (case hg => exact rfl); (case hB => kernel_rfl); (case h => (intro w1; go_simp; exact ⟨rfl, Below.refl _ _⟩))
              simp only [Act.put, List.setIfInBounds_toArray, List.set_cons_zero, List.set_cons_succ]
              apply wpY_takeA 6; (case ho' => exact rfl); (case hg => exact rfl); (case hB => kernel_rfl); (case hW => kernel_rfl); (case h => (intro w1 h1; go_simp; refine (SA.out _).mono ?_; rintro e w2 ⟨rfl, h2⟩; exact ⟨rfl, h2⟩))
              simp only [Act.put, List.setIfInBounds_toArray, List.set_cons_zero, List.set_cons_succ]
              apply wpY_takeA 7; (case ho' => exact rfl); (case hg => exact rfl); (case hB => kernel_rfl); (case hW => kernel_rfl); (case h => (intro w1 h1; go_simp; refine (M2.out _).mono ?_; rintro e w2 ⟨rfl, h2⟩; exact ⟨rfl, h2⟩))
              simp only [Act.put, List.setIfInBounds_toArray, List.set_cons_zero, List.set_cons_succ]
              apply wpY_takeB 8; (case ho' => exact rfl); (case hg => exact rfl); (case hB => kernel_rfl); (case h => (intro w1; go_simp; exact ⟨rfl, Below.refl _ _⟩))
              simp only [Act.put, List.setIfInBounds_toArray, List.set_cons_zero, List.set_cons_succ]
              apply wpY_takeA 9; (case ho' => exact rfl); (case hg => exact rfl); (case hB => kernel_rfl); (case hW => kernel_rfl); (case h => (intro w1 h1; first | exact detR_row _ _ rfl _ rfl _ _ _ (q.below h1 q.lt) Try.underlying63 rfl (by first | kernel_rfl | (rw [stn_size]; kernel_rfl)) rfl | (have hc := (q.below h1 q.lt).cellIs ((show _[0]? = some _ from rfl)); go_simp; exact ⟨rfl, Below.refl _ _⟩)))
              simp only [Act.put, List.setIfInBounds_toArray, List.set_cons_zero, List.set_cons_succ]
              apply wpY_takeA 10; (case ho' => exact rfl); (case hg => exact rfl); (case hB => kernel_rfl); (case hW => kernel_rfl); (case h => (intro w1 h1; go_simp; refine (SL.out _).mono ?_; rintro e w2 ⟨rfl, h2⟩; exact ⟨rfl, h2⟩))
              simp only [Act.put, List.setIfInBounds_toArray, List.set_cons_zero, List.set_cons_succ]
              apply wpY_takeB 11; (case ho' => exact rfl); (case hg => exact rfl); (case hB => kernel_rfl); (case h => (intro w1; go_simp; exact ⟨rfl, Below.refl _ _⟩))
              simp only [Act.put, List.setIfInBounds_toArray, List.set_cons_zero, List.set_cons_succ]
              apply wpY_takeA 12; (case ho' => exact rfl); (case hg => exact rfl); (case hB => kernel_rfl); (case hW => kernel_rfl); (case h => (intro w1 h1; go_simp; refine (UN.out _).mono ?_; rintro e w2 ⟨rfl, h2⟩; exact ⟨rfl, h2⟩))
              simp only [Act.put, List.setIfInBounds_toArray, List.set_cons_zero, List.set_cons_succ]
              apply wpY_takeB 13; (case ho' => exact rfl); (case hg => exact rfl); (case hB => kernel_rfl); (case h => (intro w1; go_simp; exact ⟨rfl, Below.refl _ _⟩))
              simp only [Act.put, List.setIfInBounds_toArray, List.set_cons_zero, List.set_cons_succ]
              apply wpY_takeB 14; (case ho' => exact rfl); (case hg => exact rfl); (case hB => kernel_rfl); (case h => (intro w1; go_simp; exact ⟨rfl, Below.refl _ _⟩))
              simp only [Act.put, List.setIfInBounds_toArray, List.set_cons_zero, List.set_cons_succ]
              refine wpY_one rfl rfl (by kernel_rfl) (fun wt243 ht => ?_)
              replace hB := hB.trans (ht.mono hB.size)
              replace p := p.below ht p.lt
              replace q := q.below ht q.lt
              replace r := r.below ht r.lt
              clear ht
              refine oper_store_row _ _ _ rfl _ rfl _ rfl _ _ r (by first | kernel_rfl | (rw [vfn_size]; kernel_rfl)) (by first | rfl | simp only [vfn_size]) (by first | exact vfn_one _ | rfl) ?_
              replace p := p.rowOther (show w.heap.size ≠ w.heap.size + 2 by omega) (vfn Y)
              replace q := q.rowOther (show w.heap.size + 1 ≠ w.heap.size + 2 by omega) (vfn Y)
              replace r := r.row (vfn Y)
              replace hB := Below.setRow hB (show w.heap.size ≤ w.heap.size + 2 by omega) (vfn Y)
              generalize wt243.setRow (w.heap.size + 2) (vfn Y) = wt243s at *
              try simp only [Act.put, List.setIfInBounds_toArray, List.set_cons_zero, List.set_cons_succ]
              apply wpY_takeB 16; (case ho' => exact rfl); (case hg => exact rfl); (case hB => kernel_rfl); (case h => (intro w1; go_simp; exact ⟨rfl, Below.refl _ _⟩))
              simp only [Act.put, List.setIfInBounds_toArray, List.set_cons_zero, List.set_cons_succ]
              refine wpY_end (by kernel_rfl) (fun we258 ht => ?_)
              replace hB := hB.trans (ht.mono hB.size)
              replace p := p.below ht p.lt
              replace q := q.below ht q.lt
              replace r := r.below ht r.lt
              clear ht
              go_wp2_with (fail)
              refine bodyPost_ret (results_vec rfl _ _ _ _ _ _ _ rfl r Try.underlying31 rfl (by first | kernel_rfl | (rw [vfn_size]; kernel_rfl))) rfl ?_
              refine ⟨?_, hB⟩
              rw [← HF.out, ← HE.out]
              rfl
      case true =>
        replace z0 : decide (1073741824 < g 0) = false := z0
        cases b2
        case false =>
          replace z2 : decide (g 2 < 0) = true := z2
          go_enter Try.func76, Try.ntmps76
          go_upto_region 1 with (fail)
          simp only [zero_vec]
          have p : blk (((w.alloc (.cells (ofn f) 50)).alloc (.cells (stn g) 63)).alloc (.cells (vfn fun _ => 0) 31)) w.heap.size (ofn f) 50 := ((blk.new _ _ _).alloc _).alloc _
          have q : blk (((w.alloc (.cells (ofn f) 50)).alloc (.cells (stn g) 63)).alloc (.cells (vfn fun _ => 0) 31)) (w.heap.size + 1) (stn g) 63 := (blk.new' (by simp)).alloc _
          have r : blk (((w.alloc (.cells (ofn f) 50)).alloc (.cells (stn g) 63)).alloc (.cells (vfn fun _ => 0) 31)) (w.heap.size + 2) (vfn fun _ => 0) 31 := blk.new' (by simp)
          have hB : Below w.heap.size w (((w.alloc (.cells (ofn f) 50)).alloc (.cells (stn g) 63)).alloc (.cells (vfn fun _ => 0) 31)) := by go_grown
          generalize (((w.alloc (.cells (ofn f) 50)).alloc (.cells (stn g) 63)).alloc (.cells (vfn fun _ => 0) 31)) = w0 at *
          have c0 : w0.cell? ⟨(w.heap.size + 1), 0, none⟩ = some (.int .u32 (g 0)) := q.cellIs (rfl)
          have c1 : w0.cell? ⟨(w.heap.size + 1), 2, none⟩ = some (.int .i64 (g 2)) := q.cellIs (rfl)
          go_wp2_with (first
            | (refine wpList_load_rowG ?hw _ _ rfl _ rfl _ _ _ _ p Try.underlying50 rfl ?hi ?_; (case hw => (first | rfl | (simp [Region.wanted, yielded]; done))); (case hi => (first | kernel_rfl | (rw [ofn_size]; kernel_rfl))))
            | (refine wpList_load_rowG ?hw _ _ rfl _ rfl _ _ _ _ q Try.underlying63 rfl ?hi ?_; (case hw => (first | rfl | (simp [Region.wanted, yielded]; done))); (case hi => (first | kernel_rfl | (rw [stn_size]; kernel_rfl))))
            | (go_at_call 131; with_reducible refine (CK.out _).mono ?_; rintro e w1 ⟨rfl, hb⟩; replace hB := hB.trans (hb.mono hB.size); replace p := p.below hb p.lt; replace q := q.below hb q.lt; replace r := r.below hb r.lt; replace c0 : w1.cell? ⟨w.heap.size + 1, 0, none⟩ = some (.int .u32 (g 0)) := q.cellIs rfl; replace c1 : w1.cell? ⟨w.heap.size + 1, 2, none⟩ = some (.int .i64 (g 2)) := q.cellIs rfl; clear hb)
            | (go_at_call 129; with_reducible refine (TM.out _).mono ?_; rintro e wt ⟨rfl, rfl⟩)
            | fail
            | (rw [zero_vec]; refine wpList_store_row rfl _ _ _ rfl _ rfl _ rfl _ _ r (by first | kernel_rfl | (rw [vfn_size]; kernel_rfl)) (by first | rfl | simp only [vfn_size]) (by first | exact vfn_one _ | rfl) ?_))
          refine bodyPost_ret (results_vec rfl _ _ _ _ _ _ _ rfl (r.row (vfn fun _ => 0)) Try.underlying31 rfl (by first | kernel_rfl | (rw [vfn_size]; kernel_rfl))) rfl ?_
          refine ⟨?_, Below.setRow hB (by omega) _⟩
          rw [← HF.out, ← HE.out]
          rfl
        case true =>
          replace z2 : decide (g 2 < 0) = false := z2
          cases b3
          case false =>
            replace z3 : decide (1073741824 < g 2) = true := z3
            go_enter Try.func76, Try.ntmps76
            go_upto_region 1 with (fail)
            simp only [zero_vec]
            have p : blk (((w.alloc (.cells (ofn f) 50)).alloc (.cells (stn g) 63)).alloc (.cells (vfn fun _ => 0) 31)) w.heap.size (ofn f) 50 := ((blk.new _ _ _).alloc _).alloc _
            have q : blk (((w.alloc (.cells (ofn f) 50)).alloc (.cells (stn g) 63)).alloc (.cells (vfn fun _ => 0) 31)) (w.heap.size + 1) (stn g) 63 := (blk.new' (by simp)).alloc _
            have r : blk (((w.alloc (.cells (ofn f) 50)).alloc (.cells (stn g) 63)).alloc (.cells (vfn fun _ => 0) 31)) (w.heap.size + 2) (vfn fun _ => 0) 31 := blk.new' (by simp)
            have hB : Below w.heap.size w (((w.alloc (.cells (ofn f) 50)).alloc (.cells (stn g) 63)).alloc (.cells (vfn fun _ => 0) 31)) := by go_grown
            generalize (((w.alloc (.cells (ofn f) 50)).alloc (.cells (stn g) 63)).alloc (.cells (vfn fun _ => 0) 31)) = w0 at *
            have c0 : w0.cell? ⟨(w.heap.size + 1), 0, none⟩ = some (.int .u32 (g 0)) := q.cellIs (rfl)
            have c1 : w0.cell? ⟨(w.heap.size + 1), 2, none⟩ = some (.int .i64 (g 2)) := q.cellIs (rfl)
            go_wp2_with (first
              | (refine wpList_load_rowG ?hw _ _ rfl _ rfl _ _ _ _ p Try.underlying50 rfl ?hi ?_; (case hw => (first | rfl | (simp [Region.wanted, yielded]; done))); (case hi => (first | kernel_rfl | (rw [ofn_size]; kernel_rfl))))
              | (refine wpList_load_rowG ?hw _ _ rfl _ rfl _ _ _ _ q Try.underlying63 rfl ?hi ?_; (case hw => (first | rfl | (simp [Region.wanted, yielded]; done))); (case hi => (first | kernel_rfl | (rw [stn_size]; kernel_rfl))))
              | (go_at_call 131; with_reducible refine (CK.out _).mono ?_; rintro e w1 ⟨rfl, hb⟩; replace hB := hB.trans (hb.mono hB.size); replace p := p.below hb p.lt; replace q := q.below hb q.lt; replace r := r.below hb r.lt; replace c0 : w1.cell? ⟨w.heap.size + 1, 0, none⟩ = some (.int .u32 (g 0)) := q.cellIs rfl; replace c1 : w1.cell? ⟨w.heap.size + 1, 2, none⟩ = some (.int .i64 (g 2)) := q.cellIs rfl; clear hb)
              | (go_at_call 129; with_reducible refine (TM.out _).mono ?_; rintro e wt ⟨rfl, rfl⟩)
              | fail
              | (rw [zero_vec]; refine wpList_store_row rfl _ _ _ rfl _ rfl _ rfl _ _ r (by first | kernel_rfl | (rw [vfn_size]; kernel_rfl)) (by first | rfl | simp only [vfn_size]) (by first | exact vfn_one _ | rfl) ?_))
            refine bodyPost_ret (results_vec rfl _ _ _ _ _ _ _ rfl (r.row (vfn fun _ => 0)) Try.underlying31 rfl (by first | kernel_rfl | (rw [vfn_size]; kernel_rfl))) rfl ?_
            refine ⟨?_, Below.setRow hB (by omega) _⟩
            rw [← HF.out, ← HE.out]
            rfl
          case true =>
            replace z3 : decide (1073741824 < g 2) = false := z3
            have hU : U32 (orbD f g t) := wrap_U _
            have hI : ∀ i, i < 3 → I64 (stX3 f g t i) := by unfold stX3; exact of3_I (mulV_I _ _) (mulV_I _ _) (sinI_I hg.1)
            have hvE := vunE_0 (stX3_ok f t hg)
            have UN := Lib.hid (fun w => vunit_any (stX3 f g t) w hI)
            rw [hvE] at UN
            obtain ⟨u0, u1, _⟩ := hg
            have ho := (okO_iff f).1 hb
            have AN := Lib.hid (fun w => angle_any t (f 1) w hc ho.1.2.1)
            have hu : IntKind.u32.wrap (g 1 + angV t (f 1)) = orbD f g t := rfl
            have SA := Lib.hid (fun w => sinI_any (orbD f g t) w hU)
            have CA := Lib.hid (fun w => cosI_any (orbD f g t) w hU)
            have SL := Lib.hid (fun w => sinI_any (g 0) w u0)
            have CL := Lib.hid (fun w => cosI_any (g 0) w u0)
            have M1 := Lib.hid (fun w => omul_any (cosI (g 0)) (cosI (orbD f g t)) w (cosI_I u0) (cosI_I hU))
            have M2 := Lib.hid (fun w => omul_any (cosI (g 0)) (sinI (orbD f g t)) w (cosI_I u0) (sinI_I hU))
            obtain ⟨Y, hY⟩ : ∃ Y, vunF (stX3 f g t) = Y := ⟨_, rfl⟩
            rw [hY] at UN HF
            clear hY
            unfold stX3 at UN
            rw [← of3_cells] at UN
            generalize angV t (f 1) = A at *
            generalize orbD f g t = u at *
            generalize sinI u = su at *
            generalize cosI u = cu at *
            generalize sinI (g 0) = sl at *
            generalize cosI (g 0) = cl at *
            generalize mulV cl cu = m1 at *
            generalize mulV cl su = m2 at *
            clear hI hvE u0 u1 ho hU hf
            go_enter Try.func76, Try.ntmps76
            go_upto_region 1 with (fail)
            simp only [zero_vec]
            have p : blk (((w.alloc (.cells (ofn f) 50)).alloc (.cells (stn g) 63)).alloc (.cells (vfn fun _ => 0) 31)) w.heap.size (ofn f) 50 := ((blk.new _ _ _).alloc _).alloc _
            have q : blk (((w.alloc (.cells (ofn f) 50)).alloc (.cells (stn g) 63)).alloc (.cells (vfn fun _ => 0) 31)) (w.heap.size + 1) (stn g) 63 := (blk.new' (by simp)).alloc _
            have r : blk (((w.alloc (.cells (ofn f) 50)).alloc (.cells (stn g) 63)).alloc (.cells (vfn fun _ => 0) 31)) (w.heap.size + 2) (vfn fun _ => 0) 31 := blk.new' (by simp)
            have hB : Below w.heap.size w (((w.alloc (.cells (ofn f) 50)).alloc (.cells (stn g) 63)).alloc (.cells (vfn fun _ => 0) 31)) := by go_grown
            generalize (((w.alloc (.cells (ofn f) 50)).alloc (.cells (stn g) 63)).alloc (.cells (vfn fun _ => 0) 31)) = w0 at *
            have c0 : w0.cell? ⟨(w.heap.size + 1), 0, none⟩ = some (.int .u32 (g 0)) := q.cellIs (rfl)
            have c1 : w0.cell? ⟨(w.heap.size + 1), 2, none⟩ = some (.int .i64 (g 2)) := q.cellIs (rfl)
            go_upto_region 4 with (first
              | (refine wpList_load_rowG ?hw _ _ rfl _ rfl _ _ _ _ p Try.underlying50 rfl ?hi ?_; (case hw => (first | rfl | (simp [Region.wanted, yielded]; done))); (case hi => (first | kernel_rfl | (rw [ofn_size]; kernel_rfl))))
              | (go_at_call 131; with_reducible refine (CK.out _).mono ?_; rintro e w1 ⟨rfl, hb⟩; replace hB := hB.trans (hb.mono hB.size); replace p := p.below hb p.lt; replace q := q.below hb q.lt; replace r := r.below hb r.lt; replace c0 : w1.cell? ⟨w.heap.size + 1, 0, none⟩ = some (.int .u32 (g 0)) := q.cellIs rfl; replace c1 : w1.cell? ⟨w.heap.size + 1, 2, none⟩ = some (.int .i64 (g 2)) := q.cellIs rfl; clear hb)
              | (go_at_call 129; with_reducible refine (TM.out _).mono ?_; rintro e wt ⟨rfl, rfl⟩))
            clear c0 c1
            refine wp_region_Y 99 8 rfl (by kernel_rfl) ?_
            replace p := p.drew
            replace q := q.drew
            replace r := r.drew
            replace hB : Below w.heap.size w w1.drew := hB.drew
            generalize w1.drew = w1d at *
            apply wpY_takeB 0; (case ho' => exact rfl); (case hg => exact rfl); (case hB => kernel_rfl); (case h => (intro w1; go_simp; exact ⟨rfl, Below.refl _ _⟩))
            simp only [Act.put, List.setIfInBounds_toArray, List.set_cons_zero, List.set_cons_succ]
            apply wpY_takeA 1; (case ho' => exact rfl); (case hg => exact rfl); (case hB => kernel_rfl); (case hW => kernel_rfl); (case h => (intro w1 h1; first | exact detR_row _ _ rfl _ rfl _ _ _ (q.below h1 q.lt) Try.underlying63 rfl (by first | kernel_rfl | (rw [stn_size]; kernel_rfl)) rfl | (have hc := (q.below h1 q.lt).cellIs ((show _[1]? = some _ from rfl)); go_simp; exact ⟨rfl, Below.refl _ _⟩)))
            simp only [Act.put, List.setIfInBounds_toArray, List.set_cons_zero, List.set_cons_succ]
            apply wpY_takeB 2; (case ho' => exact rfl); (case hg => exact rfl); (case hB => kernel_rfl); (case h => (intro w1; go_simp; exact ⟨rfl, Below.refl _ _⟩))
            simp only [Act.put, List.setIfInBounds_toArray, List.set_cons_zero, List.set_cons_succ]
            apply wpY_takeB 3; (case ho' => exact rfl); (case hg => exact rfl); (case hB => kernel_rfl); (case h => (intro w1; go_simp; exact ⟨rfl, Below.refl _ _⟩))
            simp only [Act.put, List.setIfInBounds_toArray, List.set_cons_zero, List.set_cons_succ]
            apply wpY_takeA 4; (case ho' => exact rfl); (case hg => exact rfl); (case hB => kernel_rfl); (case hW => kernel_rfl); (case h => (intro w1 h1; first | exact detR_row _ _ rfl _ rfl _ _ _ (p.below h1 p.lt) Try.underlying50 rfl (by first | kernel_rfl | (rw [ofn_size]; kernel_rfl)) rfl | (have hc := (p.below h1 p.lt).cellIs ((show _[1]? = some _ from rfl)); go_simp; exact ⟨rfl, Below.refl _ _⟩)))
            simp only [Act.put, List.setIfInBounds_toArray, List.set_cons_zero, List.set_cons_succ]
            apply wpY_takeA 5; (case ho' => exact rfl); (case hg => exact rfl); (case hB => kernel_rfl); (case hW => kernel_rfl); (case h => (intro w1 h1; go_simp; refine (AN.out _).mono ?_; rintro e w2 ⟨rfl, h2⟩; exact ⟨rfl, h2⟩))
            simp only [Act.put, List.setIfInBounds_toArray, List.set_cons_zero, List.set_cons_succ]
            apply wpY_takeB 6; (case ho' => exact rfl); (case hg => exact rfl); (case hB => kernel_rfl); (case h => (intro w1; go_simp; exact ⟨rfl, Below.refl _ _⟩))
            simp only [Act.put, List.setIfInBounds_toArray, List.set_cons_zero, List.set_cons_succ]
            apply wpY_takeB 7; (case ho' => exact rfl); (case hg => exact rfl); (case hB => kernel_rfl); (case h => (intro w1; go_simp; exact ⟨rfl, Below.refl _ _⟩))
            simp only [Act.put, List.setIfInBounds_toArray, List.set_cons_zero, List.set_cons_succ]
            refine wpY_end (by kernel_rfl) (fun we374 ht => ?_)
            replace hB := hB.trans (ht.mono hB.size)
            replace p := p.below ht p.lt
            replace q := q.below ht q.lt
            replace r := r.below ht r.lt
            clear ht
            have c0 : we374.cell? ⟨(w.heap.size + 1), 0, none⟩ = some (.int .u32 (g 0)) := q.cellIs (rfl)
            go_upto_region 6 with (first
              | (go_at_call 135; with_reducible refine (CL.out _).mono ?_; rintro e w2 ⟨rfl, hb⟩; replace hB := hB.trans (hb.mono hB.size); replace p := p.below hb p.lt; replace q := q.below hb q.lt; replace r := r.below hb r.lt; clear hb))
            clear c0
            refine wp_region_Y 15 17 rfl (by kernel_rfl) ?_
            replace p := p.drew
            replace q := q.drew
            replace r := r.drew
            replace hB : Below w.heap.size w w2.drew := hB.drew
            generalize w2.drew = w2d at *
            apply wpY_takeB 0; (case ho' => exact rfl); (case hg => exact rfl); (case hB => kernel_rfl); (case h => (intro w1; go_simp; exact ⟨rfl, Below.refl _ _⟩))
            simp only [Act.put, List.setIfInBounds_toArray, List.set_cons_zero, List.set_cons_succ]
            apply wpY_takeB 1; (case ho' => exact rfl); (case hg => exact rfl); (case hB => kernel_rfl); (case h => (intro w1; go_simp; exact ⟨rfl, Below.refl _ _⟩))
            simp only [Act.put, List.setIfInBounds_toArray, List.set_cons_zero, List.set_cons_succ]
            apply wpY_takeA 2; (case ho' => exact rfl); (case hg => exact rfl); (case hB => kernel_rfl); (case hW => kernel_rfl); (case h => (intro w1 h1; go_simp; refine (CA.out _).mono ?_; rintro e w2 ⟨rfl, h2⟩; exact ⟨rfl, h2⟩))
            simp only [Act.put, List.setIfInBounds_toArray, List.set_cons_zero, List.set_cons_succ]
            apply wpY_takeA 3; (case ho' => exact rfl); (case hg => exact rfl); (case hB => kernel_rfl); (case hW => kernel_rfl); (case h => (intro w1 h1; go_simp; refine (M1.out _).mono ?_; rintro e w2 ⟨rfl, h2⟩; exact ⟨rfl, h2⟩))
            simp only [Act.put, List.setIfInBounds_toArray, List.set_cons_zero, List.set_cons_succ]
            apply wpY_takeB 4; (case ho' => exact rfl); (case hg => exact rfl); (case hB => kernel_rfl); (case h => (intro w1; go_simp; exact ⟨rfl, Below.refl _ _⟩))
            simp only [Act.put, List.setIfInBounds_toArray, List.set_cons_zero, List.set_cons_succ]
            apply wpY_takeB 5; (case ho' => exact rfl); (case hg => exact rfl); (case hB => kernel_rfl); (case h => (intro w1; go_simp; exact ⟨rfl, Below.refl _ _⟩))
            simp only [Act.put, List.setIfInBounds_toArray, List.set_cons_zero, List.set_cons_succ]
            apply wpY_takeA 6; (case ho' => exact rfl); (case hg => exact rfl); (case hB => kernel_rfl); (case hW => kernel_rfl); (case h => (intro w1 h1; go_simp; refine (SA.out _).mono ?_; rintro e w2 ⟨rfl, h2⟩; exact ⟨rfl, h2⟩))
            simp only [Act.put, List.setIfInBounds_toArray, List.set_cons_zero, List.set_cons_succ]
            apply wpY_takeA 7; (case ho' => exact rfl); (case hg => exact rfl); (case hB => kernel_rfl); (case hW => kernel_rfl); (case h => (intro w1 h1; go_simp; refine (M2.out _).mono ?_; rintro e w2 ⟨rfl, h2⟩; exact ⟨rfl, h2⟩))
            simp only [Act.put, List.setIfInBounds_toArray, List.set_cons_zero, List.set_cons_succ]
            apply wpY_takeB 8; (case ho' => exact rfl); (case hg => exact rfl); (case hB => kernel_rfl); (case h => (intro w1; go_simp; exact ⟨rfl, Below.refl _ _⟩))
            simp only [Act.put, List.setIfInBounds_toArray, List.set_cons_zero, List.set_cons_succ]
            apply wpY_takeA 9; (case ho' => exact rfl); (case hg => exact rfl); (case hB => kernel_rfl); (case hW => kernel_rfl); (case h => (intro w1 h1; first | exact detR_row _ _ rfl _ rfl _ _ _ (q.below h1 q.lt) Try.underlying63 rfl (by first | kernel_rfl | (rw [stn_size]; kernel_rfl)) rfl | (have hc := (q.below h1 q.lt).cellIs ((show _[0]? = some _ from rfl)); go_simp; exact ⟨rfl, Below.refl _ _⟩)))
            simp only [Act.put, List.setIfInBounds_toArray, List.set_cons_zero, List.set_cons_succ]
            apply wpY_takeA 10; (case ho' => exact rfl); (case hg => exact rfl); (case hB => kernel_rfl); (case hW => kernel_rfl); (case h => (intro w1 h1; go_simp; refine (SL.out _).mono ?_; rintro e w2 ⟨rfl, h2⟩; exact ⟨rfl, h2⟩))
            simp only [Act.put, List.setIfInBounds_toArray, List.set_cons_zero, List.set_cons_succ]
            apply wpY_takeB 11; (case ho' => exact rfl); (case hg => exact rfl); (case hB => kernel_rfl); (case h => (intro w1; go_simp; exact ⟨rfl, Below.refl _ _⟩))
            simp only [Act.put, List.setIfInBounds_toArray, List.set_cons_zero, List.set_cons_succ]
            apply wpY_takeA 12; (case ho' => exact rfl); (case hg => exact rfl); (case hB => kernel_rfl); (case hW => kernel_rfl); (case h => (intro w1 h1; go_simp; refine (UN.out _).mono ?_; rintro e w2 ⟨rfl, h2⟩; exact ⟨rfl, h2⟩))
            simp only [Act.put, List.setIfInBounds_toArray, List.set_cons_zero, List.set_cons_succ]
            apply wpY_takeB 13; (case ho' => exact rfl); (case hg => exact rfl); (case hB => kernel_rfl); (case h => (intro w1; go_simp; exact ⟨rfl, Below.refl _ _⟩))
            simp only [Act.put, List.setIfInBounds_toArray, List.set_cons_zero, List.set_cons_succ]
            apply wpY_takeB 14; (case ho' => exact rfl); (case hg => exact rfl); (case hB => kernel_rfl); (case h => (intro w1; go_simp; exact ⟨rfl, Below.refl _ _⟩))
            simp only [Act.put, List.setIfInBounds_toArray, List.set_cons_zero, List.set_cons_succ]
            refine wpY_one rfl rfl (by kernel_rfl) (fun wt419 ht => ?_)
            replace hB := hB.trans (ht.mono hB.size)
            replace p := p.below ht p.lt
            replace q := q.below ht q.lt
            replace r := r.below ht r.lt
            clear ht
            refine oper_store_row _ _ _ rfl _ rfl _ rfl _ _ r (by first | kernel_rfl | (rw [vfn_size]; kernel_rfl)) (by first | rfl | simp only [vfn_size]) (by first | exact vfn_one _ | rfl) ?_
            replace p := p.rowOther (show w.heap.size ≠ w.heap.size + 2 by omega) (vfn Y)
            replace q := q.rowOther (show w.heap.size + 1 ≠ w.heap.size + 2 by omega) (vfn Y)
            replace r := r.row (vfn Y)
            replace hB := Below.setRow hB (show w.heap.size ≤ w.heap.size + 2 by omega) (vfn Y)
            generalize wt419.setRow (w.heap.size + 2) (vfn Y) = wt419s at *
            try simp only [Act.put, List.setIfInBounds_toArray, List.set_cons_zero, List.set_cons_succ]
            apply wpY_takeB 16; (case ho' => exact rfl); (case hg => exact rfl); (case hB => kernel_rfl); (case h => (intro w1; go_simp; exact ⟨rfl, Below.refl _ _⟩))
            simp only [Act.put, List.setIfInBounds_toArray, List.set_cons_zero, List.set_cons_succ]
            refine wpY_end (by kernel_rfl) (fun we434 ht => ?_)
            replace hB := hB.trans (ht.mono hB.size)
            replace p := p.below ht p.lt
            replace q := q.below ht q.lt
            replace r := r.below ht r.lt
            clear ht
            go_wp2_with (fail)
            refine bodyPost_ret (results_vec rfl _ _ _ _ _ _ _ rfl r Try.underlying31 rfl (by first | kernel_rfl | (rw [vfn_size]; kernel_rfl))) rfl ?_
            refine ⟨?_, hB⟩
            rw [← HF.out, ← HE.out]
            rfl
set_option maxRecDepth 100000 in
set_option maxHeartbeats 4000000 in
theorem inview_any (f g : Nat → Int) (t : Int) (w : World) (hf : OO f) (hg : SS g) : Calls Try.prog 27 #[.agg (ofn f), .agg (stn g), .int .i64 t] w fun e w' => e = .returned (.tuple #[.bool (viewB f g t), .int .i64 (statE f g t)]) ∧ Below w.heap.size w w' := by
  have PL := Lib.hid (fun w => place_any f t w hf)
  have SU := Lib.hid (fun w => station_any f g t w hf hg)
  have DT := Lib.hid (fun w => vdot_any (placeF f t) (statF f g t) w)
  obtain ⟨R, hR⟩ : ∃ F, viewB f g t = F := ⟨_, rfl⟩
  rw [hR]
  obtain ⟨RE, hRE⟩ : ∃ F, statE f g t = F := ⟨_, rfl⟩
  rw [hRE] at SU ⊢
  unfold viewB at hR
  unfold statE at hRE
  generalize placeF f t = X at *
  generalize statF f g t = Y at *
  generalize vdotV X Y = c at *
  generalize vdotE X Y = cE at *
  clear hf hg
  cases hb : okO f && okT t
  case false =>
    rw [place_not hb] at PL
    rw [hb] at hR hRE
    have HR := Lib.hid hR
    have e2 : RE = 2 := hRE.symm
    subst e2
    clear hR hb DT hRE
    go_enter Try.func27, Try.ntmps27
    go_upto_region 1 with (fail)
    have p : blk ((w.alloc (.cells (ofn f) 50)).alloc (.cells (stn g) 63)) w.heap.size (ofn f) 50 := (blk.new _ _ _).alloc _
    have q : blk ((w.alloc (.cells (ofn f) 50)).alloc (.cells (stn g) 63)) (w.heap.size + 1) (stn g) 63 := blk.new' (by simp)
    have hB : Below w.heap.size w ((w.alloc (.cells (ofn f) 50)).alloc (.cells (stn g) 63)) := by go_grown
    generalize ((w.alloc (.cells (ofn f) 50)).alloc (.cells (stn g) 63)) = w0 at *
    go_upto_region 2 with (first
      | (refine wpList_load_rowG ?hw _ _ rfl _ rfl _ _ _ _ p Try.underlying50 rfl ?hi ?_; (case hw => (first | rfl | (simp [Region.wanted, yielded]; done))); (case hi => (first | kernel_rfl | (rw [ofn_size]; kernel_rfl))))
      | (refine wpList_load_rowG ?hw _ _ rfl _ rfl _ _ _ _ q Try.underlying63 rfl ?hi ?_; (case hw => (first | rfl | (simp [Region.wanted, yielded]; done))); (case hi => (first | kernel_rfl | (rw [stn_size]; kernel_rfl))))
      | (go_at_call 75; with_reducible refine (PL.out _).mono ?_; rintro e w1 ⟨rfl, hb⟩; replace hB := hB.trans (hb.mono hB.size); replace p := p.below hb p.lt; replace q := q.below hb q.lt; clear hb)
      | (rw [zero_vec]; refine wpList_store_row rfl _ _ _ rfl _ rfl _ rfl _ _ (blk.new _ _ _) (by first | kernel_rfl | (rw [vfn_size]; kernel_rfl)) (by first | rfl | simp only [vfn_size]) (by first | exact vfn_one _ | rfl) ?_))
    have a := (blk.new w1 (vfn fun _ => 0) 31).row (vfn X)
    replace hB := Below.setRow (hB.alloc hB.size (.cells (vfn fun _ => 0) 31)) (g := w1.heap.size) hB.size (vfn X)
    have hne : ∀ x, x < w1.heap.size → x ≠ w1.heap.size := fun x hx => Nat.ne_of_lt hx
    replace p := (p.alloc (.cells (vfn fun _ => 0) 31)).rowOther (hne _ p.lt) (vfn X)
    replace q := (q.alloc (.cells (vfn fun _ => 0) 31)).rowOther (hne _ q.lt) (vfn X)
    clear hne
    generalize (w1.alloc (.cells (vfn fun _ => 0) 31)).setRow w1.heap.size (vfn X) = w1x at *
    generalize w1.heap.size = a_b at *
    go_upto_region 3 with (first
      | (refine wpList_load_rowG ?hw _ _ rfl _ rfl _ _ _ _ p Try.underlying50 rfl ?hi ?_; (case hw => (first | rfl | (simp [Region.wanted, yielded]; done))); (case hi => (first | kernel_rfl | (rw [ofn_size]; kernel_rfl))))
      | (refine wpList_load_rowG ?hw _ _ rfl _ rfl _ _ _ _ q Try.underlying63 rfl ?hi ?_; (case hw => (first | rfl | (simp [Region.wanted, yielded]; done))); (case hi => (first | kernel_rfl | (rw [stn_size]; kernel_rfl))))
      | (refine wpList_load_rowG ?hw _ _ rfl _ rfl _ _ _ _ a Try.underlying31 rfl ?hi ?_; (case hw => (first | rfl | (simp [Region.wanted, yielded]; done))); (case hi => (first | kernel_rfl | (rw [vfn_size]; kernel_rfl))))
      | (go_at_call 76; with_reducible refine (SU.out _).mono ?_; rintro e w2 ⟨rfl, hb⟩; replace hB := hB.trans (hb.mono hB.size); replace p := p.below hb p.lt; replace q := q.below hb q.lt; replace a := a.below hb a.lt; clear hb)
      | (rw [zero_vec]; refine wpList_store_row rfl _ _ _ rfl _ rfl _ rfl _ _ (blk.new _ _ _) (by first | kernel_rfl | (rw [vfn_size]; kernel_rfl)) (by first | rfl | simp only [vfn_size]) (by first | exact vfn_one _ | rfl) ?_))
    have b := (blk.new w2 (vfn fun _ => 0) 31).row (vfn Y)
    replace hB := Below.setRow (hB.alloc hB.size (.cells (vfn fun _ => 0) 31)) (g := w2.heap.size) hB.size (vfn Y)
    have hne : ∀ x, x < w2.heap.size → x ≠ w2.heap.size := fun x hx => Nat.ne_of_lt hx
    replace p := (p.alloc (.cells (vfn fun _ => 0) 31)).rowOther (hne _ p.lt) (vfn Y)
    replace q := (q.alloc (.cells (vfn fun _ => 0) 31)).rowOther (hne _ q.lt) (vfn Y)
    replace a := (a.alloc (.cells (vfn fun _ => 0) 31)).rowOther (hne _ a.lt) (vfn Y)
    clear hne
    generalize (w2.alloc (.cells (vfn fun _ => 0) 31)).setRow w2.heap.size (vfn Y) = w2x at *
    generalize w2.heap.size = b_b at *
    go_wp2_with (fail)
    go_ret2
    exact ⟨by rw [← HR.out]; rfl, hB⟩
  case true =>
    rw [place_yes hb] at PL
    rw [hb] at hR hRE
    clear hb
    cases hs : okS g
    case false =>
      rw [hs] at hR hRE
      have HR := Lib.hid hR
      have e2 : RE = 2 := hRE.symm
      subst e2
      clear hR DT hRE
      go_enter Try.func27, Try.ntmps27
      go_upto_region 1 with (fail)
      have p : blk ((w.alloc (.cells (ofn f) 50)).alloc (.cells (stn g) 63)) w.heap.size (ofn f) 50 := (blk.new _ _ _).alloc _
      have q : blk ((w.alloc (.cells (ofn f) 50)).alloc (.cells (stn g) 63)) (w.heap.size + 1) (stn g) 63 := blk.new' (by simp)
      have hB : Below w.heap.size w ((w.alloc (.cells (ofn f) 50)).alloc (.cells (stn g) 63)) := by go_grown
      generalize ((w.alloc (.cells (ofn f) 50)).alloc (.cells (stn g) 63)) = w0 at *
      go_upto_region 2 with (first
        | (refine wpList_load_rowG ?hw _ _ rfl _ rfl _ _ _ _ p Try.underlying50 rfl ?hi ?_; (case hw => (first | rfl | (simp [Region.wanted, yielded]; done))); (case hi => (first | kernel_rfl | (rw [ofn_size]; kernel_rfl))))
        | (refine wpList_load_rowG ?hw _ _ rfl _ rfl _ _ _ _ q Try.underlying63 rfl ?hi ?_; (case hw => (first | rfl | (simp [Region.wanted, yielded]; done))); (case hi => (first | kernel_rfl | (rw [stn_size]; kernel_rfl))))
        | (go_at_call 75; with_reducible refine (PL.out _).mono ?_; rintro e w1 ⟨rfl, hb⟩; replace hB := hB.trans (hb.mono hB.size); replace p := p.below hb p.lt; replace q := q.below hb q.lt; clear hb)
        | (rw [zero_vec]; refine wpList_store_row rfl _ _ _ rfl _ rfl _ rfl _ _ (blk.new _ _ _) (by first | kernel_rfl | (rw [vfn_size]; kernel_rfl)) (by first | rfl | simp only [vfn_size]) (by first | exact vfn_one _ | rfl) ?_))
      have a := (blk.new w1 (vfn fun _ => 0) 31).row (vfn X)
      replace hB := Below.setRow (hB.alloc hB.size (.cells (vfn fun _ => 0) 31)) (g := w1.heap.size) hB.size (vfn X)
      have hne : ∀ x, x < w1.heap.size → x ≠ w1.heap.size := fun x hx => Nat.ne_of_lt hx
      replace p := (p.alloc (.cells (vfn fun _ => 0) 31)).rowOther (hne _ p.lt) (vfn X)
      replace q := (q.alloc (.cells (vfn fun _ => 0) 31)).rowOther (hne _ q.lt) (vfn X)
      clear hne
      generalize (w1.alloc (.cells (vfn fun _ => 0) 31)).setRow w1.heap.size (vfn X) = w1x at *
      generalize w1.heap.size = a_b at *
      go_upto_region 3 with (first
        | (refine wpList_load_rowG ?hw _ _ rfl _ rfl _ _ _ _ p Try.underlying50 rfl ?hi ?_; (case hw => (first | rfl | (simp [Region.wanted, yielded]; done))); (case hi => (first | kernel_rfl | (rw [ofn_size]; kernel_rfl))))
        | (refine wpList_load_rowG ?hw _ _ rfl _ rfl _ _ _ _ q Try.underlying63 rfl ?hi ?_; (case hw => (first | rfl | (simp [Region.wanted, yielded]; done))); (case hi => (first | kernel_rfl | (rw [stn_size]; kernel_rfl))))
        | (refine wpList_load_rowG ?hw _ _ rfl _ rfl _ _ _ _ a Try.underlying31 rfl ?hi ?_; (case hw => (first | rfl | (simp [Region.wanted, yielded]; done))); (case hi => (first | kernel_rfl | (rw [vfn_size]; kernel_rfl))))
        | (go_at_call 76; with_reducible refine (SU.out _).mono ?_; rintro e w2 ⟨rfl, hb⟩; replace hB := hB.trans (hb.mono hB.size); replace p := p.below hb p.lt; replace q := q.below hb q.lt; replace a := a.below hb a.lt; clear hb)
        | (rw [zero_vec]; refine wpList_store_row rfl _ _ _ rfl _ rfl _ rfl _ _ (blk.new _ _ _) (by first | kernel_rfl | (rw [vfn_size]; kernel_rfl)) (by first | rfl | simp only [vfn_size]) (by first | exact vfn_one _ | rfl) ?_))
      have b := (blk.new w2 (vfn fun _ => 0) 31).row (vfn Y)
      replace hB := Below.setRow (hB.alloc hB.size (.cells (vfn fun _ => 0) 31)) (g := w2.heap.size) hB.size (vfn Y)
      have hne : ∀ x, x < w2.heap.size → x ≠ w2.heap.size := fun x hx => Nat.ne_of_lt hx
      replace p := (p.alloc (.cells (vfn fun _ => 0) 31)).rowOther (hne _ p.lt) (vfn Y)
      replace q := (q.alloc (.cells (vfn fun _ => 0) 31)).rowOther (hne _ q.lt) (vfn Y)
      replace a := (a.alloc (.cells (vfn fun _ => 0) 31)).rowOther (hne _ a.lt) (vfn Y)
      clear hne
      generalize (w2.alloc (.cells (vfn fun _ => 0) 31)).setRow w2.heap.size (vfn Y) = w2x at *
      generalize w2.heap.size = b_b at *
      go_wp2_with (fail)
      go_ret2
      exact ⟨by rw [← HR.out]; rfl, hB⟩
    case true =>
      rw [hs] at hR hRE
      have HR := Lib.hid hR
      have e2 : RE = 0 := hRE.symm
      subst e2
      clear hR hRE
      go_enter Try.func27, Try.ntmps27
      go_upto_region 1 with (fail)
      have p : blk ((w.alloc (.cells (ofn f) 50)).alloc (.cells (stn g) 63)) w.heap.size (ofn f) 50 := (blk.new _ _ _).alloc _
      have q : blk ((w.alloc (.cells (ofn f) 50)).alloc (.cells (stn g) 63)) (w.heap.size + 1) (stn g) 63 := blk.new' (by simp)
      have hB : Below w.heap.size w ((w.alloc (.cells (ofn f) 50)).alloc (.cells (stn g) 63)) := by go_grown
      generalize ((w.alloc (.cells (ofn f) 50)).alloc (.cells (stn g) 63)) = w0 at *
      go_upto_region 2 with (first
        | (refine wpList_load_rowG ?hw _ _ rfl _ rfl _ _ _ _ p Try.underlying50 rfl ?hi ?_; (case hw => (first | rfl | (simp [Region.wanted, yielded]; done))); (case hi => (first | kernel_rfl | (rw [ofn_size]; kernel_rfl))))
        | (refine wpList_load_rowG ?hw _ _ rfl _ rfl _ _ _ _ q Try.underlying63 rfl ?hi ?_; (case hw => (first | rfl | (simp [Region.wanted, yielded]; done))); (case hi => (first | kernel_rfl | (rw [stn_size]; kernel_rfl))))
        | (go_at_call 75; with_reducible refine (PL.out _).mono ?_; rintro e w1 ⟨rfl, hb⟩; replace hB := hB.trans (hb.mono hB.size); replace p := p.below hb p.lt; replace q := q.below hb q.lt; clear hb)
        | (rw [zero_vec]; refine wpList_store_row rfl _ _ _ rfl _ rfl _ rfl _ _ (blk.new _ _ _) (by first | kernel_rfl | (rw [vfn_size]; kernel_rfl)) (by first | rfl | simp only [vfn_size]) (by first | exact vfn_one _ | rfl) ?_))
      have a := (blk.new w1 (vfn fun _ => 0) 31).row (vfn X)
      replace hB := Below.setRow (hB.alloc hB.size (.cells (vfn fun _ => 0) 31)) (g := w1.heap.size) hB.size (vfn X)
      have hne : ∀ x, x < w1.heap.size → x ≠ w1.heap.size := fun x hx => Nat.ne_of_lt hx
      replace p := (p.alloc (.cells (vfn fun _ => 0) 31)).rowOther (hne _ p.lt) (vfn X)
      replace q := (q.alloc (.cells (vfn fun _ => 0) 31)).rowOther (hne _ q.lt) (vfn X)
      clear hne
      generalize (w1.alloc (.cells (vfn fun _ => 0) 31)).setRow w1.heap.size (vfn X) = w1x at *
      generalize w1.heap.size = a_b at *
      go_upto_region 3 with (first
        | (refine wpList_load_rowG ?hw _ _ rfl _ rfl _ _ _ _ p Try.underlying50 rfl ?hi ?_; (case hw => (first | rfl | (simp [Region.wanted, yielded]; done))); (case hi => (first | kernel_rfl | (rw [ofn_size]; kernel_rfl))))
        | (refine wpList_load_rowG ?hw _ _ rfl _ rfl _ _ _ _ q Try.underlying63 rfl ?hi ?_; (case hw => (first | rfl | (simp [Region.wanted, yielded]; done))); (case hi => (first | kernel_rfl | (rw [stn_size]; kernel_rfl))))
        | (refine wpList_load_rowG ?hw _ _ rfl _ rfl _ _ _ _ a Try.underlying31 rfl ?hi ?_; (case hw => (first | rfl | (simp [Region.wanted, yielded]; done))); (case hi => (first | kernel_rfl | (rw [vfn_size]; kernel_rfl))))
        | (go_at_call 76; with_reducible refine (SU.out _).mono ?_; rintro e w2 ⟨rfl, hb⟩; replace hB := hB.trans (hb.mono hB.size); replace p := p.below hb p.lt; replace q := q.below hb q.lt; replace a := a.below hb a.lt; clear hb)
        | (rw [zero_vec]; refine wpList_store_row rfl _ _ _ rfl _ rfl _ rfl _ _ (blk.new _ _ _) (by first | kernel_rfl | (rw [vfn_size]; kernel_rfl)) (by first | rfl | simp only [vfn_size]) (by first | exact vfn_one _ | rfl) ?_))
      have b := (blk.new w2 (vfn fun _ => 0) 31).row (vfn Y)
      replace hB := Below.setRow (hB.alloc hB.size (.cells (vfn fun _ => 0) 31)) (g := w2.heap.size) hB.size (vfn Y)
      have hne : ∀ x, x < w2.heap.size → x ≠ w2.heap.size := fun x hx => Nat.ne_of_lt hx
      replace p := (p.alloc (.cells (vfn fun _ => 0) 31)).rowOther (hne _ p.lt) (vfn Y)
      replace q := (q.alloc (.cells (vfn fun _ => 0) 31)).rowOther (hne _ q.lt) (vfn Y)
      replace a := (a.alloc (.cells (vfn fun _ => 0) 31)).rowOther (hne _ a.lt) (vfn Y)
      clear hne
      generalize (w2.alloc (.cells (vfn fun _ => 0) 31)).setRow w2.heap.size (vfn Y) = w2x at *
      generalize w2.heap.size = b_b at *
      go_upto_region 6 with (first
        | (refine wpList_load_rowG ?hw _ _ rfl _ rfl _ _ _ _ p Try.underlying50 rfl ?hi ?_; (case hw => (first | rfl | (simp [Region.wanted, yielded]; done))); (case hi => (first | kernel_rfl | (rw [ofn_size]; kernel_rfl))))
        | (refine wpList_load_rowG ?hw _ _ rfl _ rfl _ _ _ _ q Try.underlying63 rfl ?hi ?_; (case hw => (first | rfl | (simp [Region.wanted, yielded]; done))); (case hi => (first | kernel_rfl | (rw [stn_size]; kernel_rfl))))
        | (refine wpList_load_rowG ?hw _ _ rfl _ rfl _ _ _ _ a Try.underlying31 rfl ?hi ?_; (case hw => (first | rfl | (simp [Region.wanted, yielded]; done))); (case hi => (first | kernel_rfl | (rw [vfn_size]; kernel_rfl))))
        | (refine wpList_load_rowG ?hw _ _ rfl _ rfl _ _ _ _ b Try.underlying31 rfl ?hi ?_; (case hw => (first | rfl | (simp [Region.wanted, yielded]; done))); (case hi => (first | kernel_rfl | (rw [vfn_size]; kernel_rfl))))
        | (go_at_call 77; with_reducible refine (DT.out _).mono ?_; rintro e w3 ⟨rfl, hb⟩; replace hB := hB.trans (hb.mono hB.size); replace p := p.below hb p.lt; replace q := q.below hb q.lt; replace a := a.below hb a.lt; replace b := b.below hb b.lt; clear hb))
      have c2 : w3.cell? ⟨(w.heap.size + 1), 2, none⟩ = some (.int .i64 (g 2)) := q.cellIs (rfl)
      go_wp2_with (fail)
      go_ret2
      exact ⟨by rw [← HR.out]; rfl, hB⟩
end Go.Proofs.Ytkmelddejdikgaa
