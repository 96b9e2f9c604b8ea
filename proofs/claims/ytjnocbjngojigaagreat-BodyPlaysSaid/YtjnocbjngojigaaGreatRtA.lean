/-
  The wheels of the specification: friction, Sum, Step. The bodies of the specification: Fail, Momentum, Rate. The bodies of the specification: Tick.
-/
import Derived.Test.YtjnocbjngojigaaGreatBdH
import Derived.Test.YtjnocbjngojigaaGreatWhB
import Derived.Test.YtjnocbjngojigaaGreatBdC
import Derived.Test.YtjnocbjngojigaaGreatLawQT
set_option linter.unusedSimpArgs false
set_option linter.unusedVariables false
namespace Go.Proofs.YtjnocbjngojigaaGreat
open Go.RowKit PM Dt
theorem frW_neg2 (h : Int) : frW (-h) = -frW h := by have := frW_neg h; omega
theorem preT (F G : Nat → Int) (f : Int) : rsc (preH F G 4, f) = rsc (F, f) := rfl
set_option maxRecDepth 100000 in
set_option maxHeartbeats 2000000 in
theorem rfr_pos (h : Int) (w : World) (h0 : 0 ≤ h) (h1 : h ≤ 16777216) : Calls Tryz.prog 117 #[.int .i64 h] w fun e w' => e = .returned (.int .i64 (frW h)) ∧ Below w.heap.size w w' := by
  have hB : Below w.heap.size w w := Below.refl _ _
  have hf := frW_bd (h := h) (by omega)
  unfold frW at hf ⊢
  have e1 : IntKind.i64.wrap (h.tdiv 1024) = h.tdiv 1024 := by rw [IntKind.wrap_i64]; omega
  have d1 : decide (h < 0) = false := decide_eq_false (by omega)
  clear hf h0 h1
  go_enter Tryz.func117, Tryz.ntmps117
  go_wp2_with (fail)
  go_ret
  exact ⟨rfl, hB⟩
set_option maxRecDepth 100000 in
set_option maxHeartbeats 2000000 in
theorem rfr_any (h : Int) (w : World) (hh : -16777216 ≤ h ∧ h ≤ 16777216) : Calls Tryz.prog 117 #[.int .i64 h] w fun e w' => e = .returned (.int .i64 (frW h)) ∧ Below w.heap.size w w' := by
  by_cases h0 : 0 ≤ h
  · exact rfr_pos h w h0 hh.2
  have hB : Below w.heap.size w w := Below.refl _ _
  have hf := frW_bd hh
  have FR := Lib.hid (fun w => rfr_pos (-h) w (by omega) (by omega))
  have e0 : IntKind.i64.wrap (-h) = -h := by rw [IntKind.wrap_i64]; omega
  have e1 : IntKind.i64.wrap (-frW (-h)) = frW h := by rw [frW_neg2, IntKind.wrap_i64]; omega
  have d1 : decide (h < 0) = true := decide_eq_true (by omega)
  clear hf h0 hh
  go_enter Tryz.func117, Tryz.ntmps117
  go_wp2_with (first
    | (go_at_call 117; with_reducible refine (FR.out _).mono ?_; rintro e w1 ⟨rfl, hb⟩; replace hB := hB.trans (hb.mono hB.size); clear hb))
  go_ret
  exact ⟨rfl, hB⟩
set_option maxRecDepth 100000 in
set_option maxHeartbeats 2000000 in
theorem rsum_any (h : Nat → Int) (w : World) (hb : ∀ i, i < 4 → -16777216 ≤ h i ∧ h i ≤ 16777216) : Calls Tryz.prog 72 #[.agg (qfn h)] w fun e w' => e = .returned (.agg (vfn (sumW h))) ∧ Below w.heap.size w w' := by
  have e0 : IntKind.i64.wrap (h 0 + h 3) = sumW h 0 := by have := hb 0 (by omega); have := hb 3 (by omega); rw [IntKind.wrap_i64]; unfold sumW; omega
  have e1 : IntKind.i64.wrap (h 1 + h 3) = sumW h 1 := by have := hb 1 (by omega); have := hb 3 (by omega); rw [IntKind.wrap_i64]; unfold sumW; omega
  have e2 : IntKind.i64.wrap (h 2 + h 3) = sumW h 2 := by have := hb 2 (by omega); have := hb 3 (by omega); rw [IntKind.wrap_i64]; unfold sumW; omega
  clear hb
  go_enter Tryz.func72, Tryz.ntmps72
  go_upto_region 1 with (fail)
  simp only [zero_vec]
  have x : blk ((w.alloc (.cells (qfn h) 28)).alloc (.cells (vfn fun _ => 0) 27)) w.heap.size (qfn h) 28 := (blk.new _ _ _).alloc _
  have r : blk ((w.alloc (.cells (qfn h) 28)).alloc (.cells (vfn fun _ => 0) 27)) (w.heap.size + 1) (vfn fun _ => 0) 27 := blk.new' (by simp)
  have hB : Below w.heap.size w ((w.alloc (.cells (qfn h) 28)).alloc (.cells (vfn fun _ => 0) 27)) := by go_grown
  generalize ((w.alloc (.cells (qfn h) 28)).alloc (.cells (vfn fun _ => 0) 27)) = w0 at *
  have lt_x := x.lt
  have lt_r := r.lt
  have hW0 : w.heap.size ≤ w0.heap.size := by simpa using hB.size
  apply wp_region_Q 17 [0, 1, 3, 7, 15, 31, 63, 127, 255, 511, 1023, 2047, 4095, 8191, 16383, 32767, 65535] [] [_, _, _, _, _, _, _, _, _, _, _, _, _, _, _, _, (fun _ => undef)] (fun p L w' => w0.heap.size ≤ w'.heap.size ∧ Below w.heap.size w w' ∧ blk w' w.heap.size (qfn h) 28 ∧ blk w' (w.heap.size + 1) (bif L 16 then (vfn (sumW h)) else (vfn fun _ => 0)) 27) _ [(0, 3), (1, 4), (2, 5), (3, 6), (4, 7), (5, 8), (6, 9), (7, 10), (8, 11), (9, 12), (10, 13), (11, 14), (12, 15), (13, 16), (14, 17), (15, 18)] [0, 1, 2, 3, 4, 5, 6, 7, 8, 9, 10, 11, 12, 13, 14, 15, 16]
  case hn => rfl
  case hB => kernel_rfl
  case hds => kernel_rfl
  case hA => (intro p; simp only [putsD, Act.put, sIT, sCZ, sCS, List.getD_cons_zero, List.getD_cons_succ]; exact rfl)
  case h0 => exact fun p => ⟨Nat.le_refl _, hB, x, r⟩
  case hmore => exact fun p L w1 w2 ⟨hsz, hB, x, r⟩ hm => ⟨Nat.le_trans hsz hm.size, hB.trans (hm.mono (Nat.le_trans hW0 hsz)), x.below hm x.lt, r.below hm r.lt⟩
  case hs =>
    intro more
    refine stepV _ rfl rfl (fun _ _ _ h => h) (by intros; go_simp; exact ⟨rfl, rfl⟩) ?_
    refine stepV 1 rfl rfl (fun _ _ _ h => h) ?_ ?_
    · rintro p L w1 ⟨hsz, hB, x, r⟩ hk
      have L16 : L 16 = false := hk.2.2 16 rfl
      have hc : w1.cell? ⟨w.heap.size, 0, none⟩ = some (.int .i64 (h 0)) := x.cellIs (qfn_get _ (by omega))
      go_simp
      exact ⟨rfl, rfl⟩
    refine stepV _ rfl rfl (fun _ _ _ h => h) (by intros; go_simp; exact ⟨rfl, rfl⟩) ?_
    refine stepV 3 rfl rfl (fun _ _ _ h => h) ?_ ?_
    · rintro p L w1 ⟨hsz, hB, x, r⟩ hk
      have L16 : L 16 = false := hk.2.2 16 rfl
      have hc : w1.cell? ⟨w.heap.size, 3, none⟩ = some (.int .i64 (h 3)) := x.cellIs (qfn_get _ (by omega))
      go_simp
      exact ⟨rfl, rfl⟩
    iterate 2 (refine stepV _ rfl rfl (fun _ _ _ h => h) (by intros; go_simp; exact ⟨rfl, rfl⟩) ?_)
    refine stepV 6 rfl rfl (fun _ _ _ h => h) ?_ ?_
    · rintro p L w1 ⟨hsz, hB, x, r⟩ hk
      have L16 : L 16 = false := hk.2.2 16 rfl
      have hc : w1.cell? ⟨w.heap.size, 1, none⟩ = some (.int .i64 (h 1)) := x.cellIs (qfn_get _ (by omega))
      go_simp
      exact ⟨rfl, rfl⟩
    refine stepV _ rfl rfl (fun _ _ _ h => h) (by intros; go_simp; exact ⟨rfl, rfl⟩) ?_
    refine stepV 8 rfl rfl (fun _ _ _ h => h) ?_ ?_
    · rintro p L w1 ⟨hsz, hB, x, r⟩ hk
      have L16 : L 16 = false := hk.2.2 16 rfl
      have hc : w1.cell? ⟨w.heap.size, 3, none⟩ = some (.int .i64 (h 3)) := x.cellIs (qfn_get _ (by omega))
      go_simp
      exact ⟨rfl, rfl⟩
    iterate 2 (refine stepV _ rfl rfl (fun _ _ _ h => h) (by intros; go_simp; exact ⟨rfl, rfl⟩) ?_)
    refine stepV 11 rfl rfl (fun _ _ _ h => h) ?_ ?_
    · rintro p L w1 ⟨hsz, hB, x, r⟩ hk
      have L16 : L 16 = false := hk.2.2 16 rfl
      have hc : w1.cell? ⟨w.heap.size, 2, none⟩ = some (.int .i64 (h 2)) := x.cellIs (qfn_get _ (by omega))
      go_simp
      exact ⟨rfl, rfl⟩
    refine stepV _ rfl rfl (fun _ _ _ h => h) (by intros; go_simp; exact ⟨rfl, rfl⟩) ?_
    refine stepV 13 rfl rfl (fun _ _ _ h => h) ?_ ?_
    · rintro p L w1 ⟨hsz, hB, x, r⟩ hk
      have L16 : L 16 = false := hk.2.2 16 rfl
      have hc : w1.cell? ⟨w.heap.size, 3, none⟩ = some (.int .i64 (h 3)) := x.cellIs (qfn_get _ (by omega))
      go_simp
      exact ⟨rfl, rfl⟩
    refine stepV _ rfl rfl (fun _ _ _ h => h) (by intros; go_simp; exact ⟨rfl, rfl⟩) ?_
    refine stepV 15 rfl rfl (fun _ _ _ h => h) ?_ ?_
    · intros; (try simp only [vfn, qfn]); go_simp; exact ⟨rfl, rfl⟩
    refine AllI.cons ?_ ?_
    · refine stepI_store 16 rfl (fun p => rfl) (fun p => rfl) _ _ _ rfl (fun _ => (w.heap.size + 1)) 0 (fun p => rfl) (fun p => (vfn (sumW h))) (fun p => (congrArg Value.agg (vfn_of (sumW h)))) (fun p => (vfn fun _ => 0)) (fun p => (vfn (sumW h))) 27 (fun p => over_v _ _) (fun p => by first | (rw [vfn_size, vfn_size]; decide) | simp [vfn_size, vfn_size]) (fun p => by rw [vfn_size]; kernel_rfl) (fun p => vfn_one _) ?_ ?_
      · rintro p L w1 ⟨hsz, hB, x, r⟩ hk
        have L16 : L 16 = false := hk.1
        rw [L16] at r
        try simp only [cond_true, cond_false] at r
        exact r
      · rintro p L w1 ⟨hsz, hB, x, r⟩ hk
        have L16 : L 16 = false := hk.1
        skip
        refine ⟨(by simpa using hsz), Below.setRow hB (by first | exact Nat.le_trans hW0 hp.1 | exact ge_r | omega | (have := hB.size; simp at this ⊢; omega)) _, x.rowOther (by first | exact ne_x_r | exact Ne.symm ne_r_x | omega) _, ?_⟩
        rw [show upL L 16 16 = true from rfl]
        exact r.row _
    exact AllI.nil
  case hV0 => exact fun p q => AllI.nil
  case he =>
  clear hB x r
  rintro p w0r ⟨hsz, hB, x, r⟩
  replace r : blk w0r (w.heap.size + 1) (vfn (sumW h)) 27 := r
  clear lt_x lt_r hsz hW0
  go_wp2_with (fail)
  refine bodyPost_ret (results_cell_row rfl _ _ _ _ _ _ _ rfl r Tryz.underlying27 rfl (by first | kernel_rfl | (rw [vfn_size]; kernel_rfl))) rfl ?_
  refine ⟨?_, hB⟩
  rfl
set_option maxRecDepth 100000 in
set_option maxHeartbeats 6000000 in
theorem rwstep_any (h : Nat → Int) (f : Int) (c : Nat → Int) (w : World) (hb : ∀ i, i < 4 → -16777216 ≤ h i ∧ h i ≤ 16777216) : Calls Tryz.prog 58 #[.agg (rsc (h, f)), .agg (qfn c)] w fun e w' => e = .returned (.agg (rsc (stpF h f c, f))) ∧ Below w.heap.size w w' := by
  have HI := Lib.hid hb
  clear hb
  go_enter Tryz.func58, Tryz.ntmps58
  go_upto_region 1 with (fail)
  simp only [rsc_zero]
  have g : blk (((w.alloc (.cells (rsc (h, f)) 50)).alloc (.cells (qfn c) 28)).alloc (.cells (rsc (fun _ => 0, 0)) 50)) w.heap.size (rsc (h, f)) 50 := ((blk.new _ _ _).alloc _).alloc _
  have v : blk (((w.alloc (.cells (rsc (h, f)) 50)).alloc (.cells (qfn c) 28)).alloc (.cells (rsc (fun _ => 0, 0)) 50)) (w.heap.size + 1) (qfn c) 28 := (blk.new' (by simp)).alloc _
  have r : blk (((w.alloc (.cells (rsc (h, f)) 50)).alloc (.cells (qfn c) 28)).alloc (.cells (rsc (fun _ => 0, 0)) 50)) (w.heap.size + 2) (rsc (fun _ => 0, 0)) 50 := blk.new' (by simp)
  have hB : Below w.heap.size w (((w.alloc (.cells (rsc (h, f)) 50)).alloc (.cells (qfn c) 28)).alloc (.cells (rsc (fun _ => 0, 0)) 50)) := by go_grown
  generalize (((w.alloc (.cells (rsc (h, f)) 50)).alloc (.cells (qfn c) 28)).alloc (.cells (rsc (fun _ => 0, 0)) 50)) = w0 at *
  rw [show rsc (h, f) = rsc (preH (stpF h f c) h 0, f) from by rw [preH_zero]] at g
  go_wp2_with (fail)
  go_loopg [5] 4 (fun g_ iv wr => ∃ k : Nat, g_ + k = 4 ∧ iv = .int .i64 k ∧ blk wr w.heap.size (rsc (preH (stpF h f c) h k, f)) 50 ∧ blk wr (w.heap.size + 1) (qfn c) 28 ∧ blk wr (w.heap.size + 2) (rsc (fun _ => 0, 0)) 50 ∧ Below w.heap.size w wr)
  case atStart => exact ⟨0, rfl, rfl, g, v, r, hB⟩
  case round =>
    clear g v r hB
    obtain ⟨k, hk, rfl, g, v, r, hB⟩ := hrel
    by_cases hkn : k < 4
    · have hdk : decide ((k : Int) < 4) = true := decide_eq_true (by omega)
      have hdk' : decide (k < 4) = true := decide_eq_true (by omega)
      have hk3 : (k : Int) < 4 := by omega
      have hw3 : IntKind.i64.wrap ((k : Int) + 1) = ((k + 1 : Nat) : Int) := by rw [IntKind.wrap_i64]; omega
      have H := HI.out k hkn
      have hc4 : wr.cell? ⟨w.heap.size, 4, none⟩ = some (.int .i64 f) := g.cellIs rfl
      by_cases hf : (k : Int) = f
      · have d6 : decide ((k : Int) = f) = true := decide_eq_true hf
        have d7 : ((k : Int) == f) = true := by simp [hf]
        have ev : stpF h f c k = h k := by unfold stpF; rw [if_pos hf]
        clear H hf
        go_wp2_with (fail)
        go_roundg (4 - (k + 1))
        case rel =>
          exact ⟨k + 1, by omega, rfl, by rw [preH_same ev]; exact g, v, r, hB⟩
        case measure => omega
      · have d6 : decide ((k : Int) = f) = false := decide_eq_false hf
        have d7 : ((k : Int) == f) = false := by simp [hf]
        have H1 := clampT_bd (c k)
        have H2 := frW_bd H
        have CL := Lib.hid (fun w => rclamp_any (c k) (-1048576) 1048576 w)
        have FR := Lib.hid (fun w => rfr_any (h k) w H)
        have CM := Lib.hid (fun w => rclamp_any (h k - frW (h k) + clampV (c k) (-1048576) 1048576) (-16777216) 16777216 w)
        have e1 : IntKind.i64.wrap (h k - frW (h k)) = h k - frW (h k) := by rw [IntKind.wrap_i64]; omega
        have e2 : IntKind.i64.wrap (h k - frW (h k) + clampV (c k) (-1048576) 1048576) = h k - frW (h k) + clampV (c k) (-1048576) 1048576 := by rw [IntKind.wrap_i64]; omega
        have ev : clampV (h k - frW (h k) + clampV (c k) (-1048576) 1048576) (-16777216) 16777216 = stpF h f c k := by unfold stpF stpX; rw [if_neg hf]
        clear H H1 H2 hf
        go_upto_region 5 with (fail)
        have lt_g := g.lt
        have lt_v := v.lt
        have lt_r := r.lt
        have hW0 : w.heap.size ≤ wr.heap.size := by simpa using hB.size
        apply wp_region_I 16 [0, 0, 3, 7, 0, 0, 48, 112, 240, 511, 0, 1024, 3072, 7664, 16383, 32767] [] [_, _, _, _, _, _, _, _, _, _, _, _, _, _, _, _] (fun p L w' => wr.heap.size ≤ w'.heap.size ∧ Below w.heap.size w w' ∧ blk w' w.heap.size (rsc (preH (stpF h f c) h k, f)) 50 ∧ blk w' (w.heap.size + 1) (qfn c) 28 ∧ blk w' (w.heap.size + 2) (rsc (fun _ => 0, 0)) 50) _ [(0, 15), (1, 16), (2, 17), (3, 18), (4, 19), (5, 20), (6, 21), (7, 22), (8, 23), (9, 24), (10, 25), (11, 26), (12, 27), (13, 28), (14, 29), (15, 6)] [0, 1, 2, 3, 4, 5, 6, 7, 8, 9, 10, 11, 12, 13, 14, 15]
        case hn => rfl
        case hm => kernel_rfl
        case hB => kernel_rfl
        case hds => kernel_rfl
        case hA => (intro p; simp only [putsD, Act.put, sIT, sCZ, sCS, List.getD_cons_zero, List.getD_cons_succ]; exact rfl)
        case h0 => exact fun p => ⟨Nat.le_refl _, hB.drew, g.drew, v.drew, r.drew⟩
        case hmore => exact fun p L w1 w2 ⟨hsz, hB, g, v, r⟩ hm => ⟨Nat.le_trans hsz hm.size, hB.trans (hm.mono (Nat.le_trans hW0 hsz)), g.below hm g.lt, v.below hm v.lt, r.below hm r.lt⟩
        case hs =>
          intro more
          iterate 3 (refine stepV _ rfl rfl (fun _ _ _ h => h) (by intros; go_simp; exact ⟨rfl, rfl⟩) ?_)
          refine stepV 3 rfl rfl (fun _ _ _ h => h) ?_ ?_
          · rintro p L w1 ⟨hsz, hB, g, v, r⟩ hk
            have hc : w1.cell? ⟨w.heap.size, k, none⟩ = some (.int .i64 (h k)) := (by have := g.cellIs (rs_i _ f hkn); rw [preH_ge (Nat.le_refl k)] at this; exact this)
            go_simp
            exact ⟨rfl, rfl⟩
          iterate 3 (refine stepV _ rfl rfl (fun _ _ _ h => h) (by intros; go_simp; exact ⟨rfl, rfl⟩) ?_)
          refine stepV 7 rfl rfl (fun _ _ _ h => h) ?_ ?_
          · rintro p L w1 ⟨hsz, hB, g, v, r⟩ hk
            have hc : w1.cell? ⟨w.heap.size, k, none⟩ = some (.int .i64 (h k)) := (by have := g.cellIs (rs_i _ f hkn); rw [preH_ge (Nat.le_refl k)] at this; exact this)
            go_simp
            exact ⟨rfl, rfl⟩
          refine stepD 8 rfl (fun p => rfl) (fun _ _ _ h => h) more ?_ ?_
          · rintro p L w1 ⟨hsz, hB, g, v, r⟩ hk
            go_simp
            refine (FR.out _).mono ?_
            rintro e w2 ⟨rfl, h2⟩
            first | exact ⟨rfl, h2⟩ | (subst h2; exact ⟨rfl, Below.refl _ _⟩)
          iterate 3 (refine stepV _ rfl rfl (fun _ _ _ h => h) (by intros; go_simp; exact ⟨rfl, rfl⟩) ?_)
          refine stepV 12 rfl rfl (fun _ _ _ h => h) ?_ ?_
          · rintro p L w1 ⟨hsz, hB, g, v, r⟩ hk
            have hc : w1.cell? ⟨(w.heap.size + 1), k, none⟩ = some (.int .i64 (c k)) := v.cellIs (qfn_get c hkn)
            go_simp
            exact ⟨rfl, rfl⟩
          refine stepD 13 rfl (fun p => rfl) (fun _ _ _ h => h) more ?_ ?_
          · rintro p L w1 ⟨hsz, hB, g, v, r⟩ hk
            go_simp
            refine (CL.out _).mono ?_
            rintro e w2 ⟨rfl, h2⟩
            first | exact ⟨rfl, h2⟩ | (subst h2; exact ⟨rfl, Below.refl _ _⟩)
          iterate 2 (refine stepV _ rfl rfl (fun _ _ _ h => h) (by intros; go_simp; exact ⟨rfl, rfl⟩) ?_)
          exact AllI.nil
        case hV0 => exact fun p q => AllI.nil
        case he =>
        clear hB g v r
        rintro p wrr ⟨hsz, hB, g, v, r⟩
        clear lt_g lt_v lt_r hsz hW0 CL FR hc4 e1 e2
        go_upto_region 6 with (fail)
        have lt_g := g.lt
        have lt_v := v.lt
        have lt_r := r.lt
        have hW0 : w.heap.size ≤ wrr.heap.size := by simpa using hB.size
        apply wp_region_Q 6 [0, 1, 3, 7, 15, 31] [] [_, _, _, _, _, (fun _ => undef)] (fun p L w' => wrr.heap.size ≤ w'.heap.size ∧ Below w.heap.size w w' ∧ blk w' w.heap.size (bif L 5 then (rsc (preH (stpF h f c) h (k + 1), f)) else (rsc (preH (stpF h f c) h k, f))) 50 ∧ blk w' (w.heap.size + 1) (qfn c) 28 ∧ blk w' (w.heap.size + 2) (rsc (fun _ => 0, 0)) 50) _ [(0, 30), (1, 31), (2, 32), (3, 33), (4, 34)] [0, 1, 2, 3, 4, 5]
        case hn => rfl
        case hB => kernel_rfl
        case hds => kernel_rfl
        case hA => (intro p; simp only [putsD, Act.put, sIT, sCZ, sCS, List.getD_cons_zero, List.getD_cons_succ]; exact rfl)
        case h0 => exact fun p => ⟨Nat.le_refl _, hB, g, v, r⟩
        case hmore => exact fun p L w1 w2 ⟨hsz, hB, g, v, r⟩ hm => ⟨Nat.le_trans hsz hm.size, hB.trans (hm.mono (Nat.le_trans hW0 hsz)), g.below hm g.lt, v.below hm v.lt, r.below hm r.lt⟩
        case hs =>
          intro more
          iterate 2 (refine stepV _ rfl rfl (fun _ _ _ h => h) (by intros; go_simp; exact ⟨rfl, rfl⟩) ?_)
          refine stepD 2 rfl (fun p => rfl) (fun _ _ _ h => h) more ?_ ?_
          · rintro p L w1 ⟨hsz, hB, g, v, r⟩ hk
            go_simp
            refine (CM.out _).mono ?_
            rintro e w2 ⟨rfl, h2⟩
            first | exact ⟨rfl, h2⟩ | (subst h2; exact ⟨rfl, Below.refl _ _⟩)
          iterate 2 (refine stepV _ rfl rfl (fun _ _ _ h => h) (by intros; go_simp; exact ⟨rfl, rfl⟩) ?_)
          refine AllI.cons ?_ ?_
          · refine stepI_cell 5 rfl (fun p => rfl) (fun p => rfl) (fun _ => w.heap.size) (k) (fun p => .int .i64 (clampV (h k - frW (h k) + clampV (c k) (-1048576) 1048576) (-16777216) 16777216)) (fun p => (rsc (preH (stpF h f c) h k, f))) (fun p => (rsc (preH (stpF h f c) h (k + 1), f))) 50 (fun p => rs_pre f hkn _ ev) ?_ ?_ ?_
            · rintro p L w1 ⟨hsz, hB, g, v, r⟩ hk
              have L5 : L 5 = false := hk.1
              rw [L5] at g
              try simp only [cond_true, cond_false] at g
              exact g
            · intro p w1 hb
              have fz : w1.frozen? ⟨w.heap.size, k, none⟩ = false := hb.free _
              have cz : ∃ u, w1.cell? ⟨w.heap.size, k, none⟩ = some u := ⟨_, hb.cellIs (rs_i _ f hkn)⟩
              obtain ⟨u, cz⟩ := cz
              go_simp
              try exact ⟨_, rfl, by first | exact .inl rfl | exact .inr rfl⟩
            · rintro p L w1 ⟨hsz, hB, g, v, r⟩ hk
              have L5 : L 5 = false := hk.1
              refine ⟨(by simpa using hsz), Below.setRow hB (by first | exact Nat.le_trans hW0 hp.1 | exact ge_g | omega | (have := hB.size; simp at this ⊢; omega)) _, ?_, v.rowOther (by first | exact ne_v_g | exact Ne.symm ne_g_v | omega) _, r.rowOther (by first | exact ne_r_g | exact Ne.symm ne_g_r | omega) _⟩
              rw [show upL L 5 5 = true from rfl]
              exact g.row _
          exact AllI.nil
        case hV0 => exact fun p q => AllI.nil
        case he =>
        clear hB g v r
        rintro p wrrr ⟨hsz, hB, g, v, r⟩
        replace g : blk wrrr w.heap.size (rsc (preH (stpF h f c) h (k + 1), f)) 50 := g
        clear lt_g lt_v lt_r hsz hW0
        go_wp2_with (fail)
        go_roundg (4 - (k + 1))
        case rel =>
          exact ⟨k + 1, by omega, rfl, g, v, r, hB⟩
        case measure => omega
    · obtain rfl : k = 4 := by omega
      rw [preT] at g
      go_upto_region 7 with (fail)
      have lt_g := g.lt
      have lt_v := v.lt
      have lt_r := r.lt
      have hW0 : w.heap.size ≤ wr.heap.size := by simpa using hB.size
      apply wp_region_Q 2 [0, 1] [] [_, (fun _ => undef)] (fun p L w' => wr.heap.size ≤ w'.heap.size ∧ Below w.heap.size w w' ∧ blk w' w.heap.size (rsc (stpF h f c, f)) 50 ∧ blk w' (w.heap.size + 1) (qfn c) 28 ∧ blk w' (w.heap.size + 2) (bif L 1 then (rsc (stpF h f c, f)) else (rsc (fun _ => 0, 0))) 50) _ [(0, 35)] [0, 1]
      case hn => rfl
      case hB => kernel_rfl
      case hds => kernel_rfl
      case hA => (intro p; simp only [putsD, Act.put, sIT, sCZ, sCS, List.getD_cons_zero, List.getD_cons_succ]; exact rfl)
      case h0 => exact fun p => ⟨Nat.le_refl _, hB, g, v, r⟩
      case hmore => exact fun p L w1 w2 ⟨hsz, hB, g, v, r⟩ hm => ⟨Nat.le_trans hsz hm.size, hB.trans (hm.mono (Nat.le_trans hW0 hsz)), g.below hm g.lt, v.below hm v.lt, r.below hm r.lt⟩
      case hs =>
        intro more
        refine stepV 0 rfl rfl (fun _ _ _ h => h) ?_ ?_
        · rintro p L w1 ⟨hsz, hB, g, v, r⟩ hk
          have L1 : L 1 = false := hk.2.2 1 rfl
          first | exact valR_row _ _ rfl _ rfl _ _ g _ Tryz.underlying50 rfl (by first | kernel_rfl | (rw [rsc_size]; kernel_rfl)) rfl | (have hc := g.cellIs (show _[0]? = some _ from rfl); go_simp; exact ⟨rfl, rfl⟩)
        refine AllI.cons ?_ ?_
        · refine stepI_store 1 rfl (fun p => rfl) (fun p => rfl) _ _ _ rfl (fun _ => (w.heap.size + 2)) 0 (fun p => rfl) (fun p => (rsc (stpF h f c, f))) (fun p => rfl) (fun p => (rsc (fun _ => 0, 0))) (fun p => (rsc (stpF h f c, f))) 50 (fun p => over_ss _ _) (fun p => by first | (rw [rsc_size, rsc_size]; decide) | simp [rsc_size, rsc_size]) (fun p => by rw [rsc_size]; kernel_rfl) (fun p => rsc_one _) ?_ ?_
          · rintro p L w1 ⟨hsz, hB, g, v, r⟩ hk
            have L1 : L 1 = false := hk.1
            rw [L1] at r
            try simp only [cond_true, cond_false] at r
            exact r
          · rintro p L w1 ⟨hsz, hB, g, v, r⟩ hk
            have L1 : L 1 = false := hk.1
            skip
            refine ⟨(by simpa using hsz), Below.setRow hB (by first | exact Nat.le_trans hW0 hp.1 | exact ge_r | omega | (have := hB.size; simp at this ⊢; omega)) _, g.rowOther (by first | exact ne_g_r | exact Ne.symm ne_r_g | omega) _, v.rowOther (by first | exact ne_v_r | exact Ne.symm ne_r_v | omega) _, ?_⟩
            rw [show upL L 1 1 = true from rfl]
            exact r.row _
        exact AllI.nil
      case hV0 => exact fun p q => AllI.nil
      case he =>
      clear hB g v r
      rintro p wrr ⟨hsz, hB, g, v, r⟩
      replace r : blk wrr (w.heap.size + 2) (rsc (stpF h f c, f)) 50 := r
      clear lt_g lt_v lt_r hsz hW0
      go_wp2_with (fail)
      refine bodyPost_ret (results_cell_row rfl _ _ _ _ _ _ _ rfl r Tryz.underlying50 rfl (by first | kernel_rfl | (rw [rsc_size]; kernel_rfl))) rfl ?_
      refine ⟨?_, hB⟩
      rfl
end Go.Proofs.YtjnocbjngojigaaGreat
namespace Go.Proofs.YtjnocbjngojigaaGreat
open Go.RowKit PM Dt
theorem rs_f (h : Nat → Int) (f i : Int) : (rsc (h, f)).setIfInBounds 4 (.int .i64 i) = rsc (h, i) := rfl
theorem rs_setF (h : Nat → Int) (f : Int) {k : Nat} (hk : k < 4) : (rsc (h, f)).setIfInBounds k (.int .i64 0) = rsc (setF h k, f) := by
  rcases (show k = 0 ∨ k = 1 ∨ k = 2 ∨ k = 3 by omega) with rfl | rfl | rfl | rfl <;> rfl
theorem results_cct {P : Program} {fn : Func} {p q u : Tmp} {ty ty2 : TypeId} (h : fn.results = #[.cell p ty, .cell q ty2, .tmp u]) (tmps : Array Value) (w : World) (g g2 : Nat) (t t2 : TypeId) (cs cs2 : Array Value) (fr fr2 : Nat × Nat) (d d2 : TypeDesc)
    (hp : tmps.getD p undef = .pointer (some ⟨g, 0, none⟩)) (hg : w.heap[g]? = some (.cells cs t fr)) (hq : tmps.getD q undef = .pointer (some ⟨g2, 0, none⟩)) (hg2 : w.heap[g2]? = some (.cells cs2 t2 fr2))
    (hu : P.underlying ty = some d) (hd : (match d with | .struct _ | .array _ _ => true | _ => false) = true) (hi : (P.info? ty).map (·.size) = some cs.size)
    (hu2 : P.underlying ty2 = some d2) (hd2 : (match d2 with | .struct _ | .array _ _ => true | _ => false) = true) (hi2 : (P.info? ty2).map (·.size) = some cs2.size) :
    (results fn tmps).run P w = .ok (.tuple #[.agg cs, .agg cs2, tmps.getD u undef]) w := by
  have hp' : tmps[p]?.getD undef = .pointer (some ⟨g, 0, none⟩) := by simpa using hp
  have hq' : tmps[q]?.getD undef = .pointer (some ⟨g2, 0, none⟩) := by simpa using hq
  simp only [results, h]
  simp [Sem.run_bind, hp', hq', asAddr, run_loadVar_row w g t ty cs fr d hg hu hd hi, run_loadVar_row w g2 t2 ty2 cs2 fr2 d2 hg2 hu2 hd2 hi2, Result.andThen]
set_option maxRecDepth 100000 in
set_option maxHeartbeats 2000000 in
theorem rwf_a (h : Nat → Int) (f i : Int) (w : World) (hi : i < 0) : Calls Tryz.prog 52 #[.agg (rsc (h, f)), .int .i64 i] w fun e w' => e = .returned (.tuple #[.agg (rsc (failH h f i, failF f i)), .int .i64 (failE f i)]) ∧ Below w.heap.size w w' := by
  have eE : failE f i = 2 := by unfold failE; rw [decide_eq_true hi]; rfl
  have d1 : decide (i < 0) = true := decide_eq_true hi
  unfold failH failF
  rw [eE, if_neg (by decide), if_neg (by decide)]
  clear eE
  go_enter Tryz.func52, Tryz.ntmps52
  go_upto_region 1 with (fail)
  simp only [rsc_zero]
  have g : blk ((w.alloc (.cells (rsc (h, f)) 50)).alloc (.cells (rsc (fun _ => 0, 0)) 50)) w.heap.size (rsc (h, f)) 50 := (blk.new _ _ _).alloc _
  have r : blk ((w.alloc (.cells (rsc (h, f)) 50)).alloc (.cells (rsc (fun _ => 0, 0)) 50)) (w.heap.size + 1) (rsc (fun _ => 0, 0)) 50 := blk.new' (by simp)
  have hB : Below w.heap.size w ((w.alloc (.cells (rsc (h, f)) 50)).alloc (.cells (rsc (fun _ => 0, 0)) 50)) := by go_grown
  generalize ((w.alloc (.cells (rsc (h, f)) 50)).alloc (.cells (rsc (fun _ => 0, 0)) 50)) = w0 at *
  go_upto_region 2 with (fail)
  have lt_g := g.lt
  have lt_r := r.lt
  have hW0 : w.heap.size ≤ w0.heap.size := by simpa using hB.size
  apply wp_region_Q 3 [0, 1, 3] [] [_, (fun _ => undef), _] (fun p L w' => w0.heap.size ≤ w'.heap.size ∧ Below w.heap.size w w' ∧ blk w' w.heap.size (rsc (h, f)) 50 ∧ blk w' (w.heap.size + 1) (bif L 1 then (rsc (h, f)) else (rsc (fun _ => 0, 0))) 50) _ [(0, 12), (2, 5)] [0, 1, 2]
  case hn => rfl
  case hB => kernel_rfl
  case hds => kernel_rfl
  case hA => (intro p; simp only [putsD, Act.put, sIT, sCZ, sCS, List.getD_cons_zero, List.getD_cons_succ]; exact rfl)
  case h0 => exact fun p => ⟨Nat.le_refl _, hB, g, r⟩
  case hmore => exact fun p L w1 w2 ⟨hsz, hB, g, r⟩ hm => ⟨Nat.le_trans hsz hm.size, hB.trans (hm.mono (Nat.le_trans hW0 hsz)), g.below hm g.lt, r.below hm r.lt⟩
  case hs =>
    intro more
    refine stepV 0 rfl rfl (fun _ _ _ h => h) ?_ ?_
    · rintro p L w1 ⟨hsz, hB, g, r⟩ hk
      have L1 : L 1 = false := hk.2.2 1 rfl
      first | exact valR_row _ _ rfl _ rfl _ _ g _ Tryz.underlying50 rfl (by first | kernel_rfl | (rw [rsc_size]; kernel_rfl)) rfl | (have hc := g.cellIs (show _[0]? = some _ from rfl); go_simp; exact ⟨rfl, rfl⟩)
    refine AllI.cons ?_ ?_
    · refine stepI_store 1 rfl (fun p => rfl) (fun p => rfl) _ _ _ rfl (fun _ => (w.heap.size + 1)) 0 (fun p => rfl) (fun p => (rsc (h, f))) (fun p => rfl) (fun p => (rsc (fun _ => 0, 0))) (fun p => (rsc (h, f))) 50 (fun p => over_ss _ _) (fun p => by first | (rw [rsc_size, rsc_size]; decide) | simp [rsc_size, rsc_size]) (fun p => by rw [rsc_size]; kernel_rfl) (fun p => rsc_one _) ?_ ?_
      · rintro p L w1 ⟨hsz, hB, g, r⟩ hk
        have L1 : L 1 = false := hk.1
        rw [L1] at r
        try simp only [cond_true, cond_false] at r
        exact r
      · rintro p L w1 ⟨hsz, hB, g, r⟩ hk
        have L1 : L 1 = false := hk.1
        skip
        refine ⟨(by simpa using hsz), Below.setRow hB (by first | exact Nat.le_trans hW0 hp.1 | exact ge_r | omega | (have := hB.size; simp at this ⊢; omega)) _, g.rowOther (by first | exact ne_g_r | exact Ne.symm ne_r_g | omega) _, ?_⟩
        rw [show upL L 1 1 = true from rfl]
        exact r.row _
    refine stepV _ rfl rfl (fun _ _ _ h => h) (by intros; go_simp; exact ⟨rfl, rfl⟩) ?_
    exact AllI.nil
  case hV0 => exact fun p q => AllI.nil
  case he =>
  clear hB g r
  rintro p w0r ⟨hsz, hB, g, r⟩
  replace r : blk w0r (w.heap.size + 1) (rsc (h, f)) 50 := r
  clear lt_g lt_r hsz hW0
  go_wp2_with (fail)
  refine bodyPost_ret (results_vec rfl _ _ _ _ _ _ _ rfl r Tryz.underlying50 rfl (by first | kernel_rfl | (rw [rsc_size]; kernel_rfl))) rfl ?_
  refine ⟨?_, hB⟩
  rfl
set_option maxRecDepth 100000 in
set_option maxHeartbeats 2000000 in
theorem rwf_b (h : Nat → Int) (f i : Int) (w : World) (hi : 3 < i) : Calls Tryz.prog 52 #[.agg (rsc (h, f)), .int .i64 i] w fun e w' => e = .returned (.tuple #[.agg (rsc (failH h f i, failF f i)), .int .i64 (failE f i)]) ∧ Below w.heap.size w w' := by
  have eE : failE f i = 2 := by unfold failE; rw [decide_eq_false (show ¬ i < 0 by omega), decide_eq_true hi]; rfl
  have d1 : decide (i < 0) = false := decide_eq_false (by omega)
  have d2 : decide (3 < i) = true := decide_eq_true hi
  unfold failH failF
  rw [eE, if_neg (by decide), if_neg (by decide)]
  clear eE
  go_enter Tryz.func52, Tryz.ntmps52
  go_upto_region 1 with (fail)
  simp only [rsc_zero]
  have g : blk ((w.alloc (.cells (rsc (h, f)) 50)).alloc (.cells (rsc (fun _ => 0, 0)) 50)) w.heap.size (rsc (h, f)) 50 := (blk.new _ _ _).alloc _
  have r : blk ((w.alloc (.cells (rsc (h, f)) 50)).alloc (.cells (rsc (fun _ => 0, 0)) 50)) (w.heap.size + 1) (rsc (fun _ => 0, 0)) 50 := blk.new' (by simp)
  have hB : Below w.heap.size w ((w.alloc (.cells (rsc (h, f)) 50)).alloc (.cells (rsc (fun _ => 0, 0)) 50)) := by go_grown
  generalize ((w.alloc (.cells (rsc (h, f)) 50)).alloc (.cells (rsc (fun _ => 0, 0)) 50)) = w0 at *
  go_upto_region 2 with (fail)
  have lt_g := g.lt
  have lt_r := r.lt
  have hW0 : w.heap.size ≤ w0.heap.size := by simpa using hB.size
  apply wp_region_Q 3 [0, 1, 3] [] [_, (fun _ => undef), _] (fun p L w' => w0.heap.size ≤ w'.heap.size ∧ Below w.heap.size w w' ∧ blk w' w.heap.size (rsc (h, f)) 50 ∧ blk w' (w.heap.size + 1) (bif L 1 then (rsc (h, f)) else (rsc (fun _ => 0, 0))) 50) _ [(0, 12), (2, 5)] [0, 1, 2]
  case hn => rfl
  case hB => kernel_rfl
  case hds => kernel_rfl
  case hA => (intro p; simp only [putsD, Act.put, sIT, sCZ, sCS, List.getD_cons_zero, List.getD_cons_succ]; exact rfl)
  case h0 => exact fun p => ⟨Nat.le_refl _, hB, g, r⟩
  case hmore => exact fun p L w1 w2 ⟨hsz, hB, g, r⟩ hm => ⟨Nat.le_trans hsz hm.size, hB.trans (hm.mono (Nat.le_trans hW0 hsz)), g.below hm g.lt, r.below hm r.lt⟩
  case hs =>
    intro more
    refine stepV 0 rfl rfl (fun _ _ _ h => h) ?_ ?_
    · rintro p L w1 ⟨hsz, hB, g, r⟩ hk
      have L1 : L 1 = false := hk.2.2 1 rfl
      first | exact valR_row _ _ rfl _ rfl _ _ g _ Tryz.underlying50 rfl (by first | kernel_rfl | (rw [rsc_size]; kernel_rfl)) rfl | (have hc := g.cellIs (show _[0]? = some _ from rfl); go_simp; exact ⟨rfl, rfl⟩)
    refine AllI.cons ?_ ?_
    · refine stepI_store 1 rfl (fun p => rfl) (fun p => rfl) _ _ _ rfl (fun _ => (w.heap.size + 1)) 0 (fun p => rfl) (fun p => (rsc (h, f))) (fun p => rfl) (fun p => (rsc (fun _ => 0, 0))) (fun p => (rsc (h, f))) 50 (fun p => over_ss _ _) (fun p => by first | (rw [rsc_size, rsc_size]; decide) | simp [rsc_size, rsc_size]) (fun p => by rw [rsc_size]; kernel_rfl) (fun p => rsc_one _) ?_ ?_
      · rintro p L w1 ⟨hsz, hB, g, r⟩ hk
        have L1 : L 1 = false := hk.1
        rw [L1] at r
        try simp only [cond_true, cond_false] at r
        exact r
      · rintro p L w1 ⟨hsz, hB, g, r⟩ hk
        have L1 : L 1 = false := hk.1
        skip
        refine ⟨(by simpa using hsz), Below.setRow hB (by first | exact Nat.le_trans hW0 hp.1 | exact ge_r | omega | (have := hB.size; simp at this ⊢; omega)) _, g.rowOther (by first | exact ne_g_r | exact Ne.symm ne_r_g | omega) _, ?_⟩
        rw [show upL L 1 1 = true from rfl]
        exact r.row _
    refine stepV _ rfl rfl (fun _ _ _ h => h) (by intros; go_simp; exact ⟨rfl, rfl⟩) ?_
    exact AllI.nil
  case hV0 => exact fun p q => AllI.nil
  case he =>
  clear hB g r
  rintro p w0r ⟨hsz, hB, g, r⟩
  replace r : blk w0r (w.heap.size + 1) (rsc (h, f)) 50 := r
  clear lt_g lt_r hsz hW0
  go_wp2_with (fail)
  refine bodyPost_ret (results_vec rfl _ _ _ _ _ _ _ rfl r Tryz.underlying50 rfl (by first | kernel_rfl | (rw [rsc_size]; kernel_rfl))) rfl ?_
  refine ⟨?_, hB⟩
  rfl
set_option maxRecDepth 100000 in
set_option maxHeartbeats 2000000 in
theorem rwf_c (h : Nat → Int) (f i : Int) (w : World) (h0 : 0 ≤ i) (h3 : i ≤ 3) (hf : 0 ≤ f) : Calls Tryz.prog 52 #[.agg (rsc (h, f)), .int .i64 i] w fun e w' => e = .returned (.tuple #[.agg (rsc (failH h f i, failF f i)), .int .i64 (failE f i)]) ∧ Below w.heap.size w w' := by
  have d1 : decide (i < 0) = false := decide_eq_false (by omega)
  have d2 : decide (3 < i) = false := decide_eq_false (by omega)
  have d3 : decide (0 ≤ f) = true := decide_eq_true hf
  have eE : failE f i = 5 := by unfold failE; rw [d1, d2, d3]; rfl
  unfold failH failF
  rw [eE, if_neg (by decide), if_neg (by decide)]
  clear eE
  go_enter Tryz.func52, Tryz.ntmps52
  go_upto_region 1 with (fail)
  simp only [rsc_zero]
  have g : blk ((w.alloc (.cells (rsc (h, f)) 50)).alloc (.cells (rsc (fun _ => 0, 0)) 50)) w.heap.size (rsc (h, f)) 50 := (blk.new _ _ _).alloc _
  have r : blk ((w.alloc (.cells (rsc (h, f)) 50)).alloc (.cells (rsc (fun _ => 0, 0)) 50)) (w.heap.size + 1) (rsc (fun _ => 0, 0)) 50 := blk.new' (by simp)
  have hB : Below w.heap.size w ((w.alloc (.cells (rsc (h, f)) 50)).alloc (.cells (rsc (fun _ => 0, 0)) 50)) := by go_grown
  generalize ((w.alloc (.cells (rsc (h, f)) 50)).alloc (.cells (rsc (fun _ => 0, 0)) 50)) = w0 at *
  have hc4 : w0.cell? ⟨w.heap.size, 4, none⟩ = some (.int .i64 f) := g.cellIs rfl
  go_upto_region 4 with (fail)
  have lt_g := g.lt
  have lt_r := r.lt
  have hW0 : w.heap.size ≤ w0.heap.size := by simpa using hB.size
  apply wp_region_Q 3 [0, 1, 3] [] [_, (fun _ => undef), _] (fun p L w' => w0.heap.size ≤ w'.heap.size ∧ Below w.heap.size w w' ∧ blk w' w.heap.size (rsc (h, f)) 50 ∧ blk w' (w.heap.size + 1) (bif L 1 then (rsc (h, f)) else (rsc (fun _ => 0, 0))) 50) _ [(0, 16), (2, 5)] [0, 1, 2]
  case hn => rfl
  case hB => kernel_rfl
  case hds => kernel_rfl
  case hA => (intro p; simp only [putsD, Act.put, sIT, sCZ, sCS, List.getD_cons_zero, List.getD_cons_succ]; exact rfl)
  case h0 => exact fun p => ⟨Nat.le_refl _, hB, g, r⟩
  case hmore => exact fun p L w1 w2 ⟨hsz, hB, g, r⟩ hm => ⟨Nat.le_trans hsz hm.size, hB.trans (hm.mono (Nat.le_trans hW0 hsz)), g.below hm g.lt, r.below hm r.lt⟩
  case hs =>
    intro more
    refine stepV 0 rfl rfl (fun _ _ _ h => h) ?_ ?_
    · rintro p L w1 ⟨hsz, hB, g, r⟩ hk
      have L1 : L 1 = false := hk.2.2 1 rfl
      first | exact valR_row _ _ rfl _ rfl _ _ g _ Tryz.underlying50 rfl (by first | kernel_rfl | (rw [rsc_size]; kernel_rfl)) rfl | (have hc := g.cellIs (show _[0]? = some _ from rfl); go_simp; exact ⟨rfl, rfl⟩)
    refine AllI.cons ?_ ?_
    · refine stepI_store 1 rfl (fun p => rfl) (fun p => rfl) _ _ _ rfl (fun _ => (w.heap.size + 1)) 0 (fun p => rfl) (fun p => (rsc (h, f))) (fun p => rfl) (fun p => (rsc (fun _ => 0, 0))) (fun p => (rsc (h, f))) 50 (fun p => over_ss _ _) (fun p => by first | (rw [rsc_size, rsc_size]; decide) | simp [rsc_size, rsc_size]) (fun p => by rw [rsc_size]; kernel_rfl) (fun p => rsc_one _) ?_ ?_
      · rintro p L w1 ⟨hsz, hB, g, r⟩ hk
        have L1 : L 1 = false := hk.1
        rw [L1] at r
        try simp only [cond_true, cond_false] at r
        exact r
      · rintro p L w1 ⟨hsz, hB, g, r⟩ hk
        have L1 : L 1 = false := hk.1
        skip
        refine ⟨(by simpa using hsz), Below.setRow hB (by first | exact Nat.le_trans hW0 hp.1 | exact ge_r | omega | (have := hB.size; simp at this ⊢; omega)) _, g.rowOther (by first | exact ne_g_r | exact Ne.symm ne_r_g | omega) _, ?_⟩
        rw [show upL L 1 1 = true from rfl]
        exact r.row _
    refine stepV _ rfl rfl (fun _ _ _ h => h) (by intros; go_simp; exact ⟨rfl, rfl⟩) ?_
    exact AllI.nil
  case hV0 => exact fun p q => AllI.nil
  case he =>
  clear hB g r
  rintro p w0r ⟨hsz, hB, g, r⟩
  replace r : blk w0r (w.heap.size + 1) (rsc (h, f)) 50 := r
  clear lt_g lt_r hsz hW0
  go_wp2_with (fail)
  refine bodyPost_ret (results_vec rfl _ _ _ _ _ _ _ rfl r Tryz.underlying50 rfl (by first | kernel_rfl | (rw [rsc_size]; kernel_rfl))) rfl ?_
  refine ⟨?_, hB⟩
  rfl
set_option maxRecDepth 100000 in
set_option maxHeartbeats 2000000 in
theorem rwf_d (h : Nat → Int) (f : Int) (k : Nat) (w : World) (hk : k < 4) (hf : f < 0) : Calls Tryz.prog 52 #[.agg (rsc (h, f)), .int .i64 (k : Int)] w fun e w' => e = .returned (.tuple #[.agg (rsc (setF h k, (k : Int))), .int .i64 0]) ∧ Below w.heap.size w w' := by
  have d1 : decide ((k : Int) < 0) = false := decide_eq_false (by omega)
  have d2 : decide (3 < (k : Int)) = false := decide_eq_false (by omega)
  have d3 : decide (0 ≤ f) = false := decide_eq_false (by omega)
  have hk3 : (k : Int) < 4 := by omega
  have hk0 : (0 : Int) ≤ k := by omega
  clear hf
  go_enter Tryz.func52, Tryz.ntmps52
  go_upto_region 1 with (fail)
  simp only [rsc_zero]
  have g : blk ((w.alloc (.cells (rsc (h, f)) 50)).alloc (.cells (rsc (fun _ => 0, 0)) 50)) w.heap.size (rsc (h, f)) 50 := (blk.new _ _ _).alloc _
  have r : blk ((w.alloc (.cells (rsc (h, f)) 50)).alloc (.cells (rsc (fun _ => 0, 0)) 50)) (w.heap.size + 1) (rsc (fun _ => 0, 0)) 50 := blk.new' (by simp)
  have hB : Below w.heap.size w ((w.alloc (.cells (rsc (h, f)) 50)).alloc (.cells (rsc (fun _ => 0, 0)) 50)) := by go_grown
  generalize ((w.alloc (.cells (rsc (h, f)) 50)).alloc (.cells (rsc (fun _ => 0, 0)) 50)) = w0 at *
  have hc4 : w0.cell? ⟨w.heap.size, 4, none⟩ = some (.int .i64 f) := g.cellIs rfl
  go_upto_region 5 with (fail)
  clear hc4
  have lt_g := g.lt
  have lt_r := r.lt
  have hW0 : w.heap.size ≤ w0.heap.size := by simpa using hB.size
  apply wp_region_Q 3 [0, 1, 3] [] [_, _, (fun _ => undef)] (fun p L w' => w0.heap.size ≤ w'.heap.size ∧ Below w.heap.size w w' ∧ blk w' w.heap.size (bif L 2 then (rsc (h, (k : Int))) else (rsc (h, f))) 50 ∧ blk w' (w.heap.size + 1) (rsc (fun _ => 0, 0)) 50) _ [(0, 17), (1, 18)] [0, 1, 2]
  case hn => rfl
  case hB => kernel_rfl
  case hds => kernel_rfl
  case hA => (intro p; simp only [putsD, Act.put, sIT, sCZ, sCS, List.getD_cons_zero, List.getD_cons_succ]; exact rfl)
  case h0 => exact fun p => ⟨Nat.le_refl _, hB, g, r⟩
  case hmore => exact fun p L w1 w2 ⟨hsz, hB, g, r⟩ hm => ⟨Nat.le_trans hsz hm.size, hB.trans (hm.mono (Nat.le_trans hW0 hsz)), g.below hm g.lt, r.below hm r.lt⟩
  case hs =>
    intro more
    iterate 2 (refine stepV _ rfl rfl (fun _ _ _ h => h) (by intros; go_simp; exact ⟨rfl, rfl⟩) ?_)
    refine AllI.cons ?_ ?_
    · refine stepI_cell 2 rfl (fun p => rfl) (fun p => rfl) (fun _ => w.heap.size) (4) (fun p => .int .i64 (k : Int)) (fun p => (rsc (h, f))) (fun p => (rsc (h, (k : Int)))) 50 (fun p => rs_f _ _ _) ?_ ?_ ?_
      · rintro p L w1 ⟨hsz, hB, g, r⟩ hk
        have L2 : L 2 = false := hk.1
        rw [L2] at g
        try simp only [cond_true, cond_false] at g
        exact g
      · intro p w1 hb
        have fz : w1.frozen? ⟨w.heap.size, 4, none⟩ = false := hb.free _
        have cz : ∃ u, w1.cell? ⟨w.heap.size, 4, none⟩ = some u := ⟨_, hb.cellIs (rfl)⟩
        obtain ⟨u, cz⟩ := cz
        go_simp
        try exact ⟨_, rfl, by first | exact .inl rfl | exact .inr rfl⟩
      · rintro p L w1 ⟨hsz, hB, g, r⟩ hk
        have L2 : L 2 = false := hk.1
        refine ⟨(by simpa using hsz), Below.setRow hB (by first | exact Nat.le_trans hW0 hp.1 | exact ge_g | omega | (have := hB.size; simp at this ⊢; omega)) _, ?_, r.rowOther (by first | exact ne_r_g | exact Ne.symm ne_g_r | omega) _⟩
        rw [show upL L 2 2 = true from rfl]
        exact g.row _
    exact AllI.nil
  case hV0 => exact fun p q => AllI.nil
  case he =>
  clear hB g r
  rintro p w0r ⟨hsz, hB, g, r⟩
  replace g : blk w0r w.heap.size (rsc (h, (k : Int))) 50 := g
  clear lt_g lt_r hsz hW0
  go_upto_region 6 with (fail)
  have lt_g := g.lt
  have lt_r := r.lt
  have hW0 : w.heap.size ≤ w0r.heap.size := by simpa using hB.size
  apply wp_region_Q 4 [0, 1, 3, 7] [] [_, _, _, (fun _ => undef)] (fun p L w' => w0r.heap.size ≤ w'.heap.size ∧ Below w.heap.size w w' ∧ blk w' w.heap.size (bif L 3 then (rsc (setF h k, (k : Int))) else (rsc (h, (k : Int)))) 50 ∧ blk w' (w.heap.size + 1) (rsc (fun _ => 0, 0)) 50) _ [(0, 19), (1, 20), (2, 21)] [0, 1, 2, 3]
  case hn => rfl
  case hB => kernel_rfl
  case hds => kernel_rfl
  case hA => (intro p; simp only [putsD, Act.put, sIT, sCZ, sCS, List.getD_cons_zero, List.getD_cons_succ]; exact rfl)
  case h0 => exact fun p => ⟨Nat.le_refl _, hB, g, r⟩
  case hmore => exact fun p L w1 w2 ⟨hsz, hB, g, r⟩ hm => ⟨Nat.le_trans hsz hm.size, hB.trans (hm.mono (Nat.le_trans hW0 hsz)), g.below hm g.lt, r.below hm r.lt⟩
  case hs =>
    intro more
    iterate 3 (refine stepV _ rfl rfl (fun _ _ _ h => h) (by intros; go_simp; exact ⟨rfl, rfl⟩) ?_)
    refine AllI.cons ?_ ?_
    · refine stepI_cell 3 rfl (fun p => rfl) (fun p => rfl) (fun _ => w.heap.size) (k) (fun p => .int .i64 0) (fun p => (rsc (h, (k : Int)))) (fun p => (rsc (setF h k, (k : Int)))) 50 (fun p => rs_setF _ _ hk) ?_ ?_ ?_
      · rintro p L w1 ⟨hsz, hB, g, r⟩ hk
        have L3 : L 3 = false := hk.1
        rw [L3] at g
        try simp only [cond_true, cond_false] at g
        exact g
      · intro p w1 hb
        have fz : w1.frozen? ⟨w.heap.size, k, none⟩ = false := hb.free _
        have cz : ∃ u, w1.cell? ⟨w.heap.size, k, none⟩ = some u := ⟨_, hb.cellIs (rs_i _ _ hk)⟩
        obtain ⟨u, cz⟩ := cz
        go_simp
        try exact ⟨_, rfl, by first | exact .inl rfl | exact .inr rfl⟩
      · rintro p L w1 ⟨hsz, hB, g, r⟩ hk
        have L3 : L 3 = false := hk.1
        refine ⟨(by simpa using hsz), Below.setRow hB (by first | exact Nat.le_trans hW0 hp.1 | exact ge_g | omega | (have := hB.size; simp at this ⊢; omega)) _, ?_, r.rowOther (by first | exact ne_r_g | exact Ne.symm ne_g_r | omega) _⟩
        rw [show upL L 3 3 = true from rfl]
        exact g.row _
    exact AllI.nil
  case hV0 => exact fun p q => AllI.nil
  case he =>
  clear hB g r
  rintro p w0rr ⟨hsz, hB, g, r⟩
  replace g : blk w0rr w.heap.size (rsc (setF h k, (k : Int))) 50 := g
  clear lt_g lt_r hsz hW0
  go_upto_region 7 with (fail)
  have lt_g := g.lt
  have lt_r := r.lt
  have hW0 : w.heap.size ≤ w0rr.heap.size := by simpa using hB.size
  apply wp_region_Q 3 [0, 1, 3] [] [_, (fun _ => undef), _] (fun p L w' => w0rr.heap.size ≤ w'.heap.size ∧ Below w.heap.size w w' ∧ blk w' w.heap.size (rsc (setF h k, (k : Int))) 50 ∧ blk w' (w.heap.size + 1) (bif L 1 then (rsc (setF h k, (k : Int))) else (rsc (fun _ => 0, 0))) 50) _ [(0, 22), (2, 5)] [0, 1, 2]
  case hn => rfl
  case hB => kernel_rfl
  case hds => kernel_rfl
  case hA => (intro p; simp only [putsD, Act.put, sIT, sCZ, sCS, List.getD_cons_zero, List.getD_cons_succ]; exact rfl)
  case h0 => exact fun p => ⟨Nat.le_refl _, hB, g, r⟩
  case hmore => exact fun p L w1 w2 ⟨hsz, hB, g, r⟩ hm => ⟨Nat.le_trans hsz hm.size, hB.trans (hm.mono (Nat.le_trans hW0 hsz)), g.below hm g.lt, r.below hm r.lt⟩
  case hs =>
    intro more
    refine stepV 0 rfl rfl (fun _ _ _ h => h) ?_ ?_
    · rintro p L w1 ⟨hsz, hB, g, r⟩ hk
      have L1 : L 1 = false := hk.2.2 1 rfl
      first | exact valR_row _ _ rfl _ rfl _ _ g _ Tryz.underlying50 rfl (by first | kernel_rfl | (rw [rsc_size]; kernel_rfl)) rfl | (have hc := g.cellIs (show _[0]? = some _ from rfl); go_simp; exact ⟨rfl, rfl⟩)
    refine AllI.cons ?_ ?_
    · refine stepI_store 1 rfl (fun p => rfl) (fun p => rfl) _ _ _ rfl (fun _ => (w.heap.size + 1)) 0 (fun p => rfl) (fun p => (rsc (setF h k, (k : Int)))) (fun p => rfl) (fun p => (rsc (fun _ => 0, 0))) (fun p => (rsc (setF h k, (k : Int)))) 50 (fun p => over_ss _ _) (fun p => by first | (rw [rsc_size, rsc_size]; decide) | simp [rsc_size, rsc_size]) (fun p => by rw [rsc_size]; kernel_rfl) (fun p => rsc_one _) ?_ ?_
      · rintro p L w1 ⟨hsz, hB, g, r⟩ hk
        have L1 : L 1 = false := hk.1
        rw [L1] at r
        try simp only [cond_true, cond_false] at r
        exact r
      · rintro p L w1 ⟨hsz, hB, g, r⟩ hk
        have L1 : L 1 = false := hk.1
        skip
        refine ⟨(by simpa using hsz), Below.setRow hB (by first | exact Nat.le_trans hW0 hp.1 | exact ge_r | omega | (have := hB.size; simp at this ⊢; omega)) _, g.rowOther (by first | exact ne_g_r | exact Ne.symm ne_r_g | omega) _, ?_⟩
        rw [show upL L 1 1 = true from rfl]
        exact r.row _
    refine stepV _ rfl rfl (fun _ _ _ h => h) (by intros; go_simp; exact ⟨rfl, rfl⟩) ?_
    exact AllI.nil
  case hV0 => exact fun p q => AllI.nil
  case he =>
  clear hB g r
  rintro p w0rrr ⟨hsz, hB, g, r⟩
  replace r : blk w0rrr (w.heap.size + 1) (rsc (setF h k, (k : Int))) 50 := r
  clear lt_g lt_r hsz hW0
  go_wp2_with (fail)
  refine bodyPost_ret (results_vec rfl _ _ _ _ _ _ _ rfl r Tryz.underlying50 rfl (by first | kernel_rfl | (rw [rsc_size]; kernel_rfl))) rfl ?_
  refine ⟨?_, hB⟩
  rfl
theorem rwfail_any (h : Nat → Int) (f i : Int) (w : World) : Calls Tryz.prog 52 #[.agg (rsc (h, f)), .int .i64 i] w fun e w' => e = .returned (.tuple #[.agg (rsc (failH h f i, failF f i)), .int .i64 (failE f i)]) ∧ Below w.heap.size w w' := by
  by_cases h0 : i < 0
  · exact rwf_a h f i w h0
  · by_cases h3 : 3 < i
    · exact rwf_b h f i w h3
    · by_cases hf : 0 ≤ f
      · exact rwf_c h f i w (by omega) (by omega) hf
      · obtain ⟨k, rfl⟩ : ∃ k : Nat, i = k := ⟨i.toNat, by omega⟩
        have eE : failE f (k : Int) = 0 := by unfold failE; rw [decide_eq_false h0, decide_eq_false h3, decide_eq_false hf]; rfl
        unfold failH failF
        rw [eE, if_pos rfl, if_pos rfl, Int.toNat_natCast]
        exact rwf_d h f k w (by omega) (by omega)
set_option maxRecDepth 100000 in
set_option maxHeartbeats 2000000 in
theorem rbfail_any (X : BSt) (i : Int) (w : World) : Calls Tryz.prog 19 #[.agg (rbc X), .int .i64 i] w fun e w' => e = .returned (.tuple #[.agg (rbc (failX X i)), .int .i64 (failE X.f i)]) ∧ Below w.heap.size w w' := by
  have FA := Lib.hid (fun w => rwfail_any X.h X.f i w)
  go_enter Tryz.func19, Tryz.ntmps19
  go_upto_region 1 with (fail)
  simp only [rbc_zero]
  have g : blk ((w.alloc (.cells (rbc X) 52)).alloc (.cells (rbc BSt.zero) 52)) w.heap.size (rbc X) 52 := (blk.new _ _ _).alloc _
  have r : blk ((w.alloc (.cells (rbc X) 52)).alloc (.cells (rbc BSt.zero) 52)) (w.heap.size + 1) (rbc BSt.zero) 52 := blk.new' (by simp)
  have hB : Below w.heap.size w ((w.alloc (.cells (rbc X) 52)).alloc (.cells (rbc BSt.zero) 52)) := by go_grown
  generalize ((w.alloc (.cells (rbc X) 52)).alloc (.cells (rbc BSt.zero) 52)) = w0 at *
  have lt_g := g.lt
  have lt_r := r.lt
  have hW0 : w.heap.size ≤ w0.heap.size := by simpa using hB.size
  apply wp_region_Q 10 [0, 1, 3, 7, 15, 31, 63, 127, 255, 511] [7] [_, _, _, _, _, _, _, (fun p => .pointer (some ⟨p 7, 0, none⟩)), (fun _ => undef), _] (fun p L w' => w0.heap.size ≤ w'.heap.size ∧ Below w.heap.size w w' ∧ blk w' w.heap.size (rbc X) 52 ∧ blk w' (w.heap.size + 1) (rbc BSt.zero) 52 ∧ (L 7 = true → w0.heap.size ≤ p 7 ∧ blk w' (p 7) (bif L 8 then (rsc (failH X.h X.f i, failF X.f i)) else (rsc (fun _ => 0, 0))) 50)) _ [(0, 9), (1, 10), (2, 11), (3, 12), (4, 8), (5, 13), (6, 14), (7, 6), (9, 7)] [0, 1, 2, 3, 4, 5, 6, 7, 8, 9]
  case hn => rfl
  case hB => kernel_rfl
  case hds => kernel_rfl
  case hA => (intro p; simp only [putsD, Act.put, sIT, sCZ, sCS, List.getD_cons_zero, List.getD_cons_succ]; exact rfl)
  case h0 => exact fun p => ⟨Nat.le_refl _, hB, g, r, fun h => absurd h (by decide)⟩
  case hmore => exact fun p L w1 w2 ⟨hsz, hB, g, r, h_x⟩ hm => ⟨Nat.le_trans hsz hm.size, hB.trans (hm.mono (Nat.le_trans hW0 hsz)), g.below hm g.lt, r.below hm r.lt, fun hl => ⟨(h_x hl).1, (h_x hl).2.below hm (h_x hl).2.lt⟩⟩
  case hs =>
    intro more
    refine stepV _ rfl rfl (fun _ _ _ h => h) (by intros; go_simp; exact ⟨rfl, rfl⟩) ?_
    refine stepV 1 rfl rfl (fun _ _ _ h => h) ?_ ?_
    · rintro p L w1 ⟨hsz, hB, g, r, h_x⟩ hk
      have L8 : L 8 = false := hk.2.2 8 rfl
      exact valR_part _ _ rfl _ 7 rfl _ _ g (rsc (X.h, X.f)) (rb_s X) _ Tryz.underlying50 rfl (by rw [rsc_size]; kernel_rfl) rfl
    refine stepV _ rfl rfl (fun _ _ _ h => h) (by intros; go_simp; exact ⟨rfl, rfl⟩) ?_
    refine stepD 3 rfl (fun p => rfl) (fun _ _ _ h => h) more ?_ ?_
    · rintro p L w1 ⟨hsz, hB, g, r, h_x⟩ hk
      go_simp
      refine (FA.out _).mono ?_
      rintro e w2 ⟨rfl, h2⟩
      first | exact ⟨rfl, h2⟩ | (subst h2; exact ⟨rfl, Below.refl _ _⟩)
    iterate 3 (refine stepV _ rfl rfl (fun _ _ _ h => h) (by intros; go_simp; exact ⟨rfl, rfl⟩) ?_)
    refine AllI.cons ?_ ?_
    · refine stepI_alloc 7 rfl (fun p => rfl) rfl (rsc (fun _ => 0, 0)) 50 (fun p => rfl) ?_ ?_
      · intro p w1
        go_simp
        first | rfl | rw [rsc_zero]
      rintro p L w1 ⟨hsz, hB, g, r, h_x⟩ hk
      have L8 : L 8 = false := hk.2.2 8 rfl
      refine ⟨Nat.le_trans hsz (by simp), hB.alloc (Nat.le_trans (by first | exact hW0 | (have := hB.size; simp at this ⊢; omega)) hsz) _, g.alloc _, r.alloc _, fun _ => ⟨hsz, ?_⟩⟩
      rw [show upL L 7 8 = false from L8]
      exact blk.new _ _ _
    refine AllI.cons ?_ ?_
    · refine stepI_store 8 rfl (fun p => rfl) (fun p => rfl) _ _ _ rfl (fun p => p 7) 0 (fun p => rfl) (fun p => (rsc (failH X.h X.f i, failF X.f i))) (fun p => rfl) (fun p => (rsc (fun _ => 0, 0))) (fun p => (rsc (failH X.h X.f i, failF X.f i))) 50 (fun p => over_ss _ _) (fun p => by first | (rw [rsc_size, rsc_size]; decide) | simp [rsc_size, rsc_size]) (fun p => by rw [rsc_size]; kernel_rfl) (fun p => rsc_one _) ?_ ?_
      · rintro p L w1 ⟨hsz, hB, g, r, h_x⟩ hk
        have L8 : L 8 = false := hk.1
        have hh := (h_x (hk.2.1 7 rfl)).2
        rw [L8] at hh
        try simp only [cond_true, cond_false] at hh
        exact hh
      · rintro p L w1 ⟨hsz, hB, g, r, h_x⟩ hk
        have L8 : L 8 = false := hk.1
        skip
        have hp := h_x (hk.2.1 7 rfl)
        refine ⟨(by simpa using hsz), Below.setRow hB (by first | exact Nat.le_trans hW0 hp.1 | exact ge_x | omega | (have := hB.size; simp at this ⊢; omega)) _, g.rowOther (by first | exact Nat.ne_of_lt (Nat.lt_of_lt_of_le lt_g hp.1) | omega) _, r.rowOther (by first | exact Nat.ne_of_lt (Nat.lt_of_lt_of_le lt_r hp.1) | omega) _, fun _ => ⟨hp.1, ?_⟩⟩
        rw [show upL L 8 8 = true from rfl]
        exact hp.2.row _
    refine stepV _ rfl rfl (fun _ _ _ h => h) (by intros; go_simp; exact ⟨rfl, rfl⟩) ?_
    exact AllI.nil
  case hV0 =>
    intro p q
    refine AllI.cons ?_ ?_
    · skip
      iterate 10 (refine AllI.cons (by first | exact .inl rfl | (refine .inr ?_; simp only [List.getD_cons_zero, List.getD_cons_succ]; done) | exact .inr rfl) ?_)
      exact AllI.nil
    exact AllI.nil
  case he =>
  clear hB g r
  rintro p w0r ⟨hsz, hB, g, r, h_x⟩
  obtain ⟨le_x, x⟩ := h_x rfl
  clear h_x
  replace x : blk w0r (p 7) (rsc (failH X.h X.f i, failF X.f i)) 50 := x
  have ne_g_x : w.heap.size ≠ p 7 := Nat.ne_of_lt (Nat.lt_of_lt_of_le lt_g le_x)
  have ne_r_x : (w.heap.size + 1) ≠ p 7 := Nat.ne_of_lt (Nat.lt_of_lt_of_le lt_r le_x)
  have ge_x : w.heap.size ≤ p 7 := Nat.le_trans hW0 le_x
  generalize p 7 = x_b at *
  clear lt_g lt_r hsz hW0
  go_upto_region 2 with (fail)
  have lt_g := g.lt
  have lt_r := r.lt
  have lt_x := x.lt
  have hW0 : w.heap.size ≤ w0r.heap.size := by simpa using hB.size
  apply wp_region_Q 3 [0, 1, 3] [] [_, _, (fun _ => undef)] (fun p L w' => w0r.heap.size ≤ w'.heap.size ∧ Below w.heap.size w w' ∧ blk w' w.heap.size (bif L 2 then (rbc (failX X i)) else (rbc X)) 52 ∧ blk w' (w.heap.size + 1) (rbc BSt.zero) 52 ∧ blk w' x_b (rsc (failH X.h X.f i, failF X.f i)) 50) _ [(0, 15), (1, 16)] [0, 1, 2]
  case hn => rfl
  case hB => kernel_rfl
  case hds => kernel_rfl
  case hA => (intro p; simp only [putsD, Act.put, sIT, sCZ, sCS, List.getD_cons_zero, List.getD_cons_succ]; exact rfl)
  case h0 => exact fun p => ⟨Nat.le_refl _, hB, g, r, x⟩
  case hmore => exact fun p L w1 w2 ⟨hsz, hB, g, r, x⟩ hm => ⟨Nat.le_trans hsz hm.size, hB.trans (hm.mono (Nat.le_trans hW0 hsz)), g.below hm g.lt, r.below hm r.lt, x.below hm x.lt⟩
  case hs =>
    intro more
    refine stepV 0 rfl rfl (fun _ _ _ h => h) ?_ ?_
    · rintro p L w1 ⟨hsz, hB, g, r, x⟩ hk
      have L2 : L 2 = false := hk.2.2 2 rfl
      first | exact valR_row _ _ rfl _ rfl _ _ x _ Tryz.underlying50 rfl (by first | kernel_rfl | (rw [rsc_size]; kernel_rfl)) rfl | (have hc := x.cellIs (show _[0]? = some _ from rfl); go_simp; exact ⟨rfl, rfl⟩)
    refine stepV _ rfl rfl (fun _ _ _ h => h) (by intros; go_simp; exact ⟨rfl, rfl⟩) ?_
    refine AllI.cons ?_ ?_
    · refine stepI_store 2 rfl (fun p => rfl) (fun p => rfl) _ _ _ rfl (fun _ => w.heap.size) 7 (fun p => rfl) (fun p => (rsc (failH X.h X.f i, failF X.f i))) (fun p => rfl) (fun p => (rbc X)) (fun p => (rbc (failX X i))) 52 (fun p => over_rs _ _ _) (fun p => by first | (rw [rsc_size, rbc_size]; decide) | simp [rsc_size, rbc_size]) (fun p => by rw [rsc_size]; kernel_rfl) (fun p => rsc_one _) ?_ ?_
      · rintro p L w1 ⟨hsz, hB, g, r, x⟩ hk
        have L2 : L 2 = false := hk.1
        rw [L2] at g
        try simp only [cond_true, cond_false] at g
        exact g
      · rintro p L w1 ⟨hsz, hB, g, r, x⟩ hk
        have L2 : L 2 = false := hk.1
        skip
        refine ⟨(by simpa using hsz), Below.setRow hB (by first | exact Nat.le_trans hW0 hp.1 | exact ge_g | omega | (have := hB.size; simp at this ⊢; omega)) _, ?_, r.rowOther (by first | exact ne_r_g | exact Ne.symm ne_g_r | omega) _, x.rowOther (Ne.symm ne_g_x) _⟩
        rw [show upL L 2 2 = true from rfl]
        exact g.row _
    exact AllI.nil
  case hV0 => exact fun p q => AllI.nil
  case he =>
  clear hB g r x
  rintro p w0rr ⟨hsz, hB, g, r, x⟩
  replace g : blk w0rr w.heap.size (rbc (failX X i)) 52 := g
  clear lt_g lt_r lt_x hsz hW0
  go_upto_region 3 with (fail)
  have lt_g := g.lt
  have lt_r := r.lt
  have lt_x := x.lt
  have hW0 : w.heap.size ≤ w0rr.heap.size := by simpa using hB.size
  apply wp_region_Q 4 [0, 1, 3, 7] [] [_, _, (fun _ => undef), _] (fun p L w' => w0rr.heap.size ≤ w'.heap.size ∧ Below w.heap.size w w' ∧ blk w' w.heap.size (rbc (failX X i)) 52 ∧ blk w' (w.heap.size + 1) (bif L 2 then (rbc (failX X i)) else (rbc BSt.zero)) 52 ∧ blk w' x_b (rsc (failH X.h X.f i, failF X.f i)) 50) _ [(0, 17), (1, 18), (3, 5)] [0, 1, 2, 3]
  case hn => rfl
  case hB => kernel_rfl
  case hds => kernel_rfl
  case hA => (intro p; simp only [putsD, Act.put, sIT, sCZ, sCS, List.getD_cons_zero, List.getD_cons_succ]; exact rfl)
  case h0 => exact fun p => ⟨Nat.le_refl _, hB, g, r, x⟩
  case hmore => exact fun p L w1 w2 ⟨hsz, hB, g, r, x⟩ hm => ⟨Nat.le_trans hsz hm.size, hB.trans (hm.mono (Nat.le_trans hW0 hsz)), g.below hm g.lt, r.below hm r.lt, x.below hm x.lt⟩
  case hs =>
    intro more
    refine stepV 0 rfl rfl (fun _ _ _ h => h) ?_ ?_
    · rintro p L w1 ⟨hsz, hB, g, r, x⟩ hk
      have L2 : L 2 = false := hk.2.2 2 rfl
      first | exact valR_row _ _ rfl _ rfl _ _ g _ Tryz.underlying52 rfl (by first | kernel_rfl | (rw [rbc_size]; kernel_rfl)) rfl | (have hc := g.cellIs (show _[0]? = some _ from rfl); go_simp; exact ⟨rfl, rfl⟩)
    refine stepV _ rfl rfl (fun _ _ _ h => h) (by intros; go_simp; exact ⟨rfl, rfl⟩) ?_
    refine AllI.cons ?_ ?_
    · refine stepI_store 2 rfl (fun p => rfl) (fun p => rfl) _ _ _ rfl (fun _ => (w.heap.size + 1)) 0 (fun p => rfl) (fun p => (rbc (failX X i))) (fun p => rfl) (fun p => (rbc BSt.zero)) (fun p => (rbc (failX X i))) 52 (fun p => over_rr _ _) (fun p => by first | (rw [rbc_size, rbc_size]; decide) | simp [rbc_size, rbc_size]) (fun p => by rw [rbc_size]; kernel_rfl) (fun p => rbc_one _) ?_ ?_
      · rintro p L w1 ⟨hsz, hB, g, r, x⟩ hk
        have L2 : L 2 = false := hk.1
        rw [L2] at r
        try simp only [cond_true, cond_false] at r
        exact r
      · rintro p L w1 ⟨hsz, hB, g, r, x⟩ hk
        have L2 : L 2 = false := hk.1
        skip
        refine ⟨(by simpa using hsz), Below.setRow hB (by first | exact Nat.le_trans hW0 hp.1 | exact ge_r | omega | (have := hB.size; simp at this ⊢; omega)) _, g.rowOther (by first | exact ne_g_r | exact Ne.symm ne_r_g | omega) _, ?_, x.rowOther (Ne.symm ne_r_x) _⟩
        rw [show upL L 2 2 = true from rfl]
        exact r.row _
    refine stepV _ rfl rfl (fun _ _ _ h => h) (by intros; go_simp; exact ⟨rfl, rfl⟩) ?_
    exact AllI.nil
  case hV0 => exact fun p q => AllI.nil
  case he =>
  clear hB g r x
  rintro p w0rrr ⟨hsz, hB, g, r, x⟩
  replace r : blk w0rrr (w.heap.size + 1) (rbc (failX X i)) 52 := r
  clear lt_g lt_r lt_x hsz hW0
  go_wp2_with (fail)
  refine bodyPost_ret (results_vec rfl _ _ _ _ _ _ _ rfl r Tryz.underlying52 rfl (by first | kernel_rfl | (rw [rbc_size]; kernel_rfl))) rfl ?_
  refine ⟨?_, hB⟩
  rfl
set_option maxRecDepth 100000 in
set_option maxHeartbeats 2000000 in
theorem rbmom_any (X : BSt) (w : World) (hQ : ∀ i, i < 4 → I64 (X.Q i)) (hI : SI X.h X.f) : Calls Tryz.prog 48 #[.agg (rbc X)] w fun e w' => e = .returned (.agg (vfn (momF X))) ∧ Below w.heap.size w w' := by
  have BA := Lib.hid (fun w => rqback_any X.Q X.T w hQ)
  have SM := Lib.hid (fun w => rsum_any X.h w hI.b)
  have SU := Lib.hid (fun w => rvsub_any (qbackF X.Q X.T) (sumW X.h) w (sumW_I hI))
  rw [show vsubF (qbackF X.Q X.T) (sumW X.h) = momF X from rfl] at SU
  clear hQ hI
  go_enter Tryz.func48, Tryz.ntmps48
  go_upto_region 1 with (fail)
  simp only [zero_vec]
  have g : blk ((w.alloc (.cells (rbc X) 52)).alloc (.cells (vfn fun _ => 0) 27)) w.heap.size (rbc X) 52 := (blk.new _ _ _).alloc _
  have r : blk ((w.alloc (.cells (rbc X) 52)).alloc (.cells (vfn fun _ => 0) 27)) (w.heap.size + 1) (vfn fun _ => 0) 27 := blk.new' (by simp)
  have hB : Below w.heap.size w ((w.alloc (.cells (rbc X) 52)).alloc (.cells (vfn fun _ => 0) 27)) := by go_grown
  generalize ((w.alloc (.cells (rbc X) 52)).alloc (.cells (vfn fun _ => 0) 27)) = w0 at *
  have lt_g := g.lt
  have lt_r := r.lt
  have hW0 : w.heap.size ≤ w0.heap.size := by simpa using hB.size
  apply wp_region_Q 11 [0, 1, 3, 7, 15, 31, 63, 127, 255, 511, 1023] [8] [_, _, _, _, _, _, _, _, (fun p => .pointer (some ⟨p 8, 0, none⟩)), (fun _ => undef), _] (fun p L w' => w0.heap.size ≤ w'.heap.size ∧ Below w.heap.size w w' ∧ blk w' w.heap.size (rbc X) 52 ∧ blk w' (w.heap.size + 1) (vfn fun _ => 0) 27 ∧ (L 8 = true → w0.heap.size ≤ p 8 ∧ blk w' (p 8) (bif L 9 then (vfn (qbackF X.Q X.T)) else (vfn fun _ => 0)) 27)) _ [(0, 8), (1, 9), (2, 10), (3, 11), (4, 12), (5, 7), (6, 13), (7, 14), (8, 3), (10, 4)] [0, 1, 2, 3, 4, 5, 6, 7, 8, 9, 10]
  case hn => rfl
  case hB => kernel_rfl
  case hds => kernel_rfl
  case hA => (intro p; simp only [putsD, Act.put, sIT, sCZ, sCS, List.getD_cons_zero, List.getD_cons_succ]; exact rfl)
  case h0 => exact fun p => ⟨Nat.le_refl _, hB, g, r, fun h => absurd h (by decide)⟩
  case hmore => exact fun p L w1 w2 ⟨hsz, hB, g, r, h_x⟩ hm => ⟨Nat.le_trans hsz hm.size, hB.trans (hm.mono (Nat.le_trans hW0 hsz)), g.below hm g.lt, r.below hm r.lt, fun hl => ⟨(h_x hl).1, (h_x hl).2.below hm (h_x hl).2.lt⟩⟩
  case hs =>
    intro more
    refine stepV _ rfl rfl (fun _ _ _ h => h) (by intros; go_simp; exact ⟨rfl, rfl⟩) ?_
    refine stepV 1 rfl rfl (fun _ _ _ h => h) ?_ ?_
    · rintro p L w1 ⟨hsz, hB, g, r, h_x⟩ hk
      have L9 : L 9 = false := hk.2.2 9 rfl
      exact valR_part _ _ rfl _ 0 rfl _ _ g (qfn X.Q) (rb_q X) _ Tryz.underlying31 rfl (by rw [qfn_size]; kernel_rfl) rfl
    refine stepV _ rfl rfl (fun _ _ _ h => h) (by intros; go_simp; exact ⟨rfl, rfl⟩) ?_
    refine stepV 3 rfl rfl (fun _ _ _ h => h) ?_ ?_
    · rintro p L w1 ⟨hsz, hB, g, r, h_x⟩ hk
      have L9 : L 9 = false := hk.2.2 9 rfl
      exact valR_part _ _ rfl _ 4 rfl _ _ g (vfn X.T) (rb_t X) _ Tryz.underlying27 rfl (by rw [vfn_size]; kernel_rfl) rfl
    refine stepD 4 rfl (fun p => rfl) (fun _ _ _ h => h) more ?_ ?_
    · rintro p L w1 ⟨hsz, hB, g, r, h_x⟩ hk
      go_simp
      refine (BA.out _).mono ?_
      rintro e w2 ⟨rfl, h2⟩
      first | exact ⟨rfl, h2⟩ | (subst h2; exact ⟨rfl, Below.refl _ _⟩)
    iterate 3 (refine stepV _ rfl rfl (fun _ _ _ h => h) (by intros; go_simp; exact ⟨rfl, rfl⟩) ?_)
    refine AllI.cons ?_ ?_
    · refine stepI_alloc 8 rfl (fun p => rfl) rfl (vfn fun _ => 0) 27 (fun p => rfl) ?_ ?_
      · intro p w1
        go_simp
        first | rfl | rw [zero_vec]
      rintro p L w1 ⟨hsz, hB, g, r, h_x⟩ hk
      have L9 : L 9 = false := hk.2.2 9 rfl
      refine ⟨Nat.le_trans hsz (by simp), hB.alloc (Nat.le_trans (by first | exact hW0 | (have := hB.size; simp at this ⊢; omega)) hsz) _, g.alloc _, r.alloc _, fun _ => ⟨hsz, ?_⟩⟩
      rw [show upL L 8 9 = false from L9]
      exact blk.new _ _ _
    refine AllI.cons ?_ ?_
    · refine stepI_store 9 rfl (fun p => rfl) (fun p => rfl) _ _ _ rfl (fun p => p 8) 0 (fun p => rfl) (fun p => (vfn (qbackF X.Q X.T))) (fun p => rfl) (fun p => (vfn fun _ => 0)) (fun p => (vfn (qbackF X.Q X.T))) 27 (fun p => over_v _ _) (fun p => by first | (rw [vfn_size, vfn_size]; decide) | simp [vfn_size, vfn_size]) (fun p => by rw [vfn_size]; kernel_rfl) (fun p => vfn_one _) ?_ ?_
      · rintro p L w1 ⟨hsz, hB, g, r, h_x⟩ hk
        have L9 : L 9 = false := hk.1
        have hh := (h_x (hk.2.1 8 rfl)).2
        rw [L9] at hh
        try simp only [cond_true, cond_false] at hh
        exact hh
      · rintro p L w1 ⟨hsz, hB, g, r, h_x⟩ hk
        have L9 : L 9 = false := hk.1
        skip
        have hp := h_x (hk.2.1 8 rfl)
        refine ⟨(by simpa using hsz), Below.setRow hB (by first | exact Nat.le_trans hW0 hp.1 | exact ge_x | omega | (have := hB.size; simp at this ⊢; omega)) _, g.rowOther (by first | exact Nat.ne_of_lt (Nat.lt_of_lt_of_le lt_g hp.1) | omega) _, r.rowOther (by first | exact Nat.ne_of_lt (Nat.lt_of_lt_of_le lt_r hp.1) | omega) _, fun _ => ⟨hp.1, ?_⟩⟩
        rw [show upL L 9 9 = true from rfl]
        exact hp.2.row _
    refine stepV _ rfl rfl (fun _ _ _ h => h) (by intros; go_simp; exact ⟨rfl, rfl⟩) ?_
    exact AllI.nil
  case hV0 =>
    intro p q
    refine AllI.cons ?_ ?_
    · skip
      iterate 11 (refine AllI.cons (by first | exact .inl rfl | (refine .inr ?_; simp only [List.getD_cons_zero, List.getD_cons_succ]; done) | exact .inr rfl) ?_)
      exact AllI.nil
    exact AllI.nil
  case he =>
  clear hB g r
  rintro p w0r ⟨hsz, hB, g, r, h_x⟩
  obtain ⟨le_x, x⟩ := h_x rfl
  clear h_x
  replace x : blk w0r (p 8) (vfn (qbackF X.Q X.T)) 27 := x
  have ne_g_x : w.heap.size ≠ p 8 := Nat.ne_of_lt (Nat.lt_of_lt_of_le lt_g le_x)
  have ne_r_x : (w.heap.size + 1) ≠ p 8 := Nat.ne_of_lt (Nat.lt_of_lt_of_le lt_r le_x)
  have ge_x : w.heap.size ≤ p 8 := Nat.le_trans hW0 le_x
  generalize p 8 = x_b at *
  clear lt_g lt_r hsz hW0 BA
  go_upto_region 2 with (fail)
  have lt_g := g.lt
  have lt_r := r.lt
  have lt_x := x.lt
  have hW0 : w.heap.size ≤ w0r.heap.size := by simpa using hB.size
  apply wp_region_I 12 [0, 0, 2, 6, 14, 31, 63, 127, 127, 0, 767, 2047] [9] [_, _, _, _, _, _, _, _, _, (fun p => .pointer (some ⟨p 9, 0, none⟩)), (fun _ => undef), _] (fun p L w' => w0r.heap.size ≤ w'.heap.size ∧ Below w.heap.size w w' ∧ blk w' w.heap.size (rbc X) 52 ∧ blk w' (w.heap.size + 1) (vfn fun _ => 0) 27 ∧ blk w' x_b (vfn (qbackF X.Q X.T)) 27 ∧ (L 9 = true → w0r.heap.size ≤ p 9 ∧ blk w' (p 9) (bif L 10 then (vfn (momF X)) else (vfn fun _ => 0)) 27)) _ [(0, 16), (1, 17), (2, 18), (3, 19), (4, 20), (5, 21), (6, 15), (7, 22), (8, 23), (9, 5), (11, 6)] [0, 1, 2, 3, 4, 5, 6, 7, 8, 9, 10, 11]
  case hn => rfl
  case hm => kernel_rfl
  case hB => kernel_rfl
  case hds => kernel_rfl
  case hA => (intro p; simp only [putsD, Act.put, sIT, sCZ, sCS, List.getD_cons_zero, List.getD_cons_succ]; exact rfl)
  case h0 => exact fun p => ⟨Nat.le_refl _, hB.drew, g.drew, r.drew, x.drew, fun h => absurd h (by decide)⟩
  case hmore => exact fun p L w1 w2 ⟨hsz, hB, g, r, x, h_l⟩ hm => ⟨Nat.le_trans hsz hm.size, hB.trans (hm.mono (Nat.le_trans hW0 hsz)), g.below hm g.lt, r.below hm r.lt, x.below hm x.lt, fun hl => ⟨(h_l hl).1, (h_l hl).2.below hm (h_l hl).2.lt⟩⟩
  case hs =>
    intro more
    refine stepV 0 rfl rfl (fun _ _ _ h => h) ?_ ?_
    · rintro p L w1 ⟨hsz, hB, g, r, x, h_l⟩ hk
      have L10 : L 10 = false := hk.2.2 10 rfl
      first | exact valR_row _ _ rfl _ rfl _ _ x _ Tryz.underlying27 rfl (by first | kernel_rfl | (rw [vfn_size]; kernel_rfl)) rfl | (have hc := x.cellIs (vfn_get _ (show 0 < 3 by omega)); go_simp; exact ⟨rfl, rfl⟩)
    iterate 2 (refine stepV _ rfl rfl (fun _ _ _ h => h) (by intros; go_simp; exact ⟨rfl, rfl⟩) ?_)
    refine stepV 3 rfl rfl (fun _ _ _ h => h) ?_ ?_
    · rintro p L w1 ⟨hsz, hB, g, r, x, h_l⟩ hk
      have L10 : L 10 = false := hk.2.2 10 rfl
      exact valR_part _ _ rfl _ 7 rfl _ _ g (qfn X.h) (rb_h X) _ Tryz.underlying28 rfl (by rw [qfn_size]; kernel_rfl) rfl
    refine stepD 4 rfl (fun p => rfl) (fun _ _ _ h => h) more ?_ ?_
    · rintro p L w1 ⟨hsz, hB, g, r, x, h_l⟩ hk
      go_simp
      refine (SM.out _).mono ?_
      rintro e w2 ⟨rfl, h2⟩
      first | exact ⟨rfl, h2⟩ | (subst h2; exact ⟨rfl, Below.refl _ _⟩)
    refine stepD 5 rfl (fun p => rfl) (fun _ _ _ h => h) more ?_ ?_
    · rintro p L w1 ⟨hsz, hB, g, r, x, h_l⟩ hk
      go_simp
      refine (SU.out _).mono ?_
      rintro e w2 ⟨rfl, h2⟩
      first | exact ⟨rfl, h2⟩ | (subst h2; exact ⟨rfl, Below.refl _ _⟩)
    iterate 3 (refine stepV _ rfl rfl (fun _ _ _ h => h) (by intros; go_simp; exact ⟨rfl, rfl⟩) ?_)
    refine AllI.cons ?_ ?_
    · refine stepI_alloc 9 rfl (fun p => rfl) rfl (vfn fun _ => 0) 27 (fun p => rfl) ?_ ?_
      · intro p w1
        go_simp
        first | rfl | rw [zero_vec]
      rintro p L w1 ⟨hsz, hB, g, r, x, h_l⟩ hk
      have L10 : L 10 = false := hk.2.2 10 rfl
      refine ⟨Nat.le_trans hsz (by simp), hB.alloc (Nat.le_trans (by first | exact hW0 | (have := hB.size; simp at this ⊢; omega)) hsz) _, g.alloc _, r.alloc _, x.alloc _, fun _ => ⟨hsz, ?_⟩⟩
      rw [show upL L 9 10 = false from L10]
      exact blk.new _ _ _
    refine AllI.cons ?_ ?_
    · refine stepI_store 10 rfl (fun p => rfl) (fun p => rfl) _ _ _ rfl (fun p => p 9) 0 (fun p => rfl) (fun p => (vfn (momF X))) (fun p => rfl) (fun p => (vfn fun _ => 0)) (fun p => (vfn (momF X))) 27 (fun p => over_v _ _) (fun p => by first | (rw [vfn_size, vfn_size]; decide) | simp [vfn_size, vfn_size]) (fun p => by rw [vfn_size]; kernel_rfl) (fun p => vfn_one _) ?_ ?_
      · rintro p L w1 ⟨hsz, hB, g, r, x, h_l⟩ hk
        have L10 : L 10 = false := hk.1
        have hh := (h_l (hk.2.1 9 rfl)).2
        rw [L10] at hh
        try simp only [cond_true, cond_false] at hh
        exact hh
      · rintro p L w1 ⟨hsz, hB, g, r, x, h_l⟩ hk
        have L10 : L 10 = false := hk.1
        skip
        have hp := h_l (hk.2.1 9 rfl)
        refine ⟨(by simpa using hsz), Below.setRow hB (by first | exact Nat.le_trans hW0 hp.1 | exact ge_l | omega | (have := hB.size; simp at this ⊢; omega)) _, g.rowOther (by first | exact Nat.ne_of_lt (Nat.lt_of_lt_of_le lt_g hp.1) | omega) _, r.rowOther (by first | exact Nat.ne_of_lt (Nat.lt_of_lt_of_le lt_r hp.1) | omega) _, x.rowOther (by first | exact Nat.ne_of_lt (Nat.lt_of_lt_of_le lt_x hp.1) | omega) _, fun _ => ⟨hp.1, ?_⟩⟩
        rw [show upL L 10 10 = true from rfl]
        exact hp.2.row _
    refine stepV _ rfl rfl (fun _ _ _ h => h) (by intros; go_simp; exact ⟨rfl, rfl⟩) ?_
    exact AllI.nil
  case hV0 =>
    intro p q
    refine AllI.cons ?_ ?_
    · skip
      iterate 12 (refine AllI.cons (by first | exact .inl rfl | (refine .inr ?_; simp only [List.getD_cons_zero, List.getD_cons_succ]; done) | exact .inr rfl) ?_)
      exact AllI.nil
    exact AllI.nil
  case he =>
  clear hB g r x
  rintro p w0rr ⟨hsz, hB, g, r, x, h_l⟩
  obtain ⟨le_l, l⟩ := h_l rfl
  clear h_l
  replace l : blk w0rr (p 9) (vfn (momF X)) 27 := l
  have ne_g_l : w.heap.size ≠ p 9 := Nat.ne_of_lt (Nat.lt_of_lt_of_le lt_g le_l)
  have ne_r_l : (w.heap.size + 1) ≠ p 9 := Nat.ne_of_lt (Nat.lt_of_lt_of_le lt_r le_l)
  have ne_x_l : x_b ≠ p 9 := Nat.ne_of_lt (Nat.lt_of_lt_of_le lt_x le_l)
  have ge_l : w.heap.size ≤ p 9 := Nat.le_trans hW0 le_l
  generalize p 9 = l_b at *
  clear lt_g lt_r lt_x hsz hW0 SM SU
  go_upto_region 3 with (fail)
  have lt_g := g.lt
  have lt_r := r.lt
  have lt_x := x.lt
  have lt_l := l.lt
  have hW0 : w.heap.size ≤ w0rr.heap.size := by simpa using hB.size
  apply wp_region_Q 2 [0, 1] [] [_, (fun _ => undef)] (fun p L w' => w0rr.heap.size ≤ w'.heap.size ∧ Below w.heap.size w w' ∧ blk w' w.heap.size (rbc X) 52 ∧ blk w' (w.heap.size + 1) (bif L 1 then (vfn (momF X)) else (vfn fun _ => 0)) 27 ∧ blk w' x_b (vfn (qbackF X.Q X.T)) 27 ∧ blk w' l_b (vfn (momF X)) 27) _ [(0, 24)] [0, 1]
  case hn => rfl
  case hB => kernel_rfl
  case hds => kernel_rfl
  case hA => (intro p; simp only [putsD, Act.put, sIT, sCZ, sCS, List.getD_cons_zero, List.getD_cons_succ]; exact rfl)
  case h0 => exact fun p => ⟨Nat.le_refl _, hB, g, r, x, l⟩
  case hmore => exact fun p L w1 w2 ⟨hsz, hB, g, r, x, l⟩ hm => ⟨Nat.le_trans hsz hm.size, hB.trans (hm.mono (Nat.le_trans hW0 hsz)), g.below hm g.lt, r.below hm r.lt, x.below hm x.lt, l.below hm l.lt⟩
  case hs =>
    intro more
    refine stepV 0 rfl rfl (fun _ _ _ h => h) ?_ ?_
    · rintro p L w1 ⟨hsz, hB, g, r, x, l⟩ hk
      have L1 : L 1 = false := hk.2.2 1 rfl
      first | exact valR_row _ _ rfl _ rfl _ _ l _ Tryz.underlying27 rfl (by first | kernel_rfl | (rw [vfn_size]; kernel_rfl)) rfl | (have hc := l.cellIs (vfn_get _ (show 0 < 3 by omega)); go_simp; exact ⟨rfl, rfl⟩)
    refine AllI.cons ?_ ?_
    · refine stepI_store 1 rfl (fun p => rfl) (fun p => rfl) _ _ _ rfl (fun _ => (w.heap.size + 1)) 0 (fun p => rfl) (fun p => (vfn (momF X))) (fun p => rfl) (fun p => (vfn fun _ => 0)) (fun p => (vfn (momF X))) 27 (fun p => over_v _ _) (fun p => by first | (rw [vfn_size, vfn_size]; decide) | simp [vfn_size, vfn_size]) (fun p => by rw [vfn_size]; kernel_rfl) (fun p => vfn_one _) ?_ ?_
      · rintro p L w1 ⟨hsz, hB, g, r, x, l⟩ hk
        have L1 : L 1 = false := hk.1
        rw [L1] at r
        try simp only [cond_true, cond_false] at r
        exact r
      · rintro p L w1 ⟨hsz, hB, g, r, x, l⟩ hk
        have L1 : L 1 = false := hk.1
        skip
        refine ⟨(by simpa using hsz), Below.setRow hB (by first | exact Nat.le_trans hW0 hp.1 | exact ge_r | omega | (have := hB.size; simp at this ⊢; omega)) _, g.rowOther (by first | exact ne_g_r | exact Ne.symm ne_r_g | omega) _, ?_, x.rowOther (Ne.symm ne_r_x) _, l.rowOther (Ne.symm ne_r_l) _⟩
        rw [show upL L 1 1 = true from rfl]
        exact r.row _
    exact AllI.nil
  case hV0 => exact fun p q => AllI.nil
  case he =>
  clear hB g r x l
  rintro p w0rrr ⟨hsz, hB, g, r, x, l⟩
  replace r : blk w0rrr (w.heap.size + 1) (vfn (momF X)) 27 := r
  clear lt_g lt_r lt_x lt_l hsz hW0
  go_wp2_with (fail)
  refine bodyPost_ret (results_cell_row rfl _ _ _ _ _ _ _ rfl r Tryz.underlying27 rfl (by first | kernel_rfl | (rw [vfn_size]; kernel_rfl))) rfl ?_
  refine ⟨?_, hB⟩
  rfl
set_option maxRecDepth 100000 in
set_option maxHeartbeats 2000000 in
theorem rbrate_any (X : BSt) (w : World) (hQ : ∀ i, i < 4 → I64 (X.Q i)) (hI : SI X.h X.f) : Calls Tryz.prog 49 #[.agg (rbc X)] w fun e w' => e = .returned (.agg (vfn (mulF 4 (momF X)))) ∧ Below w.heap.size w w' := by
  have e0 : IntKind.i64.wrap (4 * momF X 0) = mulF 4 (momF X) 0 := by have := mom_ok X.Q X.T X.h 0 (by omega); unfold mulF momF; rw [IntKind.wrap_i64]; omega
  have e1 : IntKind.i64.wrap (4 * momF X 1) = mulF 4 (momF X) 1 := by have := mom_ok X.Q X.T X.h 1 (by omega); unfold mulF momF; rw [IntKind.wrap_i64]; omega
  have e2 : IntKind.i64.wrap (4 * momF X 2) = mulF 4 (momF X) 2 := by have := mom_ok X.Q X.T X.h 2 (by omega); unfold mulF momF; rw [IntKind.wrap_i64]; omega
  have MO := Lib.hid (fun w => rbmom_any X w hQ hI)
  clear hQ hI
  go_enter Tryz.func49, Tryz.ntmps49
  go_upto_region 1 with (fail)
  simp only [zero_vec]
  have g : blk ((w.alloc (.cells (rbc X) 52)).alloc (.cells (vfn fun _ => 0) 27)) w.heap.size (rbc X) 52 := (blk.new _ _ _).alloc _
  have r : blk ((w.alloc (.cells (rbc X) 52)).alloc (.cells (vfn fun _ => 0) 27)) (w.heap.size + 1) (vfn fun _ => 0) 27 := blk.new' (by simp)
  have hB : Below w.heap.size w ((w.alloc (.cells (rbc X) 52)).alloc (.cells (vfn fun _ => 0) 27)) := by go_grown
  generalize ((w.alloc (.cells (rbc X) 52)).alloc (.cells (vfn fun _ => 0) 27)) = w0 at *
  have lt_g := g.lt
  have lt_r := r.lt
  have hW0 : w.heap.size ≤ w0.heap.size := by simpa using hB.size
  apply wp_region_Q 4 [0, 1, 3, 7] [2] [_, _, (fun p => .pointer (some ⟨p 2, 0, none⟩)), (fun _ => undef)] (fun p L w' => w0.heap.size ≤ w'.heap.size ∧ Below w.heap.size w w' ∧ blk w' w.heap.size (rbc X) 52 ∧ blk w' (w.heap.size + 1) (vfn fun _ => 0) 27 ∧ (L 2 = true → w0.heap.size ≤ p 2 ∧ blk w' (p 2) (bif L 3 then (vfn (momF X)) else (vfn fun _ => 0)) 27)) _ [(0, 4), (1, 5), (2, 3)] [0, 1, 2, 3]
  case hn => rfl
  case hB => kernel_rfl
  case hds => kernel_rfl
  case hA => (intro p; simp only [putsD, Act.put, sIT, sCZ, sCS, List.getD_cons_zero, List.getD_cons_succ]; exact rfl)
  case h0 => exact fun p => ⟨Nat.le_refl _, hB, g, r, fun h => absurd h (by decide)⟩
  case hmore => exact fun p L w1 w2 ⟨hsz, hB, g, r, h_x⟩ hm => ⟨Nat.le_trans hsz hm.size, hB.trans (hm.mono (Nat.le_trans hW0 hsz)), g.below hm g.lt, r.below hm r.lt, fun hl => ⟨(h_x hl).1, (h_x hl).2.below hm (h_x hl).2.lt⟩⟩
  case hs =>
    intro more
    refine stepV 0 rfl rfl (fun _ _ _ h => h) ?_ ?_
    · rintro p L w1 ⟨hsz, hB, g, r, h_x⟩ hk
      have L3 : L 3 = false := hk.2.2 3 rfl
      first | exact valR_row _ _ rfl _ rfl _ _ g _ Tryz.underlying52 rfl (by first | kernel_rfl | (rw [rbc_size]; kernel_rfl)) rfl | (have hc := g.cellIs (show _[0]? = some _ from rfl); go_simp; exact ⟨rfl, rfl⟩)
    refine stepD 1 rfl (fun p => rfl) (fun _ _ _ h => h) more ?_ ?_
    · rintro p L w1 ⟨hsz, hB, g, r, h_x⟩ hk
      go_simp
      refine (MO.out _).mono ?_
      rintro e w2 ⟨rfl, h2⟩
      first | exact ⟨rfl, h2⟩ | (subst h2; exact ⟨rfl, Below.refl _ _⟩)
    refine AllI.cons ?_ ?_
    · refine stepI_alloc 2 rfl (fun p => rfl) rfl (vfn fun _ => 0) 27 (fun p => rfl) ?_ ?_
      · intro p w1
        go_simp
        first | rfl | rw [zero_vec]
      rintro p L w1 ⟨hsz, hB, g, r, h_x⟩ hk
      have L3 : L 3 = false := hk.2.2 3 rfl
      refine ⟨Nat.le_trans hsz (by simp), hB.alloc (Nat.le_trans (by first | exact hW0 | (have := hB.size; simp at this ⊢; omega)) hsz) _, g.alloc _, r.alloc _, fun _ => ⟨hsz, ?_⟩⟩
      rw [show upL L 2 3 = false from L3]
      exact blk.new _ _ _
    refine AllI.cons ?_ ?_
    · refine stepI_store 3 rfl (fun p => rfl) (fun p => rfl) _ _ _ rfl (fun p => p 2) 0 (fun p => rfl) (fun p => (vfn (momF X))) (fun p => rfl) (fun p => (vfn fun _ => 0)) (fun p => (vfn (momF X))) 27 (fun p => over_v _ _) (fun p => by first | (rw [vfn_size, vfn_size]; decide) | simp [vfn_size, vfn_size]) (fun p => by rw [vfn_size]; kernel_rfl) (fun p => vfn_one _) ?_ ?_
      · rintro p L w1 ⟨hsz, hB, g, r, h_x⟩ hk
        have L3 : L 3 = false := hk.1
        have hh := (h_x (hk.2.1 2 rfl)).2
        rw [L3] at hh
        try simp only [cond_true, cond_false] at hh
        exact hh
      · rintro p L w1 ⟨hsz, hB, g, r, h_x⟩ hk
        have L3 : L 3 = false := hk.1
        skip
        have hp := h_x (hk.2.1 2 rfl)
        refine ⟨(by simpa using hsz), Below.setRow hB (by first | exact Nat.le_trans hW0 hp.1 | exact ge_x | omega | (have := hB.size; simp at this ⊢; omega)) _, g.rowOther (by first | exact Nat.ne_of_lt (Nat.lt_of_lt_of_le lt_g hp.1) | omega) _, r.rowOther (by first | exact Nat.ne_of_lt (Nat.lt_of_lt_of_le lt_r hp.1) | omega) _, fun _ => ⟨hp.1, ?_⟩⟩
        rw [show upL L 3 3 = true from rfl]
        exact hp.2.row _
    exact AllI.nil
  case hV0 =>
    intro p q
    refine AllI.cons ?_ ?_
    · skip
      iterate 4 (refine AllI.cons (by first | exact .inl rfl | (refine .inr ?_; simp only [List.getD_cons_zero, List.getD_cons_succ]; done) | exact .inr rfl) ?_)
      exact AllI.nil
    exact AllI.nil
  case he =>
  clear hB g r
  rintro p w0r ⟨hsz, hB, g, r, h_x⟩
  obtain ⟨le_x, x⟩ := h_x rfl
  clear h_x
  replace x : blk w0r (p 2) (vfn (momF X)) 27 := x
  have ne_g_x : w.heap.size ≠ p 2 := Nat.ne_of_lt (Nat.lt_of_lt_of_le lt_g le_x)
  have ne_r_x : (w.heap.size + 1) ≠ p 2 := Nat.ne_of_lt (Nat.lt_of_lt_of_le lt_r le_x)
  have ge_x : w.heap.size ≤ p 2 := Nat.le_trans hW0 le_x
  generalize p 2 = x_b at *
  clear lt_g lt_r hsz hW0 MO
  go_upto_region 2 with (fail)
  have lt_g := g.lt
  have lt_r := r.lt
  have lt_x := x.lt
  have hW0 : w.heap.size ≤ w0r.heap.size := by simpa using hB.size
  apply wp_region_Q 11 [0, 1, 3, 7, 15, 31, 63, 127, 255, 511, 1023] [] [_, _, _, _, _, _, _, _, _, _, (fun _ => undef)] (fun p L w' => w0r.heap.size ≤ w'.heap.size ∧ Below w.heap.size w w' ∧ blk w' w.heap.size (rbc X) 52 ∧ blk w' (w.heap.size + 1) (bif L 10 then (vfn (mulF 4 (momF X))) else (vfn fun _ => 0)) 27 ∧ blk w' x_b (vfn (momF X)) 27) _ [(0, 6), (1, 7), (2, 8), (3, 9), (4, 10), (5, 11), (6, 12), (7, 13), (8, 14), (9, 15)] [0, 1, 2, 3, 4, 5, 6, 7, 8, 9, 10]
  case hn => rfl
  case hB => kernel_rfl
  case hds => kernel_rfl
  case hA => (intro p; simp only [putsD, Act.put, sIT, sCZ, sCS, List.getD_cons_zero, List.getD_cons_succ]; exact rfl)
  case h0 => exact fun p => ⟨Nat.le_refl _, hB, g, r, x⟩
  case hmore => exact fun p L w1 w2 ⟨hsz, hB, g, r, x⟩ hm => ⟨Nat.le_trans hsz hm.size, hB.trans (hm.mono (Nat.le_trans hW0 hsz)), g.below hm g.lt, r.below hm r.lt, x.below hm x.lt⟩
  case hs =>
    intro more
    refine stepV _ rfl rfl (fun _ _ _ h => h) (by intros; go_simp; exact ⟨rfl, rfl⟩) ?_
    refine stepV 1 rfl rfl (fun _ _ _ h => h) ?_ ?_
    · rintro p L w1 ⟨hsz, hB, g, r, x⟩ hk
      have L10 : L 10 = false := hk.2.2 10 rfl
      have hc : w1.cell? ⟨x_b, 0, none⟩ = some (.int .i64 (momF X 0)) := x.cellIs (vfn_get _ (by omega))
      go_simp
      exact ⟨rfl, rfl⟩
    iterate 2 (refine stepV _ rfl rfl (fun _ _ _ h => h) (by intros; go_simp; exact ⟨rfl, rfl⟩) ?_)
    refine stepV 4 rfl rfl (fun _ _ _ h => h) ?_ ?_
    · rintro p L w1 ⟨hsz, hB, g, r, x⟩ hk
      have L10 : L 10 = false := hk.2.2 10 rfl
      have hc : w1.cell? ⟨x_b, 1, none⟩ = some (.int .i64 (momF X 1)) := x.cellIs (vfn_get _ (by omega))
      go_simp
      exact ⟨rfl, rfl⟩
    iterate 2 (refine stepV _ rfl rfl (fun _ _ _ h => h) (by intros; go_simp; exact ⟨rfl, rfl⟩) ?_)
    refine stepV 7 rfl rfl (fun _ _ _ h => h) ?_ ?_
    · rintro p L w1 ⟨hsz, hB, g, r, x⟩ hk
      have L10 : L 10 = false := hk.2.2 10 rfl
      have hc : w1.cell? ⟨x_b, 2, none⟩ = some (.int .i64 (momF X 2)) := x.cellIs (vfn_get _ (by omega))
      go_simp
      exact ⟨rfl, rfl⟩
    refine stepV _ rfl rfl (fun _ _ _ h => h) (by intros; go_simp; exact ⟨rfl, rfl⟩) ?_
    refine stepV 9 rfl rfl (fun _ _ _ h => h) ?_ ?_
    · intros; (try simp only [vfn, qfn]); go_simp; exact ⟨rfl, rfl⟩
    refine AllI.cons ?_ ?_
    · refine stepI_store 10 rfl (fun p => rfl) (fun p => rfl) _ _ _ rfl (fun _ => (w.heap.size + 1)) 0 (fun p => rfl) (fun p => (vfn (mulF 4 (momF X)))) (fun p => (congrArg Value.agg (vfn_of (mulF 4 (momF X))))) (fun p => (vfn fun _ => 0)) (fun p => (vfn (mulF 4 (momF X)))) 27 (fun p => over_v _ _) (fun p => by first | (rw [vfn_size, vfn_size]; decide) | simp [vfn_size, vfn_size]) (fun p => by rw [vfn_size]; kernel_rfl) (fun p => vfn_one _) ?_ ?_
      · rintro p L w1 ⟨hsz, hB, g, r, x⟩ hk
        have L10 : L 10 = false := hk.1
        rw [L10] at r
        try simp only [cond_true, cond_false] at r
        exact r
      · rintro p L w1 ⟨hsz, hB, g, r, x⟩ hk
        have L10 : L 10 = false := hk.1
        skip
        refine ⟨(by simpa using hsz), Below.setRow hB (by first | exact Nat.le_trans hW0 hp.1 | exact ge_r | omega | (have := hB.size; simp at this ⊢; omega)) _, g.rowOther (by first | exact ne_g_r | exact Ne.symm ne_r_g | omega) _, ?_, x.rowOther (Ne.symm ne_r_x) _⟩
        rw [show upL L 10 10 = true from rfl]
        exact r.row _
    exact AllI.nil
  case hV0 => exact fun p q => AllI.nil
  case he =>
  clear hB g r x
  rintro p w0rr ⟨hsz, hB, g, r, x⟩
  replace r : blk w0rr (w.heap.size + 1) (vfn (mulF 4 (momF X))) 27 := r
  clear lt_g lt_r lt_x hsz hW0
  go_wp2_with (fail)
  refine bodyPost_ret (results_cell_row rfl _ _ _ _ _ _ _ rfl r Tryz.underlying27 rfl (by first | kernel_rfl | (rw [vfn_size]; kernel_rfl))) rfl ?_
  refine ⟨?_, hB⟩
  rfl
end Go.Proofs.YtjnocbjngojigaaGreat
namespace Go.Proofs.YtjnocbjngojigaaGreat
open Go.RowKit PM Dt
set_option maxRecDepth 100000 in
set_option maxHeartbeats 6000000 in
theorem rtick_no (X : BSt) (c t : Nat → Int) (w : World) (ht : smallB t 1048576 = false) : Calls Tryz.prog 21 #[.agg (rbc X), .agg (qfn c), .agg (vfn t)] w fun e w' => e = .returned (.tuple #[.agg (rbc X), .agg (vfn fun _ => 0), .int .i64 2]) ∧ Below w.heap.size w w' := by
  replace ht := Lib.hid ht
  go_enter Tryz.func21, Tryz.ntmps21
  go_upto_region 1 with (fail)
  simp only [rbc_zero, zero_vec]
  have g : blk (((((w.alloc (.cells (rbc X) 52)).alloc (.cells (qfn c) 28)).alloc (.cells (vfn t) 27)).alloc (.cells (rbc BSt.zero) 52)).alloc (.cells (vfn fun _ => 0) 27)) w.heap.size (rbc X) 52 := ((((blk.new _ _ _).alloc _).alloc _).alloc _).alloc _
  have cv : blk (((((w.alloc (.cells (rbc X) 52)).alloc (.cells (qfn c) 28)).alloc (.cells (vfn t) 27)).alloc (.cells (rbc BSt.zero) 52)).alloc (.cells (vfn fun _ => 0) 27)) (w.heap.size + 1) (qfn c) 28 := (((blk.new' (by simp)).alloc _).alloc _).alloc _
  have tv : blk (((((w.alloc (.cells (rbc X) 52)).alloc (.cells (qfn c) 28)).alloc (.cells (vfn t) 27)).alloc (.cells (rbc BSt.zero) 52)).alloc (.cells (vfn fun _ => 0) 27)) (w.heap.size + 2) (vfn t) 27 := ((blk.new' (by simp)).alloc _).alloc _
  have r1 : blk (((((w.alloc (.cells (rbc X) 52)).alloc (.cells (qfn c) 28)).alloc (.cells (vfn t) 27)).alloc (.cells (rbc BSt.zero) 52)).alloc (.cells (vfn fun _ => 0) 27)) (w.heap.size + 3) (rbc BSt.zero) 52 := (blk.new' (by simp)).alloc _
  have r2 : blk (((((w.alloc (.cells (rbc X) 52)).alloc (.cells (qfn c) 28)).alloc (.cells (vfn t) 27)).alloc (.cells (rbc BSt.zero) 52)).alloc (.cells (vfn fun _ => 0) 27)) (w.heap.size + 4) (vfn fun _ => 0) 27 := blk.new' (by simp)
  have hB : Below w.heap.size w (((((w.alloc (.cells (rbc X) 52)).alloc (.cells (qfn c) 28)).alloc (.cells (vfn t) 27)).alloc (.cells (rbc BSt.zero) 52)).alloc (.cells (vfn fun _ => 0) 27)) := by go_grown
  generalize (((((w.alloc (.cells (rbc X) 52)).alloc (.cells (qfn c) 28)).alloc (.cells (vfn t) 27)).alloc (.cells (rbc BSt.zero) 52)).alloc (.cells (vfn fun _ => 0) 27)) = w0 at *
  go_wp2_with (fail)
  go_loopg [9] 3 (fun g_ iv wr => ∃ k : Nat, g_ + k = 3 ∧ iv = .int .i64 k ∧ Hid (∀ j, j < k → sb 1048576 (t j) = true) ∧ blk wr w.heap.size (rbc X) 52 ∧ blk wr (w.heap.size + 1) (qfn c) 28 ∧ blk wr (w.heap.size + 2) (vfn t) 27 ∧ blk wr (w.heap.size + 3) (rbc BSt.zero) 52 ∧ blk wr (w.heap.size + 4) (vfn fun _ => 0) 27 ∧ Below w.heap.size w wr)
  case atStart => exact ⟨0, rfl, rfl, fun j hj => by omega, g, cv, tv, r1, r2, hB⟩
  case round =>
    clear g cv tv r1 r2 hB
    obtain ⟨k, hk, rfl, hall, g, cv, tv, r1, r2, hB⟩ := hrel
    by_cases hkn : k < 3
    · have hdk : decide ((k : Int) < 3) = true := decide_eq_true (by omega)
      have hdk' : decide (k < 3) = true := decide_eq_true (by omega)
      have hk3 : (k : Int) < 3 := by omega
      have hw3 : IntKind.i64.wrap ((k : Int) + 1) = ((k + 1 : Nat) : Int) := by rw [IntKind.wrap_i64]; omega
      have hck : wr.cell? ⟨(w.heap.size + 2), k, none⟩ = some (.int .i64 (t k)) := tv.cellIs (vfn_get _ hkn)
      by_cases h1 : -1048576 ≤ t k
      · have d1 : decide (t k < -1048576) = false := decide_eq_false (by omega)
        by_cases h2 : t k ≤ 1048576
        · have d2 : decide (1048576 < t k) = false := decide_eq_false (by omega)
          have HV := Lib.hid ((sb_iff _ _).2 ⟨h1, h2⟩)
          clear h1 h2
          go_wp2_with (fail)
          go_roundg (3 - (k + 1))
          case rel =>
            refine ⟨k + 1, by omega, rfl, fun j hj => ?_, g, cv, tv, r1, r2, hB⟩
            by_cases e : j = k
            · subst e; exact HV.out
            · exact hall.out j (by omega)
          case measure => omega
        · have d2 : decide (1048576 < t k) = true := decide_eq_true (by omega)
          clear h1 h2
          go_upto_region 5 with (fail)
          have lt_g := g.lt
          have lt_cv := cv.lt
          have lt_tv := tv.lt
          have lt_r1 := r1.lt
          have lt_r2 := r2.lt
          have hW0 : w.heap.size ≤ wr.heap.size := by simpa using hB.size
          apply wp_region_Q 5 [0, 1, 3, 7, 15] [] [_, _, (fun _ => undef), (fun _ => undef), _] (fun p L w' => wr.heap.size ≤ w'.heap.size ∧ Below w.heap.size w w' ∧ blk w' w.heap.size (rbc X) 52 ∧ blk w' (w.heap.size + 1) (qfn c) 28 ∧ blk w' (w.heap.size + 2) (vfn t) 27 ∧ blk w' (w.heap.size + 3) (bif L 2 then (rbc X) else (rbc BSt.zero)) 52 ∧ blk w' (w.heap.size + 4) (bif L 3 then (vfn (fun _ => 0)) else (vfn fun _ => 0)) 27) _ [(0, 29), (1, 30), (4, 8)] [0, 1, 2, 3, 4]
          case hn => rfl
          case hB => kernel_rfl
          case hds => kernel_rfl
          case hA => (intro p; simp only [putsD, Act.put, sIT, sCZ, sCS, List.getD_cons_zero, List.getD_cons_succ]; exact rfl)
          case h0 => exact fun p => ⟨Nat.le_refl _, hB, g, cv, tv, r1, r2⟩
          case hmore => exact fun p L w1 w2 ⟨hsz, hB, g, cv, tv, r1, r2⟩ hm => ⟨Nat.le_trans hsz hm.size, hB.trans (hm.mono (Nat.le_trans hW0 hsz)), g.below hm g.lt, cv.below hm cv.lt, tv.below hm tv.lt, r1.below hm r1.lt, r2.below hm r2.lt⟩
          case hs =>
            intro more
            refine stepV 0 rfl rfl (fun _ _ _ h => h) ?_ ?_
            · rintro p L w1 ⟨hsz, hB, g, cv, tv, r1, r2⟩ hk
              have L2 : L 2 = false := hk.2.2 2 rfl
              have L3 : L 3 = false := hk.2.2 3 rfl
              first | exact valR_row _ _ rfl _ rfl _ _ g _ Tryz.underlying52 rfl (by first | kernel_rfl | (rw [rbc_size]; kernel_rfl)) rfl | (have hc := g.cellIs (show _[0]? = some _ from rfl); go_simp; exact ⟨rfl, rfl⟩)
            refine AllI.cons ?_ ?_
            · refine stepI_val 1 rfl (fun p => rfl) ?_ (fun _ _ _ h => h)
              intros; (try simp only [vfn]); go_simp; exact ⟨rfl, rfl⟩
            refine AllI.cons ?_ ?_
            · refine stepI_store 2 rfl (fun p => rfl) (fun p => rfl) _ _ _ rfl (fun _ => (w.heap.size + 3)) 0 (fun p => rfl) (fun p => (rbc X)) (fun p => rfl) (fun p => (rbc BSt.zero)) (fun p => (rbc X)) 52 (fun p => over_rr _ _) (fun p => by first | (rw [rbc_size, rbc_size]; decide) | simp [rbc_size, rbc_size]) (fun p => by rw [rbc_size]; kernel_rfl) (fun p => rbc_one _) ?_ ?_
              · rintro p L w1 ⟨hsz, hB, g, cv, tv, r1, r2⟩ hk
                have L2 : L 2 = false := hk.1
                have L3 : L 3 = false := hk.2.2 3 rfl
                rw [L2] at r1
                try simp only [cond_true, cond_false] at r1
                exact r1
              · rintro p L w1 ⟨hsz, hB, g, cv, tv, r1, r2⟩ hk
                have L2 : L 2 = false := hk.1
                have L3 : L 3 = false := hk.2.2 3 rfl
                skip
                refine ⟨(by simpa using hsz), Below.setRow hB (by first | exact Nat.le_trans hW0 hp.1 | exact ge_r1 | omega | (have := hB.size; simp at this ⊢; omega)) _, g.rowOther (by first | exact ne_g_r1 | exact Ne.symm ne_r1_g | omega) _, cv.rowOther (by first | exact ne_cv_r1 | exact Ne.symm ne_r1_cv | omega) _, tv.rowOther (by first | exact ne_tv_r1 | exact Ne.symm ne_r1_tv | omega) _, ?_, r2.rowOther (by first | exact ne_r2_r1 | exact Ne.symm ne_r1_r2 | omega) _⟩
                rw [show upL L 2 2 = true from rfl]
                exact r1.row _
            refine AllI.cons ?_ ?_
            · refine stepI_store 3 rfl (fun p => rfl) (fun p => rfl) _ _ _ rfl (fun _ => (w.heap.size + 4)) 0 (fun p => rfl) (fun p => (vfn (fun _ => 0))) (fun p => congrArg Value.agg zero_vec) (fun p => (vfn fun _ => 0)) (fun p => (vfn (fun _ => 0))) 27 (fun p => over_v _ _) (fun p => by first | (rw [vfn_size, vfn_size]; decide) | simp [vfn_size, vfn_size]) (fun p => by rw [vfn_size]; kernel_rfl) (fun p => vfn_one _) ?_ ?_
              · rintro p L w1 ⟨hsz, hB, g, cv, tv, r1, r2⟩ hk
                have L2 : L 2 = true := hk.2.1 2 rfl
                have L3 : L 3 = false := hk.1
                rw [L3] at r2
                try simp only [cond_true, cond_false] at r2
                exact r2
              · rintro p L w1 ⟨hsz, hB, g, cv, tv, r1, r2⟩ hk
                have L2 : L 2 = true := hk.2.1 2 rfl
                have L3 : L 3 = false := hk.1
                skip
                refine ⟨(by simpa using hsz), Below.setRow hB (by first | exact Nat.le_trans hW0 hp.1 | exact ge_r2 | omega | (have := hB.size; simp at this ⊢; omega)) _, g.rowOther (by first | exact ne_g_r2 | exact Ne.symm ne_r2_g | omega) _, cv.rowOther (by first | exact ne_cv_r2 | exact Ne.symm ne_r2_cv | omega) _, tv.rowOther (by first | exact ne_tv_r2 | exact Ne.symm ne_r2_tv | omega) _, r1.rowOther (by first | exact ne_r1_r2 | exact Ne.symm ne_r2_r1 | omega) _, ?_⟩
                rw [show upL L 3 3 = true from rfl]
                exact r2.row _
            refine stepV _ rfl rfl (fun _ _ _ h => h) (by intros; go_simp; exact ⟨rfl, rfl⟩) ?_
            exact AllI.nil
          case hV0 => exact fun p q => AllI.nil
          case he =>
          clear hB g cv tv r1 r2
          rintro p wrr ⟨hsz, hB, g, cv, tv, r1, r2⟩
          replace r1 : blk wrr (w.heap.size + 3) (rbc X) 52 := r1
          replace r2 : blk wrr (w.heap.size + 4) (vfn (fun _ => 0)) 27 := r2
          clear lt_g lt_cv lt_tv lt_r1 lt_r2 hsz hW0
          go_wp2_with (fail)
          refine bodyPost_ret (results_cct rfl _ _ _ _ _ _ _ _ _ _ _ _ rfl r1 rfl r2 Tryz.underlying52 rfl (by first | kernel_rfl | (rw [rbc_size]; kernel_rfl)) Tryz.underlying27 rfl (by first | kernel_rfl | (rw [vfn_size]; kernel_rfl))) rfl ?_
          refine ⟨?_, hB⟩
          rfl
      · have d1 : decide (t k < -1048576) = true := decide_eq_true (by omega)
        clear h1
        go_upto_region 5 with (fail)
        have lt_g := g.lt
        have lt_cv := cv.lt
        have lt_tv := tv.lt
        have lt_r1 := r1.lt
        have lt_r2 := r2.lt
        have hW0 : w.heap.size ≤ wr.heap.size := by simpa using hB.size
        apply wp_region_Q 5 [0, 1, 3, 7, 15] [] [_, _, (fun _ => undef), (fun _ => undef), _] (fun p L w' => wr.heap.size ≤ w'.heap.size ∧ Below w.heap.size w w' ∧ blk w' w.heap.size (rbc X) 52 ∧ blk w' (w.heap.size + 1) (qfn c) 28 ∧ blk w' (w.heap.size + 2) (vfn t) 27 ∧ blk w' (w.heap.size + 3) (bif L 2 then (rbc X) else (rbc BSt.zero)) 52 ∧ blk w' (w.heap.size + 4) (bif L 3 then (vfn (fun _ => 0)) else (vfn fun _ => 0)) 27) _ [(0, 29), (1, 30), (4, 8)] [0, 1, 2, 3, 4]
        case hn => rfl
        case hB => kernel_rfl
        case hds => kernel_rfl
        case hA => (intro p; simp only [putsD, Act.put, sIT, sCZ, sCS, List.getD_cons_zero, List.getD_cons_succ]; exact rfl)
        case h0 => exact fun p => ⟨Nat.le_refl _, hB, g, cv, tv, r1, r2⟩
        case hmore => exact fun p L w1 w2 ⟨hsz, hB, g, cv, tv, r1, r2⟩ hm => ⟨Nat.le_trans hsz hm.size, hB.trans (hm.mono (Nat.le_trans hW0 hsz)), g.below hm g.lt, cv.below hm cv.lt, tv.below hm tv.lt, r1.below hm r1.lt, r2.below hm r2.lt⟩
        case hs =>
          intro more
          refine stepV 0 rfl rfl (fun _ _ _ h => h) ?_ ?_
          · rintro p L w1 ⟨hsz, hB, g, cv, tv, r1, r2⟩ hk
            have L2 : L 2 = false := hk.2.2 2 rfl
            have L3 : L 3 = false := hk.2.2 3 rfl
            first | exact valR_row _ _ rfl _ rfl _ _ g _ Tryz.underlying52 rfl (by first | kernel_rfl | (rw [rbc_size]; kernel_rfl)) rfl | (have hc := g.cellIs (show _[0]? = some _ from rfl); go_simp; exact ⟨rfl, rfl⟩)
          refine AllI.cons ?_ ?_
          · refine stepI_val 1 rfl (fun p => rfl) ?_ (fun _ _ _ h => h)
            intros; (try simp only [vfn]); go_simp; exact ⟨rfl, rfl⟩
          refine AllI.cons ?_ ?_
          · refine stepI_store 2 rfl (fun p => rfl) (fun p => rfl) _ _ _ rfl (fun _ => (w.heap.size + 3)) 0 (fun p => rfl) (fun p => (rbc X)) (fun p => rfl) (fun p => (rbc BSt.zero)) (fun p => (rbc X)) 52 (fun p => over_rr _ _) (fun p => by first | (rw [rbc_size, rbc_size]; decide) | simp [rbc_size, rbc_size]) (fun p => by rw [rbc_size]; kernel_rfl) (fun p => rbc_one _) ?_ ?_
            · rintro p L w1 ⟨hsz, hB, g, cv, tv, r1, r2⟩ hk
              have L2 : L 2 = false := hk.1
              have L3 : L 3 = false := hk.2.2 3 rfl
              rw [L2] at r1
              try simp only [cond_true, cond_false] at r1
              exact r1
            · rintro p L w1 ⟨hsz, hB, g, cv, tv, r1, r2⟩ hk
              have L2 : L 2 = false := hk.1
              have L3 : L 3 = false := hk.2.2 3 rfl
              skip
              refine ⟨(by simpa using hsz), Below.setRow hB (by first | exact Nat.le_trans hW0 hp.1 | exact ge_r1 | omega | (have := hB.size; simp at this ⊢; omega)) _, g.rowOther (by first | exact ne_g_r1 | exact Ne.symm ne_r1_g | omega) _, cv.rowOther (by first | exact ne_cv_r1 | exact Ne.symm ne_r1_cv | omega) _, tv.rowOther (by first | exact ne_tv_r1 | exact Ne.symm ne_r1_tv | omega) _, ?_, r2.rowOther (by first | exact ne_r2_r1 | exact Ne.symm ne_r1_r2 | omega) _⟩
              rw [show upL L 2 2 = true from rfl]
              exact r1.row _
          refine AllI.cons ?_ ?_
          · refine stepI_store 3 rfl (fun p => rfl) (fun p => rfl) _ _ _ rfl (fun _ => (w.heap.size + 4)) 0 (fun p => rfl) (fun p => (vfn (fun _ => 0))) (fun p => congrArg Value.agg zero_vec) (fun p => (vfn fun _ => 0)) (fun p => (vfn (fun _ => 0))) 27 (fun p => over_v _ _) (fun p => by first | (rw [vfn_size, vfn_size]; decide) | simp [vfn_size, vfn_size]) (fun p => by rw [vfn_size]; kernel_rfl) (fun p => vfn_one _) ?_ ?_
            · rintro p L w1 ⟨hsz, hB, g, cv, tv, r1, r2⟩ hk
              have L2 : L 2 = true := hk.2.1 2 rfl
              have L3 : L 3 = false := hk.1
              rw [L3] at r2
              try simp only [cond_true, cond_false] at r2
              exact r2
            · rintro p L w1 ⟨hsz, hB, g, cv, tv, r1, r2⟩ hk
              have L2 : L 2 = true := hk.2.1 2 rfl
              have L3 : L 3 = false := hk.1
              skip
              refine ⟨(by simpa using hsz), Below.setRow hB (by first | exact Nat.le_trans hW0 hp.1 | exact ge_r2 | omega | (have := hB.size; simp at this ⊢; omega)) _, g.rowOther (by first | exact ne_g_r2 | exact Ne.symm ne_r2_g | omega) _, cv.rowOther (by first | exact ne_cv_r2 | exact Ne.symm ne_r2_cv | omega) _, tv.rowOther (by first | exact ne_tv_r2 | exact Ne.symm ne_r2_tv | omega) _, r1.rowOther (by first | exact ne_r1_r2 | exact Ne.symm ne_r2_r1 | omega) _, ?_⟩
              rw [show upL L 3 3 = true from rfl]
              exact r2.row _
          refine stepV _ rfl rfl (fun _ _ _ h => h) (by intros; go_simp; exact ⟨rfl, rfl⟩) ?_
          exact AllI.nil
        case hV0 => exact fun p q => AllI.nil
        case he =>
        clear hB g cv tv r1 r2
        rintro p wrr ⟨hsz, hB, g, cv, tv, r1, r2⟩
        replace r1 : blk wrr (w.heap.size + 3) (rbc X) 52 := r1
        replace r2 : blk wrr (w.heap.size + 4) (vfn (fun _ => 0)) 27 := r2
        clear lt_g lt_cv lt_tv lt_r1 lt_r2 hsz hW0
        go_wp2_with (fail)
        refine bodyPost_ret (results_cct rfl _ _ _ _ _ _ _ _ _ _ _ _ rfl r1 rfl r2 Tryz.underlying52 rfl (by first | kernel_rfl | (rw [rbc_size]; kernel_rfl)) Tryz.underlying27 rfl (by first | kernel_rfl | (rw [vfn_size]; kernel_rfl))) rfl ?_
        refine ⟨?_, hB⟩
        rfl
    · obtain rfl : k = 3 := by omega
      exact absurd ((smallB_iff t _).2 hall.out) (by rw [ht.out]; decide)
set_option maxRecDepth 100000 in
set_option maxHeartbeats 24000000 in
theorem rtick_ok (X : BSt) (c t : Nat → Int) (w : World) (hQ : ∀ i, i < 4 → I64 (X.Q i)) (hI : SI X.h X.f) (ht : smallB t 1048576 = true) (hQ2 : ∀ i, i < 4 → I64 ((attG X.Q (tickL X c)) i)) : Calls Tryz.prog 21 #[.agg (rbc X), .agg (qfn c), .agg (vfn t)] w fun e w' => e = .returned (.tuple #[.agg (rbc ⟨(attG X.Q (tickL X c)), bif allB (vaddF X.T (qrotF (attG X.Q (tickL X c)) t)) then (vaddF X.T (qrotF (attG X.Q (tickL X c)) t)) else X.T, tickH X c, X.f⟩), .agg (vfn (bif allB (vaddF X.T (qrotF (attG X.Q (tickL X c)) t)) then (qrotF (attG X.Q (tickL X c)) t) else fun _ => 0)), .int .i64 0]) ∧ Below w.heap.size w w' := by
  have HT := Lib.hid (fun k hk => (sb_iff _ _).1 ((smallB_iff t _).1 ht k hk))
  have ST := Lib.hid (fun w => rwstep_any X.h X.f c w hI.b)
  rw [show stpF X.h X.f c = tickH X c from rfl] at ST
  have MO := Lib.hid (fun w => rbmom_any ⟨X.Q, X.T, tickH X c, X.f⟩ w hQ (hI.step c))
  rw [show momF ⟨X.Q, X.T, tickH X c, X.f⟩ = tickL X c from rfl] at MO
  obtain ⟨z, hz⟩ : ∃ z, zV (tickL X c) = z := ⟨_, rfl⟩
  have EQ := vec_eq0 (tickL X c)
  simp only [hz] at EQ
  have HL := mom_ok X.Q X.T (tickH X c)
  have m0 : IntKind.i64.wrap (2 * tickL X c 0) = mulF 2 (tickL X c) 0 := by have := HL 0 (by omega); rw [IntKind.wrap_i64]; unfold mulF tickL; omega
  have m1 : IntKind.i64.wrap (2 * tickL X c 1) = mulF 2 (tickL X c) 1 := by have := HL 1 (by omega); rw [IntKind.wrap_i64]; unfold mulF tickL; omega
  have m2 : IntKind.i64.wrap (2 * tickL X c 2) = mulF 2 (tickL X c) 2 := by have := HL 2 (by omega); rw [IntKind.wrap_i64]; unfold mulF tickL; omega
  have TU := Lib.hid (fun w => rturn_any X.Q (mulF 2 (tickL X c)) w hQ)
  obtain ⟨Q2, hq⟩ : ∃ Q2, Q2 = attG X.Q (tickL X c) := ⟨_, rfl⟩
  rw [← hq] at hQ2 ⊢
  have hqz : Hid (z = true ∧ Q2 = X.Q ∨ z = false ∧ turnF X.Q (mulF 2 (tickL X c)) = Q2) := by
    rw [hq]; unfold attG; rw [hz]; unfold Hid; cases z <;> simp
  have RO := Lib.hid (fun w => rqrot_any Q2 t w hQ2)
  have AD := Lib.hid (fun w => rvadd_any X.T (qrotF Q2 t) w)
  have AL := Lib.hid (fun w => rallowed_any (vaddF X.T (qrotF Q2 t)) w)
  obtain ⟨al, ha⟩ : ∃ al, allB (vaddF X.T (qrotF Q2 t)) = al := ⟨_, rfl⟩
  rw [ha] at AL ⊢
  clear hQ hI ht hz HL hQ2 ha hq
  go_enter Tryz.func21, Tryz.ntmps21
  go_upto_region 1 with (fail)
  simp only [rbc_zero, zero_vec]
  have g : blk (((((w.alloc (.cells (rbc X) 52)).alloc (.cells (qfn c) 28)).alloc (.cells (vfn t) 27)).alloc (.cells (rbc BSt.zero) 52)).alloc (.cells (vfn fun _ => 0) 27)) w.heap.size (rbc X) 52 := ((((blk.new _ _ _).alloc _).alloc _).alloc _).alloc _
  have cv : blk (((((w.alloc (.cells (rbc X) 52)).alloc (.cells (qfn c) 28)).alloc (.cells (vfn t) 27)).alloc (.cells (rbc BSt.zero) 52)).alloc (.cells (vfn fun _ => 0) 27)) (w.heap.size + 1) (qfn c) 28 := (((blk.new' (by simp)).alloc _).alloc _).alloc _
  have tv : blk (((((w.alloc (.cells (rbc X) 52)).alloc (.cells (qfn c) 28)).alloc (.cells (vfn t) 27)).alloc (.cells (rbc BSt.zero) 52)).alloc (.cells (vfn fun _ => 0) 27)) (w.heap.size + 2) (vfn t) 27 := ((blk.new' (by simp)).alloc _).alloc _
  have r1 : blk (((((w.alloc (.cells (rbc X) 52)).alloc (.cells (qfn c) 28)).alloc (.cells (vfn t) 27)).alloc (.cells (rbc BSt.zero) 52)).alloc (.cells (vfn fun _ => 0) 27)) (w.heap.size + 3) (rbc BSt.zero) 52 := (blk.new' (by simp)).alloc _
  have r2 : blk (((((w.alloc (.cells (rbc X) 52)).alloc (.cells (qfn c) 28)).alloc (.cells (vfn t) 27)).alloc (.cells (rbc BSt.zero) 52)).alloc (.cells (vfn fun _ => 0) 27)) (w.heap.size + 4) (vfn fun _ => 0) 27 := blk.new' (by simp)
  have hB : Below w.heap.size w (((((w.alloc (.cells (rbc X) 52)).alloc (.cells (qfn c) 28)).alloc (.cells (vfn t) 27)).alloc (.cells (rbc BSt.zero) 52)).alloc (.cells (vfn fun _ => 0) 27)) := by go_grown
  generalize (((((w.alloc (.cells (rbc X) 52)).alloc (.cells (qfn c) 28)).alloc (.cells (vfn t) 27)).alloc (.cells (rbc BSt.zero) 52)).alloc (.cells (vfn fun _ => 0) 27)) = w0 at *
  go_wp2_with (fail)
  go_loopg [9] 3 (fun g_ iv wr => ∃ k : Nat, g_ + k = 3 ∧ iv = .int .i64 k ∧ blk wr w.heap.size (rbc X) 52 ∧ blk wr (w.heap.size + 1) (qfn c) 28 ∧ blk wr (w.heap.size + 2) (vfn t) 27 ∧ blk wr (w.heap.size + 3) (rbc BSt.zero) 52 ∧ blk wr (w.heap.size + 4) (vfn fun _ => 0) 27 ∧ Below w.heap.size w wr)
  case atStart => exact ⟨0, rfl, rfl, g, cv, tv, r1, r2, hB⟩
  case round =>
    clear g cv tv r1 r2 hB
    obtain ⟨k, hk, rfl, g, cv, tv, r1, r2, hB⟩ := hrel
    by_cases hkn : k < 3
    · have hdk : decide ((k : Int) < 3) = true := decide_eq_true (by omega)
      have hdk' : decide (k < 3) = true := decide_eq_true (by omega)
      have hk3 : (k : Int) < 3 := by omega
      have hw3 : IntKind.i64.wrap ((k : Int) + 1) = ((k + 1 : Nat) : Int) := by rw [IntKind.wrap_i64]; omega
      have hck : wr.cell? ⟨(w.heap.size + 2), k, none⟩ = some (.int .i64 (t k)) := tv.cellIs (vfn_get _ hkn)
      have HK := HT.out k hkn
      have d1 : decide (t k < -1048576) = false := decide_eq_false (by omega)
      have d2 : decide (1048576 < t k) = false := decide_eq_false (by omega)
      clear HK
      go_wp2_with (fail)
      go_roundg (3 - (k + 1))
      case rel =>
        exact ⟨k + 1, by omega, rfl, g, cv, tv, r1, r2, hB⟩
      case measure => omega
    · obtain rfl : k = 3 := by omega
      go_upto_region 6 with (fail)
      have lt_g := g.lt
      have lt_cv := cv.lt
      have lt_tv := tv.lt
      have lt_r1 := r1.lt
      have lt_r2 := r2.lt
      have hW0 : w.heap.size ≤ wr.heap.size := by simpa using hB.size
      apply wp_region_Q 6 [0, 1, 3, 7, 15, 31] [] [_, _, _, _, _, (fun _ => undef)] (fun p L w' => wr.heap.size ≤ w'.heap.size ∧ Below w.heap.size w w' ∧ blk w' w.heap.size (bif L 5 then (rbc ⟨X.Q, X.T, tickH X c, X.f⟩) else (rbc X)) 52 ∧ blk w' (w.heap.size + 1) (qfn c) 28 ∧ blk w' (w.heap.size + 2) (vfn t) 27 ∧ blk w' (w.heap.size + 3) (rbc BSt.zero) 52 ∧ blk w' (w.heap.size + 4) (vfn fun _ => 0) 27) _ [(0, 31), (1, 32), (2, 33), (3, 34), (4, 35)] [0, 1, 2, 3, 4, 5]
      case hn => rfl
      case hB => kernel_rfl
      case hds => kernel_rfl
      case hA => (intro p; simp only [putsD, Act.put, sIT, sCZ, sCS, List.getD_cons_zero, List.getD_cons_succ]; exact rfl)
      case h0 => exact fun p => ⟨Nat.le_refl _, hB, g, cv, tv, r1, r2⟩
      case hmore => exact fun p L w1 w2 ⟨hsz, hB, g, cv, tv, r1, r2⟩ hm => ⟨Nat.le_trans hsz hm.size, hB.trans (hm.mono (Nat.le_trans hW0 hsz)), g.below hm g.lt, cv.below hm cv.lt, tv.below hm tv.lt, r1.below hm r1.lt, r2.below hm r2.lt⟩
      case hs =>
        intro more
        refine stepV _ rfl rfl (fun _ _ _ h => h) (by intros; go_simp; exact ⟨rfl, rfl⟩) ?_
        refine stepV 1 rfl rfl (fun _ _ _ h => h) ?_ ?_
        · rintro p L w1 ⟨hsz, hB, g, cv, tv, r1, r2⟩ hk
          have L5 : L 5 = false := hk.2.2 5 rfl
          rw [L5] at g
          try simp only [cond_true, cond_false] at g
          exact valR_part _ _ rfl _ 7 rfl _ _ g (rsc (X.h, X.f)) (rb_s X) _ Tryz.underlying50 rfl (by rw [rsc_size]; kernel_rfl) rfl
        refine stepV 2 rfl rfl (fun _ _ _ h => h) ?_ ?_
        · rintro p L w1 ⟨hsz, hB, g, cv, tv, r1, r2⟩ hk
          have L5 : L 5 = false := hk.2.2 5 rfl
          first | exact valR_row _ _ rfl _ rfl _ _ cv _ Tryz.underlying28 rfl (by first | kernel_rfl | (rw [qfn_size]; kernel_rfl)) rfl | (have hc := cv.cellIs (qfn_get _ (show 0 < 4 by omega)); go_simp; exact ⟨rfl, rfl⟩)
        refine stepD 3 rfl (fun p => rfl) (fun _ _ _ h => h) more ?_ ?_
        · rintro p L w1 ⟨hsz, hB, g, cv, tv, r1, r2⟩ hk
          go_simp
          refine (ST.out _).mono ?_
          rintro e w2 ⟨rfl, h2⟩
          first | exact ⟨rfl, h2⟩ | (subst h2; exact ⟨rfl, Below.refl _ _⟩)
        refine stepV _ rfl rfl (fun _ _ _ h => h) (by intros; go_simp; exact ⟨rfl, rfl⟩) ?_
        refine AllI.cons ?_ ?_
        · refine stepI_store 5 rfl (fun p => rfl) (fun p => rfl) _ _ _ rfl (fun _ => w.heap.size) 7 (fun p => rfl) (fun p => (rsc (tickH X c, X.f))) (fun p => rfl) (fun p => (rbc X)) (fun p => (rbc ⟨X.Q, X.T, tickH X c, X.f⟩)) 52 (fun p => over_rs _ _ _) (fun p => by first | (rw [rsc_size, rbc_size]; decide) | simp [rsc_size, rbc_size]) (fun p => by rw [rsc_size]; kernel_rfl) (fun p => rsc_one _) ?_ ?_
          · rintro p L w1 ⟨hsz, hB, g, cv, tv, r1, r2⟩ hk
            have L5 : L 5 = false := hk.1
            rw [L5] at g
            try simp only [cond_true, cond_false] at g
            exact g
          · rintro p L w1 ⟨hsz, hB, g, cv, tv, r1, r2⟩ hk
            have L5 : L 5 = false := hk.1
            skip
            refine ⟨(by simpa using hsz), Below.setRow hB (by first | exact Nat.le_trans hW0 hp.1 | exact ge_g | omega | (have := hB.size; simp at this ⊢; omega)) _, ?_, cv.rowOther (by first | exact ne_cv_g | exact Ne.symm ne_g_cv | omega) _, tv.rowOther (by first | exact ne_tv_g | exact Ne.symm ne_g_tv | omega) _, r1.rowOther (by first | exact ne_r1_g | exact Ne.symm ne_g_r1 | omega) _, r2.rowOther (by first | exact ne_r2_g | exact Ne.symm ne_g_r2 | omega) _⟩
            rw [show upL L 5 5 = true from rfl]
            exact g.row _
        exact AllI.nil
      case hV0 => exact fun p q => AllI.nil
      case he =>
      clear hB g cv tv r1 r2
      rintro p wrr ⟨hsz, hB, g, cv, tv, r1, r2⟩
      replace g : blk wrr w.heap.size (rbc ⟨X.Q, X.T, tickH X c, X.f⟩) 52 := g
      clear lt_g lt_cv lt_tv lt_r1 lt_r2 hsz hW0 ST
      go_upto_region 7 with (fail)
      have lt_g := g.lt
      have lt_cv := cv.lt
      have lt_tv := tv.lt
      have lt_r1 := r1.lt
      have lt_r2 := r2.lt
      have hW0 : w.heap.size ≤ wrr.heap.size := by simpa using hB.size
      apply wp_region_Q 4 [0, 1, 3, 7] [2] [_, _, (fun p => .pointer (some ⟨p 2, 0, none⟩)), (fun _ => undef)] (fun p L w' => wrr.heap.size ≤ w'.heap.size ∧ Below w.heap.size w w' ∧ blk w' w.heap.size (rbc ⟨X.Q, X.T, tickH X c, X.f⟩) 52 ∧ blk w' (w.heap.size + 1) (qfn c) 28 ∧ blk w' (w.heap.size + 2) (vfn t) 27 ∧ blk w' (w.heap.size + 3) (rbc BSt.zero) 52 ∧ blk w' (w.heap.size + 4) (vfn fun _ => 0) 27 ∧ (L 2 = true → wrr.heap.size ≤ p 2 ∧ blk w' (p 2) (bif L 3 then (vfn (tickL X c)) else (vfn fun _ => 0)) 27)) _ [(0, 36), (1, 37), (2, 10)] [0, 1, 2, 3]
      case hn => rfl
      case hB => kernel_rfl
      case hds => kernel_rfl
      case hA => (intro p; simp only [putsD, Act.put, sIT, sCZ, sCS, List.getD_cons_zero, List.getD_cons_succ]; exact rfl)
      case h0 => exact fun p => ⟨Nat.le_refl _, hB, g, cv, tv, r1, r2, fun h => absurd h (by decide)⟩
      case hmore => exact fun p L w1 w2 ⟨hsz, hB, g, cv, tv, r1, r2, h_l⟩ hm => ⟨Nat.le_trans hsz hm.size, hB.trans (hm.mono (Nat.le_trans hW0 hsz)), g.below hm g.lt, cv.below hm cv.lt, tv.below hm tv.lt, r1.below hm r1.lt, r2.below hm r2.lt, fun hl => ⟨(h_l hl).1, (h_l hl).2.below hm (h_l hl).2.lt⟩⟩
      case hs =>
        intro more
        refine stepV 0 rfl rfl (fun _ _ _ h => h) ?_ ?_
        · rintro p L w1 ⟨hsz, hB, g, cv, tv, r1, r2, h_l⟩ hk
          have L3 : L 3 = false := hk.2.2 3 rfl
          first | exact valR_row _ _ rfl _ rfl _ _ g _ Tryz.underlying52 rfl (by first | kernel_rfl | (rw [rbc_size]; kernel_rfl)) rfl | (have hc := g.cellIs (show _[0]? = some _ from rfl); go_simp; exact ⟨rfl, rfl⟩)
        refine stepD 1 rfl (fun p => rfl) (fun _ _ _ h => h) more ?_ ?_
        · rintro p L w1 ⟨hsz, hB, g, cv, tv, r1, r2, h_l⟩ hk
          go_simp
          refine (MO.out _).mono ?_
          rintro e w2 ⟨rfl, h2⟩
          first | exact ⟨rfl, h2⟩ | (subst h2; exact ⟨rfl, Below.refl _ _⟩)
        refine AllI.cons ?_ ?_
        · refine stepI_alloc 2 rfl (fun p => rfl) rfl (vfn fun _ => 0) 27 (fun p => rfl) ?_ ?_
          · intro p w1
            go_simp
            first | rfl | rw [zero_vec]
          rintro p L w1 ⟨hsz, hB, g, cv, tv, r1, r2, h_l⟩ hk
          have L3 : L 3 = false := hk.2.2 3 rfl
          refine ⟨Nat.le_trans hsz (by simp), hB.alloc (Nat.le_trans (by first | exact hW0 | (have := hB.size; simp at this ⊢; omega)) hsz) _, g.alloc _, cv.alloc _, tv.alloc _, r1.alloc _, r2.alloc _, fun _ => ⟨hsz, ?_⟩⟩
          rw [show upL L 2 3 = false from L3]
          exact blk.new _ _ _
        refine AllI.cons ?_ ?_
        · refine stepI_store 3 rfl (fun p => rfl) (fun p => rfl) _ _ _ rfl (fun p => p 2) 0 (fun p => rfl) (fun p => (vfn (tickL X c))) (fun p => rfl) (fun p => (vfn fun _ => 0)) (fun p => (vfn (tickL X c))) 27 (fun p => over_v _ _) (fun p => by first | (rw [vfn_size, vfn_size]; decide) | simp [vfn_size, vfn_size]) (fun p => by rw [vfn_size]; kernel_rfl) (fun p => vfn_one _) ?_ ?_
          · rintro p L w1 ⟨hsz, hB, g, cv, tv, r1, r2, h_l⟩ hk
            have L3 : L 3 = false := hk.1
            have hh := (h_l (hk.2.1 2 rfl)).2
            rw [L3] at hh
            try simp only [cond_true, cond_false] at hh
            exact hh
          · rintro p L w1 ⟨hsz, hB, g, cv, tv, r1, r2, h_l⟩ hk
            have L3 : L 3 = false := hk.1
            skip
            have hp := h_l (hk.2.1 2 rfl)
            refine ⟨(by simpa using hsz), Below.setRow hB (by first | exact Nat.le_trans hW0 hp.1 | exact ge_l | omega | (have := hB.size; simp at this ⊢; omega)) _, g.rowOther (by first | exact Nat.ne_of_lt (Nat.lt_of_lt_of_le lt_g hp.1) | omega) _, cv.rowOther (by first | exact Nat.ne_of_lt (Nat.lt_of_lt_of_le lt_cv hp.1) | omega) _, tv.rowOther (by first | exact Nat.ne_of_lt (Nat.lt_of_lt_of_le lt_tv hp.1) | omega) _, r1.rowOther (by first | exact Nat.ne_of_lt (Nat.lt_of_lt_of_le lt_r1 hp.1) | omega) _, r2.rowOther (by first | exact Nat.ne_of_lt (Nat.lt_of_lt_of_le lt_r2 hp.1) | omega) _, fun _ => ⟨hp.1, ?_⟩⟩
            rw [show upL L 3 3 = true from rfl]
            exact hp.2.row _
        exact AllI.nil
      case hV0 =>
        intro p q
        refine AllI.cons ?_ ?_
        · skip
          iterate 4 (refine AllI.cons (by first | exact .inl rfl | (refine .inr ?_; simp only [List.getD_cons_zero, List.getD_cons_succ]; done) | exact .inr rfl) ?_)
          exact AllI.nil
        exact AllI.nil
      case he =>
      clear hB g cv tv r1 r2
      rintro p wrrr ⟨hsz, hB, g, cv, tv, r1, r2, h_l⟩
      obtain ⟨le_l, l⟩ := h_l rfl
      clear h_l
      replace l : blk wrrr (p 2) (vfn (tickL X c)) 27 := l
      have ne_g_l : w.heap.size ≠ p 2 := Nat.ne_of_lt (Nat.lt_of_lt_of_le lt_g le_l)
      have ne_cv_l : (w.heap.size + 1) ≠ p 2 := Nat.ne_of_lt (Nat.lt_of_lt_of_le lt_cv le_l)
      have ne_tv_l : (w.heap.size + 2) ≠ p 2 := Nat.ne_of_lt (Nat.lt_of_lt_of_le lt_tv le_l)
      have ne_r1_l : (w.heap.size + 3) ≠ p 2 := Nat.ne_of_lt (Nat.lt_of_lt_of_le lt_r1 le_l)
      have ne_r2_l : (w.heap.size + 4) ≠ p 2 := Nat.ne_of_lt (Nat.lt_of_lt_of_le lt_r2 le_l)
      have ge_l : w.heap.size ≤ p 2 := Nat.le_trans hW0 le_l
      generalize p 2 = l_b at *
      clear lt_g lt_cv lt_tv lt_r1 lt_r2 hsz hW0 MO
      rcases hqz.out with ⟨rfl, hq⟩ | ⟨rfl, hq⟩
      case' inl =>
        rw [← hq] at g
        clear hq hqz TU m0 m1 m2
        go_upto_region 10 with (first
          | (refine wpList_load_rowG ?hw _ _ rfl _ rfl _ _ _ _ l Tryz.underlying27 rfl ?hi ?_; (case hw => (first | rfl | (simp [Region.wanted, yielded]; done))); (case hi => (first | kernel_rfl | (rw [vfn_size]; kernel_rfl)))))
        clear EQ
      case' inr =>
        rw [hq] at TU
        clear hq hqz
        go_upto_region 9 with (first
          | (refine wpList_load_rowG ?hw _ _ rfl _ rfl _ _ _ _ l Tryz.underlying27 rfl ?hi ?_; (case hw => (first | rfl | (simp [Region.wanted, yielded]; done))); (case hi => (first | kernel_rfl | (rw [vfn_size]; kernel_rfl)))))
        clear EQ
        have lt_g := g.lt
        have lt_cv := cv.lt
        have lt_tv := tv.lt
        have lt_r1 := r1.lt
        have lt_r2 := r2.lt
        have lt_l := l.lt
        have hW0 : w.heap.size ≤ wrrr.heap.size := by simpa using hB.size
        apply wp_region_Q 18 [0, 1, 3, 7, 15, 31, 63, 127, 255, 511, 1023, 2047, 4095, 8191, 16383, 32767, 65535, 131071] [] [_, _, _, _, _, _, _, _, _, _, _, _, _, _, _, _, _, (fun _ => undef)] (fun p L w' => wrrr.heap.size ≤ w'.heap.size ∧ Below w.heap.size w w' ∧ blk w' w.heap.size (bif L 17 then (rbc ⟨Q2, X.T, tickH X c, X.f⟩) else (rbc ⟨X.Q, X.T, tickH X c, X.f⟩)) 52 ∧ blk w' (w.heap.size + 1) (qfn c) 28 ∧ blk w' (w.heap.size + 2) (vfn t) 27 ∧ blk w' (w.heap.size + 3) (rbc BSt.zero) 52 ∧ blk w' (w.heap.size + 4) (vfn fun _ => 0) 27 ∧ blk w' l_b (vfn (tickL X c)) 27) _ [(0, 42), (1, 43), (2, 44), (3, 45), (4, 46), (5, 47), (6, 48), (7, 49), (8, 50), (9, 51), (10, 52), (11, 53), (12, 54), (13, 41), (14, 55), (15, 56), (16, 57)] [0, 1, 2, 3, 4, 5, 6, 7, 8, 9, 10, 11, 12, 13, 14, 15, 16, 17]
        case hn => rfl
        case hB => kernel_rfl
        case hds => kernel_rfl
        case hA => (intro p; simp only [putsD, Act.put, sIT, sCZ, sCS, List.getD_cons_zero, List.getD_cons_succ]; exact rfl)
        case h0 => exact fun p => ⟨Nat.le_refl _, hB, g, cv, tv, r1, r2, l⟩
        case hmore => exact fun p L w1 w2 ⟨hsz, hB, g, cv, tv, r1, r2, l⟩ hm => ⟨Nat.le_trans hsz hm.size, hB.trans (hm.mono (Nat.le_trans hW0 hsz)), g.below hm g.lt, cv.below hm cv.lt, tv.below hm tv.lt, r1.below hm r1.lt, r2.below hm r2.lt, l.below hm l.lt⟩
        case hs =>
          intro more
          refine stepV _ rfl rfl (fun _ _ _ h => h) (by intros; go_simp; exact ⟨rfl, rfl⟩) ?_
          refine stepV 1 rfl rfl (fun _ _ _ h => h) ?_ ?_
          · rintro p L w1 ⟨hsz, hB, g, cv, tv, r1, r2, l⟩ hk
            have L17 : L 17 = false := hk.2.2 17 rfl
            rw [L17] at g
            try simp only [cond_true, cond_false] at g
            exact valR_part _ _ rfl _ 0 rfl _ _ g (qfn X.Q) (rb_q ⟨X.Q, X.T, tickH X c, X.f⟩) _ Tryz.underlying31 rfl (by rw [qfn_size]; kernel_rfl) rfl
          refine stepV _ rfl rfl (fun _ _ _ h => h) (by intros; go_simp; exact ⟨rfl, rfl⟩) ?_
          refine stepV 3 rfl rfl (fun _ _ _ h => h) ?_ ?_
          · rintro p L w1 ⟨hsz, hB, g, cv, tv, r1, r2, l⟩ hk
            have L17 : L 17 = false := hk.2.2 17 rfl
            have hc : w1.cell? ⟨l_b, 0, none⟩ = some (.int .i64 (tickL X c 0)) := l.cellIs (vfn_get _ (by omega))
            go_simp
            exact ⟨rfl, rfl⟩
          iterate 2 (refine stepV _ rfl rfl (fun _ _ _ h => h) (by intros; go_simp; exact ⟨rfl, rfl⟩) ?_)
          refine stepV 6 rfl rfl (fun _ _ _ h => h) ?_ ?_
          · rintro p L w1 ⟨hsz, hB, g, cv, tv, r1, r2, l⟩ hk
            have L17 : L 17 = false := hk.2.2 17 rfl
            have hc : w1.cell? ⟨l_b, 1, none⟩ = some (.int .i64 (tickL X c 1)) := l.cellIs (vfn_get _ (by omega))
            go_simp
            exact ⟨rfl, rfl⟩
          iterate 2 (refine stepV _ rfl rfl (fun _ _ _ h => h) (by intros; go_simp; exact ⟨rfl, rfl⟩) ?_)
          refine stepV 9 rfl rfl (fun _ _ _ h => h) ?_ ?_
          · rintro p L w1 ⟨hsz, hB, g, cv, tv, r1, r2, l⟩ hk
            have L17 : L 17 = false := hk.2.2 17 rfl
            have hc : w1.cell? ⟨l_b, 2, none⟩ = some (.int .i64 (tickL X c 2)) := l.cellIs (vfn_get _ (by omega))
            go_simp
            exact ⟨rfl, rfl⟩
          refine stepV _ rfl rfl (fun _ _ _ h => h) (by intros; go_simp; exact ⟨rfl, rfl⟩) ?_
          refine AllI.cons ?_ ?_
          · refine stepI_val 11 rfl (fun p => rfl) ?_ (fun _ _ _ h => h)
            intros; go_simp; exact ⟨congrArg Value.agg (vfn_of (mulF 2 (tickL X c))), rfl⟩
          refine stepD 12 rfl (fun p => rfl) (fun _ _ _ h => h) more ?_ ?_
          · rintro p L w1 ⟨hsz, hB, g, cv, tv, r1, r2, l⟩ hk
            go_simp
            refine (TU.out _).mono ?_
            rintro e w2 ⟨rfl, h2⟩
            first | exact ⟨rfl, h2⟩ | (subst h2; exact ⟨rfl, Below.refl _ _⟩)
          iterate 4 (refine stepV _ rfl rfl (fun _ _ _ h => h) (by intros; go_simp; exact ⟨rfl, rfl⟩) ?_)
          refine AllI.cons ?_ ?_
          · refine stepI_store 17 rfl (fun p => rfl) (fun p => rfl) _ _ _ rfl (fun _ => w.heap.size) 0 (fun p => rfl) (fun p => (qfn Q2)) (fun p => rfl) (fun p => (rbc ⟨X.Q, X.T, tickH X c, X.f⟩)) (fun p => (rbc ⟨Q2, X.T, tickH X c, X.f⟩)) 52 (fun p => over_rq _ _) (fun p => by first | (rw [qfn_size, rbc_size]; decide) | simp [qfn_size, rbc_size]) (fun p => by rw [qfn_size]; kernel_rfl) (fun p => qfn_one _) ?_ ?_
            · rintro p L w1 ⟨hsz, hB, g, cv, tv, r1, r2, l⟩ hk
              have L17 : L 17 = false := hk.1
              rw [L17] at g
              try simp only [cond_true, cond_false] at g
              exact g
            · rintro p L w1 ⟨hsz, hB, g, cv, tv, r1, r2, l⟩ hk
              have L17 : L 17 = false := hk.1
              skip
              refine ⟨(by simpa using hsz), Below.setRow hB (by first | exact Nat.le_trans hW0 hp.1 | exact ge_g | omega | (have := hB.size; simp at this ⊢; omega)) _, ?_, cv.rowOther (by first | exact ne_cv_g | exact Ne.symm ne_g_cv | omega) _, tv.rowOther (by first | exact ne_tv_g | exact Ne.symm ne_g_tv | omega) _, r1.rowOther (by first | exact ne_r1_g | exact Ne.symm ne_g_r1 | omega) _, r2.rowOther (by first | exact ne_r2_g | exact Ne.symm ne_g_r2 | omega) _, l.rowOther (Ne.symm ne_g_l) _⟩
              rw [show upL L 17 17 = true from rfl]
              exact g.row _
          exact AllI.nil
        case hV0 => exact fun p q => AllI.nil
        case' he =>
        clear hB g cv tv r1 r2 l
        rintro p wrrr ⟨hsz, hB, g, cv, tv, r1, r2, l⟩
        replace g : blk wrrr w.heap.size (rbc ⟨Q2, X.T, tickH X c, X.f⟩) 52 := g
        clear lt_g lt_cv lt_tv lt_r1 lt_r2 lt_l hsz hW0
        go_upto_region 10 with (fail)
        clear TU m0 m1 m2
      all_goals
        have lt_g := g.lt
        have lt_cv := cv.lt
        have lt_tv := tv.lt
        have lt_r1 := r1.lt
        have lt_r2 := r2.lt
        have lt_l := l.lt
        have hW0 : w.heap.size ≤ wrrr.heap.size := by simpa using hB.size
        apply wp_region_Q 10 [0, 1, 3, 7, 15, 31, 63, 127, 255, 511] [7] [_, _, _, _, _, _, _, (fun p => .pointer (some ⟨p 7, 0, none⟩)), (fun _ => undef), _] (fun p L w' => wrrr.heap.size ≤ w'.heap.size ∧ Below w.heap.size w w' ∧ blk w' w.heap.size (rbc ⟨Q2, X.T, tickH X c, X.f⟩) 52 ∧ blk w' (w.heap.size + 1) (qfn c) 28 ∧ blk w' (w.heap.size + 2) (vfn t) 27 ∧ blk w' (w.heap.size + 3) (rbc BSt.zero) 52 ∧ blk w' (w.heap.size + 4) (vfn fun _ => 0) 27 ∧ blk w' l_b (vfn (tickL X c)) 27 ∧ (L 7 = true → wrrr.heap.size ≤ p 7 ∧ blk w' (p 7) (bif L 8 then (vfn (qrotF Q2 t)) else (vfn fun _ => 0)) 27)) _ [(0, 59), (1, 60), (2, 61), (3, 62), (4, 58), (5, 63), (6, 64), (7, 11), (9, 12)] [0, 1, 2, 3, 4, 5, 6, 7, 8, 9]
        case hn => rfl
        case hB => kernel_rfl
        case hds => kernel_rfl
        case hA => (intro p; simp only [putsD, Act.put, sIT, sCZ, sCS, List.getD_cons_zero, List.getD_cons_succ]; exact rfl)
        case h0 => exact fun p => ⟨Nat.le_refl _, hB, g, cv, tv, r1, r2, l, fun h => absurd h (by decide)⟩
        case hmore => exact fun p L w1 w2 ⟨hsz, hB, g, cv, tv, r1, r2, l, h_ch⟩ hm => ⟨Nat.le_trans hsz hm.size, hB.trans (hm.mono (Nat.le_trans hW0 hsz)), g.below hm g.lt, cv.below hm cv.lt, tv.below hm tv.lt, r1.below hm r1.lt, r2.below hm r2.lt, l.below hm l.lt, fun hl => ⟨(h_ch hl).1, (h_ch hl).2.below hm (h_ch hl).2.lt⟩⟩
        case hs =>
          intro more
          refine stepV _ rfl rfl (fun _ _ _ h => h) (by intros; go_simp; exact ⟨rfl, rfl⟩) ?_
          refine stepV 1 rfl rfl (fun _ _ _ h => h) ?_ ?_
          · rintro p L w1 ⟨hsz, hB, g, cv, tv, r1, r2, l, h_ch⟩ hk
            have L8 : L 8 = false := hk.2.2 8 rfl
            exact valR_part _ _ rfl _ 0 rfl _ _ g (qfn Q2) (rb_q ⟨Q2, X.T, tickH X c, X.f⟩) _ Tryz.underlying31 rfl (by rw [qfn_size]; kernel_rfl) rfl
          refine stepV 2 rfl rfl (fun _ _ _ h => h) ?_ ?_
          · rintro p L w1 ⟨hsz, hB, g, cv, tv, r1, r2, l, h_ch⟩ hk
            have L8 : L 8 = false := hk.2.2 8 rfl
            first | exact valR_row _ _ rfl _ rfl _ _ tv _ Tryz.underlying27 rfl (by first | kernel_rfl | (rw [vfn_size]; kernel_rfl)) rfl | (have hc := tv.cellIs (vfn_get _ (show 0 < 3 by omega)); go_simp; exact ⟨rfl, rfl⟩)
          refine stepD 3 rfl (fun p => rfl) (fun _ _ _ h => h) more ?_ ?_
          · rintro p L w1 ⟨hsz, hB, g, cv, tv, r1, r2, l, h_ch⟩ hk
            go_simp
            refine (RO.out _).mono ?_
            rintro e w2 ⟨rfl, h2⟩
            first | exact ⟨rfl, h2⟩ | (subst h2; exact ⟨rfl, Below.refl _ _⟩)
          iterate 3 (refine stepV _ rfl rfl (fun _ _ _ h => h) (by intros; go_simp; exact ⟨rfl, rfl⟩) ?_)
          refine AllI.cons ?_ ?_
          · refine stepI_alloc 7 rfl (fun p => rfl) rfl (vfn fun _ => 0) 27 (fun p => rfl) ?_ ?_
            · intro p w1
              go_simp
              first | rfl | rw [zero_vec]
            rintro p L w1 ⟨hsz, hB, g, cv, tv, r1, r2, l, h_ch⟩ hk
            have L8 : L 8 = false := hk.2.2 8 rfl
            refine ⟨Nat.le_trans hsz (by simp), hB.alloc (Nat.le_trans (by first | exact hW0 | (have := hB.size; simp at this ⊢; omega)) hsz) _, g.alloc _, cv.alloc _, tv.alloc _, r1.alloc _, r2.alloc _, l.alloc _, fun _ => ⟨hsz, ?_⟩⟩
            rw [show upL L 7 8 = false from L8]
            exact blk.new _ _ _
          refine AllI.cons ?_ ?_
          · refine stepI_store 8 rfl (fun p => rfl) (fun p => rfl) _ _ _ rfl (fun p => p 7) 0 (fun p => rfl) (fun p => (vfn (qrotF Q2 t))) (fun p => rfl) (fun p => (vfn fun _ => 0)) (fun p => (vfn (qrotF Q2 t))) 27 (fun p => over_v _ _) (fun p => by first | (rw [vfn_size, vfn_size]; decide) | simp [vfn_size, vfn_size]) (fun p => by rw [vfn_size]; kernel_rfl) (fun p => vfn_one _) ?_ ?_
            · rintro p L w1 ⟨hsz, hB, g, cv, tv, r1, r2, l, h_ch⟩ hk
              have L8 : L 8 = false := hk.1
              have hh := (h_ch (hk.2.1 7 rfl)).2
              rw [L8] at hh
              try simp only [cond_true, cond_false] at hh
              exact hh
            · rintro p L w1 ⟨hsz, hB, g, cv, tv, r1, r2, l, h_ch⟩ hk
              have L8 : L 8 = false := hk.1
              skip
              have hp := h_ch (hk.2.1 7 rfl)
              refine ⟨(by simpa using hsz), Below.setRow hB (by first | exact Nat.le_trans hW0 hp.1 | exact ge_ch | omega | (have := hB.size; simp at this ⊢; omega)) _, g.rowOther (by first | exact Nat.ne_of_lt (Nat.lt_of_lt_of_le lt_g hp.1) | omega) _, cv.rowOther (by first | exact Nat.ne_of_lt (Nat.lt_of_lt_of_le lt_cv hp.1) | omega) _, tv.rowOther (by first | exact Nat.ne_of_lt (Nat.lt_of_lt_of_le lt_tv hp.1) | omega) _, r1.rowOther (by first | exact Nat.ne_of_lt (Nat.lt_of_lt_of_le lt_r1 hp.1) | omega) _, r2.rowOther (by first | exact Nat.ne_of_lt (Nat.lt_of_lt_of_le lt_r2 hp.1) | omega) _, l.rowOther (by first | exact Nat.ne_of_lt (Nat.lt_of_lt_of_le lt_l hp.1) | omega) _, fun _ => ⟨hp.1, ?_⟩⟩
              rw [show upL L 8 8 = true from rfl]
              exact hp.2.row _
          refine stepV _ rfl rfl (fun _ _ _ h => h) (by intros; go_simp; exact ⟨rfl, rfl⟩) ?_
          exact AllI.nil
        case hV0 =>
          intro p q
          refine AllI.cons ?_ ?_
          · skip
            iterate 10 (refine AllI.cons (by first | exact .inl rfl | (refine .inr ?_; simp only [List.getD_cons_zero, List.getD_cons_succ]; done) | exact .inr rfl) ?_)
            exact AllI.nil
          exact AllI.nil
        case he =>
        clear hB g cv tv r1 r2 l
        rintro p wrrrr ⟨hsz, hB, g, cv, tv, r1, r2, l, h_ch⟩
        obtain ⟨le_ch, ch⟩ := h_ch rfl
        clear h_ch
        replace ch : blk wrrrr (p 7) (vfn (qrotF Q2 t)) 27 := ch
        have ne_g_ch : w.heap.size ≠ p 7 := Nat.ne_of_lt (Nat.lt_of_lt_of_le lt_g le_ch)
        have ne_cv_ch : (w.heap.size + 1) ≠ p 7 := Nat.ne_of_lt (Nat.lt_of_lt_of_le lt_cv le_ch)
        have ne_tv_ch : (w.heap.size + 2) ≠ p 7 := Nat.ne_of_lt (Nat.lt_of_lt_of_le lt_tv le_ch)
        have ne_r1_ch : (w.heap.size + 3) ≠ p 7 := Nat.ne_of_lt (Nat.lt_of_lt_of_le lt_r1 le_ch)
        have ne_r2_ch : (w.heap.size + 4) ≠ p 7 := Nat.ne_of_lt (Nat.lt_of_lt_of_le lt_r2 le_ch)
        have ne_l_ch : l_b ≠ p 7 := Nat.ne_of_lt (Nat.lt_of_lt_of_le lt_l le_ch)
        have ge_ch : w.heap.size ≤ p 7 := Nat.le_trans hW0 le_ch
        generalize p 7 = ch_b at *
        clear lt_g lt_cv lt_tv lt_r1 lt_r2 lt_l hsz hW0 RO
        go_upto_region 11 with (fail)
        have lt_g := g.lt
        have lt_cv := cv.lt
        have lt_tv := tv.lt
        have lt_r1 := r1.lt
        have lt_r2 := r2.lt
        have lt_l := l.lt
        have lt_ch := ch.lt
        have hW0 : w.heap.size ≤ wrrrr.heap.size := by simpa using hB.size
        apply wp_region_Q 10 [0, 1, 3, 7, 15, 31, 63, 127, 255, 511] [7] [_, _, _, _, _, _, _, (fun p => .pointer (some ⟨p 7, 0, none⟩)), (fun _ => undef), _] (fun p L w' => wrrrr.heap.size ≤ w'.heap.size ∧ Below w.heap.size w w' ∧ blk w' w.heap.size (rbc ⟨Q2, X.T, tickH X c, X.f⟩) 52 ∧ blk w' (w.heap.size + 1) (qfn c) 28 ∧ blk w' (w.heap.size + 2) (vfn t) 27 ∧ blk w' (w.heap.size + 3) (rbc BSt.zero) 52 ∧ blk w' (w.heap.size + 4) (vfn fun _ => 0) 27 ∧ blk w' l_b (vfn (tickL X c)) 27 ∧ blk w' ch_b (vfn (qrotF Q2 t)) 27 ∧ (L 7 = true → wrrrr.heap.size ≤ p 7 ∧ blk w' (p 7) (bif L 8 then (vfn (vaddF X.T (qrotF Q2 t))) else (vfn fun _ => 0)) 27)) _ [(0, 66), (1, 67), (2, 68), (3, 69), (4, 65), (5, 70), (6, 71), (7, 13), (9, 14)] [0, 1, 2, 3, 4, 5, 6, 7, 8, 9]
        case hn => rfl
        case hB => kernel_rfl
        case hds => kernel_rfl
        case hA => (intro p; simp only [putsD, Act.put, sIT, sCZ, sCS, List.getD_cons_zero, List.getD_cons_succ]; exact rfl)
        case h0 => exact fun p => ⟨Nat.le_refl _, hB, g, cv, tv, r1, r2, l, ch, fun h => absurd h (by decide)⟩
        case hmore => exact fun p L w1 w2 ⟨hsz, hB, g, cv, tv, r1, r2, l, ch, h_su⟩ hm => ⟨Nat.le_trans hsz hm.size, hB.trans (hm.mono (Nat.le_trans hW0 hsz)), g.below hm g.lt, cv.below hm cv.lt, tv.below hm tv.lt, r1.below hm r1.lt, r2.below hm r2.lt, l.below hm l.lt, ch.below hm ch.lt, fun hl => ⟨(h_su hl).1, (h_su hl).2.below hm (h_su hl).2.lt⟩⟩
        case hs =>
          intro more
          refine stepV _ rfl rfl (fun _ _ _ h => h) (by intros; go_simp; exact ⟨rfl, rfl⟩) ?_
          refine stepV 1 rfl rfl (fun _ _ _ h => h) ?_ ?_
          · rintro p L w1 ⟨hsz, hB, g, cv, tv, r1, r2, l, ch, h_su⟩ hk
            have L8 : L 8 = false := hk.2.2 8 rfl
            exact valR_part _ _ rfl _ 4 rfl _ _ g (vfn X.T) (rb_t ⟨Q2, X.T, tickH X c, X.f⟩) _ Tryz.underlying27 rfl (by rw [vfn_size]; kernel_rfl) rfl
          refine stepV 2 rfl rfl (fun _ _ _ h => h) ?_ ?_
          · rintro p L w1 ⟨hsz, hB, g, cv, tv, r1, r2, l, ch, h_su⟩ hk
            have L8 : L 8 = false := hk.2.2 8 rfl
            first | exact valR_row _ _ rfl _ rfl _ _ ch _ Tryz.underlying27 rfl (by first | kernel_rfl | (rw [vfn_size]; kernel_rfl)) rfl | (have hc := ch.cellIs (vfn_get _ (show 0 < 3 by omega)); go_simp; exact ⟨rfl, rfl⟩)
          refine stepD 3 rfl (fun p => rfl) (fun _ _ _ h => h) more ?_ ?_
          · rintro p L w1 ⟨hsz, hB, g, cv, tv, r1, r2, l, ch, h_su⟩ hk
            go_simp
            refine (AD.out _).mono ?_
            rintro e w2 ⟨rfl, h2⟩
            first | exact ⟨rfl, h2⟩ | (subst h2; exact ⟨rfl, Below.refl _ _⟩)
          iterate 3 (refine stepV _ rfl rfl (fun _ _ _ h => h) (by intros; go_simp; exact ⟨rfl, rfl⟩) ?_)
          refine AllI.cons ?_ ?_
          · refine stepI_alloc 7 rfl (fun p => rfl) rfl (vfn fun _ => 0) 27 (fun p => rfl) ?_ ?_
            · intro p w1
              go_simp
              first | rfl | rw [zero_vec]
            rintro p L w1 ⟨hsz, hB, g, cv, tv, r1, r2, l, ch, h_su⟩ hk
            have L8 : L 8 = false := hk.2.2 8 rfl
            refine ⟨Nat.le_trans hsz (by simp), hB.alloc (Nat.le_trans (by first | exact hW0 | (have := hB.size; simp at this ⊢; omega)) hsz) _, g.alloc _, cv.alloc _, tv.alloc _, r1.alloc _, r2.alloc _, l.alloc _, ch.alloc _, fun _ => ⟨hsz, ?_⟩⟩
            rw [show upL L 7 8 = false from L8]
            exact blk.new _ _ _
          refine AllI.cons ?_ ?_
          · refine stepI_store 8 rfl (fun p => rfl) (fun p => rfl) _ _ _ rfl (fun p => p 7) 0 (fun p => rfl) (fun p => (vfn (vaddF X.T (qrotF Q2 t)))) (fun p => rfl) (fun p => (vfn fun _ => 0)) (fun p => (vfn (vaddF X.T (qrotF Q2 t)))) 27 (fun p => over_v _ _) (fun p => by first | (rw [vfn_size, vfn_size]; decide) | simp [vfn_size, vfn_size]) (fun p => by rw [vfn_size]; kernel_rfl) (fun p => vfn_one _) ?_ ?_
            · rintro p L w1 ⟨hsz, hB, g, cv, tv, r1, r2, l, ch, h_su⟩ hk
              have L8 : L 8 = false := hk.1
              have hh := (h_su (hk.2.1 7 rfl)).2
              rw [L8] at hh
              try simp only [cond_true, cond_false] at hh
              exact hh
            · rintro p L w1 ⟨hsz, hB, g, cv, tv, r1, r2, l, ch, h_su⟩ hk
              have L8 : L 8 = false := hk.1
              skip
              have hp := h_su (hk.2.1 7 rfl)
              refine ⟨(by simpa using hsz), Below.setRow hB (by first | exact Nat.le_trans hW0 hp.1 | exact ge_su | omega | (have := hB.size; simp at this ⊢; omega)) _, g.rowOther (by first | exact Nat.ne_of_lt (Nat.lt_of_lt_of_le lt_g hp.1) | omega) _, cv.rowOther (by first | exact Nat.ne_of_lt (Nat.lt_of_lt_of_le lt_cv hp.1) | omega) _, tv.rowOther (by first | exact Nat.ne_of_lt (Nat.lt_of_lt_of_le lt_tv hp.1) | omega) _, r1.rowOther (by first | exact Nat.ne_of_lt (Nat.lt_of_lt_of_le lt_r1 hp.1) | omega) _, r2.rowOther (by first | exact Nat.ne_of_lt (Nat.lt_of_lt_of_le lt_r2 hp.1) | omega) _, l.rowOther (by first | exact Nat.ne_of_lt (Nat.lt_of_lt_of_le lt_l hp.1) | omega) _, ch.rowOther (by first | exact Nat.ne_of_lt (Nat.lt_of_lt_of_le lt_ch hp.1) | omega) _, fun _ => ⟨hp.1, ?_⟩⟩
              rw [show upL L 8 8 = true from rfl]
              exact hp.2.row _
          refine stepV _ rfl rfl (fun _ _ _ h => h) (by intros; go_simp; exact ⟨rfl, rfl⟩) ?_
          exact AllI.nil
        case hV0 =>
          intro p q
          refine AllI.cons ?_ ?_
          · skip
            iterate 10 (refine AllI.cons (by first | exact .inl rfl | (refine .inr ?_; simp only [List.getD_cons_zero, List.getD_cons_succ]; done) | exact .inr rfl) ?_)
            exact AllI.nil
          exact AllI.nil
        case he =>
        clear hB g cv tv r1 r2 l ch
        rintro p wrrrrr ⟨hsz, hB, g, cv, tv, r1, r2, l, ch, h_su⟩
        obtain ⟨le_su, su⟩ := h_su rfl
        clear h_su
        replace su : blk wrrrrr (p 7) (vfn (vaddF X.T (qrotF Q2 t))) 27 := su
        have ne_g_su : w.heap.size ≠ p 7 := Nat.ne_of_lt (Nat.lt_of_lt_of_le lt_g le_su)
        have ne_cv_su : (w.heap.size + 1) ≠ p 7 := Nat.ne_of_lt (Nat.lt_of_lt_of_le lt_cv le_su)
        have ne_tv_su : (w.heap.size + 2) ≠ p 7 := Nat.ne_of_lt (Nat.lt_of_lt_of_le lt_tv le_su)
        have ne_r1_su : (w.heap.size + 3) ≠ p 7 := Nat.ne_of_lt (Nat.lt_of_lt_of_le lt_r1 le_su)
        have ne_r2_su : (w.heap.size + 4) ≠ p 7 := Nat.ne_of_lt (Nat.lt_of_lt_of_le lt_r2 le_su)
        have ne_l_su : l_b ≠ p 7 := Nat.ne_of_lt (Nat.lt_of_lt_of_le lt_l le_su)
        have ne_ch_su : ch_b ≠ p 7 := Nat.ne_of_lt (Nat.lt_of_lt_of_le lt_ch le_su)
        have ge_su : w.heap.size ≤ p 7 := Nat.le_trans hW0 le_su
        generalize p 7 = su_b at *
        clear lt_g lt_cv lt_tv lt_r1 lt_r2 lt_l lt_ch hsz hW0 AD
        cases al
        · skip
          go_upto_region 13 with (first
            | (refine wpList_load_rowG ?hw _ _ rfl _ rfl _ _ _ _ su Tryz.underlying27 rfl ?hi ?_; (case hw => (first | rfl | (simp [Region.wanted, yielded]; done))); (case hi => (first | kernel_rfl | (rw [vfn_size]; kernel_rfl))))
            | (go_at_call 62; with_reducible refine (AL.out _).mono ?_; rintro e wal ⟨rfl, hb⟩; replace hB := hB.trans (hb.mono hB.size); replace g := g.below hb g.lt; replace cv := cv.below hb cv.lt; replace tv := tv.below hb tv.lt; replace r1 := r1.below hb r1.lt; replace r2 := r2.below hb r2.lt; replace l := l.below hb l.lt; replace ch := ch.below hb ch.lt; replace su := su.below hb su.lt; clear hb))
          have lt_g := g.lt
          have lt_cv := cv.lt
          have lt_tv := tv.lt
          have lt_r1 := r1.lt
          have lt_r2 := r2.lt
          have lt_l := l.lt
          have lt_ch := ch.lt
          have lt_su := su.lt
          have hW0 : w.heap.size ≤ wal.heap.size := by simpa using hB.size
          apply wp_region_Q 5 [0, 1, 3, 7, 15] [] [_, _, (fun _ => undef), (fun _ => undef), _] (fun p L w' => wal.heap.size ≤ w'.heap.size ∧ Below w.heap.size w w' ∧ blk w' w.heap.size (rbc ⟨Q2, X.T, tickH X c, X.f⟩) 52 ∧ blk w' (w.heap.size + 1) (qfn c) 28 ∧ blk w' (w.heap.size + 2) (vfn t) 27 ∧ blk w' (w.heap.size + 3) (bif L 2 then (rbc ⟨Q2, X.T, tickH X c, X.f⟩) else (rbc BSt.zero)) 52 ∧ blk w' (w.heap.size + 4) (bif L 3 then (vfn (fun _ => 0)) else (vfn fun _ => 0)) 27 ∧ blk w' l_b (vfn (tickL X c)) 27 ∧ blk w' ch_b (vfn (qrotF Q2 t)) 27 ∧ blk w' su_b (vfn (vaddF X.T (qrotF Q2 t))) 27) _ [(0, 75), (1, 76), (4, 8)] [0, 1, 2, 3, 4]
          case hn => rfl
          case hB => kernel_rfl
          case hds => kernel_rfl
          case hA => (intro p; simp only [putsD, Act.put, sIT, sCZ, sCS, List.getD_cons_zero, List.getD_cons_succ]; exact rfl)
          case h0 => exact fun p => ⟨Nat.le_refl _, hB, g, cv, tv, r1, r2, l, ch, su⟩
          case hmore => exact fun p L w1 w2 ⟨hsz, hB, g, cv, tv, r1, r2, l, ch, su⟩ hm => ⟨Nat.le_trans hsz hm.size, hB.trans (hm.mono (Nat.le_trans hW0 hsz)), g.below hm g.lt, cv.below hm cv.lt, tv.below hm tv.lt, r1.below hm r1.lt, r2.below hm r2.lt, l.below hm l.lt, ch.below hm ch.lt, su.below hm su.lt⟩
          case hs =>
            intro more
            refine stepV 0 rfl rfl (fun _ _ _ h => h) ?_ ?_
            · rintro p L w1 ⟨hsz, hB, g, cv, tv, r1, r2, l, ch, su⟩ hk
              have L2 : L 2 = false := hk.2.2 2 rfl
              have L3 : L 3 = false := hk.2.2 3 rfl
              first | exact valR_row _ _ rfl _ rfl _ _ g _ Tryz.underlying52 rfl (by first | kernel_rfl | (rw [rbc_size]; kernel_rfl)) rfl | (have hc := g.cellIs (show _[0]? = some _ from rfl); go_simp; exact ⟨rfl, rfl⟩)
            refine AllI.cons ?_ ?_
            · refine stepI_val 1 rfl (fun p => rfl) ?_ (fun _ _ _ h => h)
              intros; (try simp only [vfn]); go_simp; exact ⟨rfl, rfl⟩
            refine AllI.cons ?_ ?_
            · refine stepI_store 2 rfl (fun p => rfl) (fun p => rfl) _ _ _ rfl (fun _ => (w.heap.size + 3)) 0 (fun p => rfl) (fun p => (rbc ⟨Q2, X.T, tickH X c, X.f⟩)) (fun p => rfl) (fun p => (rbc BSt.zero)) (fun p => (rbc ⟨Q2, X.T, tickH X c, X.f⟩)) 52 (fun p => over_rr _ _) (fun p => by first | (rw [rbc_size, rbc_size]; decide) | simp [rbc_size, rbc_size]) (fun p => by rw [rbc_size]; kernel_rfl) (fun p => rbc_one _) ?_ ?_
              · rintro p L w1 ⟨hsz, hB, g, cv, tv, r1, r2, l, ch, su⟩ hk
                have L2 : L 2 = false := hk.1
                have L3 : L 3 = false := hk.2.2 3 rfl
                rw [L2] at r1
                try simp only [cond_true, cond_false] at r1
                exact r1
              · rintro p L w1 ⟨hsz, hB, g, cv, tv, r1, r2, l, ch, su⟩ hk
                have L2 : L 2 = false := hk.1
                have L3 : L 3 = false := hk.2.2 3 rfl
                skip
                refine ⟨(by simpa using hsz), Below.setRow hB (by first | exact Nat.le_trans hW0 hp.1 | exact ge_r1 | omega | (have := hB.size; simp at this ⊢; omega)) _, g.rowOther (by first | exact ne_g_r1 | exact Ne.symm ne_r1_g | omega) _, cv.rowOther (by first | exact ne_cv_r1 | exact Ne.symm ne_r1_cv | omega) _, tv.rowOther (by first | exact ne_tv_r1 | exact Ne.symm ne_r1_tv | omega) _, ?_, r2.rowOther (by first | exact ne_r2_r1 | exact Ne.symm ne_r1_r2 | omega) _, l.rowOther (Ne.symm ne_r1_l) _, ch.rowOther (Ne.symm ne_r1_ch) _, su.rowOther (Ne.symm ne_r1_su) _⟩
                rw [show upL L 2 2 = true from rfl]
                exact r1.row _
            refine AllI.cons ?_ ?_
            · refine stepI_store 3 rfl (fun p => rfl) (fun p => rfl) _ _ _ rfl (fun _ => (w.heap.size + 4)) 0 (fun p => rfl) (fun p => (vfn (fun _ => 0))) (fun p => congrArg Value.agg zero_vec) (fun p => (vfn fun _ => 0)) (fun p => (vfn (fun _ => 0))) 27 (fun p => over_v _ _) (fun p => by first | (rw [vfn_size, vfn_size]; decide) | simp [vfn_size, vfn_size]) (fun p => by rw [vfn_size]; kernel_rfl) (fun p => vfn_one _) ?_ ?_
              · rintro p L w1 ⟨hsz, hB, g, cv, tv, r1, r2, l, ch, su⟩ hk
                have L2 : L 2 = true := hk.2.1 2 rfl
                have L3 : L 3 = false := hk.1
                rw [L3] at r2
                try simp only [cond_true, cond_false] at r2
                exact r2
              · rintro p L w1 ⟨hsz, hB, g, cv, tv, r1, r2, l, ch, su⟩ hk
                have L2 : L 2 = true := hk.2.1 2 rfl
                have L3 : L 3 = false := hk.1
                skip
                refine ⟨(by simpa using hsz), Below.setRow hB (by first | exact Nat.le_trans hW0 hp.1 | exact ge_r2 | omega | (have := hB.size; simp at this ⊢; omega)) _, g.rowOther (by first | exact ne_g_r2 | exact Ne.symm ne_r2_g | omega) _, cv.rowOther (by first | exact ne_cv_r2 | exact Ne.symm ne_r2_cv | omega) _, tv.rowOther (by first | exact ne_tv_r2 | exact Ne.symm ne_r2_tv | omega) _, r1.rowOther (by first | exact ne_r1_r2 | exact Ne.symm ne_r2_r1 | omega) _, ?_, l.rowOther (Ne.symm ne_r2_l) _, ch.rowOther (Ne.symm ne_r2_ch) _, su.rowOther (Ne.symm ne_r2_su) _⟩
                rw [show upL L 3 3 = true from rfl]
                exact r2.row _
            refine stepV _ rfl rfl (fun _ _ _ h => h) (by intros; go_simp; exact ⟨rfl, rfl⟩) ?_
            exact AllI.nil
          case hV0 => exact fun p q => AllI.nil
          case he =>
          clear hB g cv tv r1 r2 l ch su
          rintro p walr ⟨hsz, hB, g, cv, tv, r1, r2, l, ch, su⟩
          replace r1 : blk walr (w.heap.size + 3) (rbc ⟨Q2, X.T, tickH X c, X.f⟩) 52 := r1
          replace r2 : blk walr (w.heap.size + 4) (vfn (fun _ => 0)) 27 := r2
          clear lt_g lt_cv lt_tv lt_r1 lt_r2 lt_l lt_ch lt_su hsz hW0
          go_wp2_with (fail)
          refine bodyPost_ret (results_cct rfl _ _ _ _ _ _ _ _ _ _ _ _ rfl r1 rfl r2 Tryz.underlying52 rfl (by first | kernel_rfl | (rw [rbc_size]; kernel_rfl)) Tryz.underlying27 rfl (by first | kernel_rfl | (rw [vfn_size]; kernel_rfl))) rfl ?_
          refine ⟨?_, hB⟩
          rfl
        · skip
          go_upto_region 14 with (first
            | (refine wpList_load_rowG ?hw _ _ rfl _ rfl _ _ _ _ su Tryz.underlying27 rfl ?hi ?_; (case hw => (first | rfl | (simp [Region.wanted, yielded]; done))); (case hi => (first | kernel_rfl | (rw [vfn_size]; kernel_rfl))))
            | (go_at_call 62; with_reducible refine (AL.out _).mono ?_; rintro e wal ⟨rfl, hb⟩; replace hB := hB.trans (hb.mono hB.size); replace g := g.below hb g.lt; replace cv := cv.below hb cv.lt; replace tv := tv.below hb tv.lt; replace r1 := r1.below hb r1.lt; replace r2 := r2.below hb r2.lt; replace l := l.below hb l.lt; replace ch := ch.below hb ch.lt; replace su := su.below hb su.lt; clear hb))
          have lt_g := g.lt
          have lt_cv := cv.lt
          have lt_tv := tv.lt
          have lt_r1 := r1.lt
          have lt_r2 := r2.lt
          have lt_l := l.lt
          have lt_ch := ch.lt
          have lt_su := su.lt
          have hW0 : w.heap.size ≤ wal.heap.size := by simpa using hB.size
          apply wp_region_Q 3 [0, 1, 3] [] [_, _, (fun _ => undef)] (fun p L w' => wal.heap.size ≤ w'.heap.size ∧ Below w.heap.size w w' ∧ blk w' w.heap.size (bif L 2 then (rbc ⟨Q2, (vaddF X.T (qrotF Q2 t)), tickH X c, X.f⟩) else (rbc ⟨Q2, X.T, tickH X c, X.f⟩)) 52 ∧ blk w' (w.heap.size + 1) (qfn c) 28 ∧ blk w' (w.heap.size + 2) (vfn t) 27 ∧ blk w' (w.heap.size + 3) (rbc BSt.zero) 52 ∧ blk w' (w.heap.size + 4) (vfn fun _ => 0) 27 ∧ blk w' l_b (vfn (tickL X c)) 27 ∧ blk w' ch_b (vfn (qrotF Q2 t)) 27 ∧ blk w' su_b (vfn (vaddF X.T (qrotF Q2 t))) 27) _ [(0, 77), (1, 78)] [0, 1, 2]
          case hn => rfl
          case hB => kernel_rfl
          case hds => kernel_rfl
          case hA => (intro p; simp only [putsD, Act.put, sIT, sCZ, sCS, List.getD_cons_zero, List.getD_cons_succ]; exact rfl)
          case h0 => exact fun p => ⟨Nat.le_refl _, hB, g, cv, tv, r1, r2, l, ch, su⟩
          case hmore => exact fun p L w1 w2 ⟨hsz, hB, g, cv, tv, r1, r2, l, ch, su⟩ hm => ⟨Nat.le_trans hsz hm.size, hB.trans (hm.mono (Nat.le_trans hW0 hsz)), g.below hm g.lt, cv.below hm cv.lt, tv.below hm tv.lt, r1.below hm r1.lt, r2.below hm r2.lt, l.below hm l.lt, ch.below hm ch.lt, su.below hm su.lt⟩
          case hs =>
            intro more
            refine stepV 0 rfl rfl (fun _ _ _ h => h) ?_ ?_
            · rintro p L w1 ⟨hsz, hB, g, cv, tv, r1, r2, l, ch, su⟩ hk
              have L2 : L 2 = false := hk.2.2 2 rfl
              first | exact valR_row _ _ rfl _ rfl _ _ su _ Tryz.underlying27 rfl (by first | kernel_rfl | (rw [vfn_size]; kernel_rfl)) rfl | (have hc := su.cellIs (vfn_get _ (show 0 < 3 by omega)); go_simp; exact ⟨rfl, rfl⟩)
            refine stepV _ rfl rfl (fun _ _ _ h => h) (by intros; go_simp; exact ⟨rfl, rfl⟩) ?_
            refine AllI.cons ?_ ?_
            · refine stepI_store 2 rfl (fun p => rfl) (fun p => rfl) _ _ _ rfl (fun _ => w.heap.size) 4 (fun p => rfl) (fun p => (vfn (vaddF X.T (qrotF Q2 t)))) (fun p => rfl) (fun p => (rbc ⟨Q2, X.T, tickH X c, X.f⟩)) (fun p => (rbc ⟨Q2, (vaddF X.T (qrotF Q2 t)), tickH X c, X.f⟩)) 52 (fun p => over_rt _ _) (fun p => by first | (rw [vfn_size, rbc_size]; decide) | simp [vfn_size, rbc_size]) (fun p => by rw [vfn_size]; kernel_rfl) (fun p => vfn_one _) ?_ ?_
              · rintro p L w1 ⟨hsz, hB, g, cv, tv, r1, r2, l, ch, su⟩ hk
                have L2 : L 2 = false := hk.1
                rw [L2] at g
                try simp only [cond_true, cond_false] at g
                exact g
              · rintro p L w1 ⟨hsz, hB, g, cv, tv, r1, r2, l, ch, su⟩ hk
                have L2 : L 2 = false := hk.1
                skip
                refine ⟨(by simpa using hsz), Below.setRow hB (by first | exact Nat.le_trans hW0 hp.1 | exact ge_g | omega | (have := hB.size; simp at this ⊢; omega)) _, ?_, cv.rowOther (by first | exact ne_cv_g | exact Ne.symm ne_g_cv | omega) _, tv.rowOther (by first | exact ne_tv_g | exact Ne.symm ne_g_tv | omega) _, r1.rowOther (by first | exact ne_r1_g | exact Ne.symm ne_g_r1 | omega) _, r2.rowOther (by first | exact ne_r2_g | exact Ne.symm ne_g_r2 | omega) _, l.rowOther (Ne.symm ne_g_l) _, ch.rowOther (Ne.symm ne_g_ch) _, su.rowOther (Ne.symm ne_g_su) _⟩
                rw [show upL L 2 2 = true from rfl]
                exact g.row _
            exact AllI.nil
          case hV0 => exact fun p q => AllI.nil
          case he =>
          clear hB g cv tv r1 r2 l ch su
          rintro p walr ⟨hsz, hB, g, cv, tv, r1, r2, l, ch, su⟩
          replace g : blk walr w.heap.size (rbc ⟨Q2, (vaddF X.T (qrotF Q2 t)), tickH X c, X.f⟩) 52 := g
          clear lt_g lt_cv lt_tv lt_r1 lt_r2 lt_l lt_ch lt_su hsz hW0
          go_upto_region 15 with (fail)
          have lt_g := g.lt
          have lt_cv := cv.lt
          have lt_tv := tv.lt
          have lt_r1 := r1.lt
          have lt_r2 := r2.lt
          have lt_l := l.lt
          have lt_ch := ch.lt
          have lt_su := su.lt
          have hW0 : w.heap.size ≤ walr.heap.size := by simpa using hB.size
          apply wp_region_I 5 [0, 0, 1, 7, 15] [] [_, _, (fun _ => undef), (fun _ => undef), _] (fun p L w' => walr.heap.size ≤ w'.heap.size ∧ Below w.heap.size w w' ∧ blk w' w.heap.size (rbc ⟨Q2, (vaddF X.T (qrotF Q2 t)), tickH X c, X.f⟩) 52 ∧ blk w' (w.heap.size + 1) (qfn c) 28 ∧ blk w' (w.heap.size + 2) (vfn t) 27 ∧ blk w' (w.heap.size + 3) (bif L 2 then (rbc ⟨Q2, (vaddF X.T (qrotF Q2 t)), tickH X c, X.f⟩) else (rbc BSt.zero)) 52 ∧ blk w' (w.heap.size + 4) (bif L 3 then (vfn (qrotF Q2 t)) else (vfn fun _ => 0)) 27 ∧ blk w' l_b (vfn (tickL X c)) 27 ∧ blk w' ch_b (vfn (qrotF Q2 t)) 27 ∧ blk w' su_b (vfn (vaddF X.T (qrotF Q2 t))) 27) _ [(0, 79), (1, 80), (4, 8)] [0, 1, 2, 3, 4]
          case hn => rfl
          case hm => kernel_rfl
          case hB => kernel_rfl
          case hds => kernel_rfl
          case hA => (intro p; simp only [putsD, Act.put, sIT, sCZ, sCS, List.getD_cons_zero, List.getD_cons_succ]; exact rfl)
          case h0 => exact fun p => ⟨Nat.le_refl _, hB.drew, g.drew, cv.drew, tv.drew, r1.drew, r2.drew, l.drew, ch.drew, su.drew⟩
          case hmore => exact fun p L w1 w2 ⟨hsz, hB, g, cv, tv, r1, r2, l, ch, su⟩ hm => ⟨Nat.le_trans hsz hm.size, hB.trans (hm.mono (Nat.le_trans hW0 hsz)), g.below hm g.lt, cv.below hm cv.lt, tv.below hm tv.lt, r1.below hm r1.lt, r2.below hm r2.lt, l.below hm l.lt, ch.below hm ch.lt, su.below hm su.lt⟩
          case hs =>
            intro more
            refine stepV 0 rfl rfl (fun _ _ _ h => h) ?_ ?_
            · rintro p L w1 ⟨hsz, hB, g, cv, tv, r1, r2, l, ch, su⟩ hk
              have L2 : L 2 = false := hk.2.2 2 rfl
              have L3 : L 3 = false := hk.2.2 3 rfl
              first | exact valR_row _ _ rfl _ rfl _ _ g _ Tryz.underlying52 rfl (by first | kernel_rfl | (rw [rbc_size]; kernel_rfl)) rfl | (have hc := g.cellIs (show _[0]? = some _ from rfl); go_simp; exact ⟨rfl, rfl⟩)
            refine stepV 1 rfl rfl (fun _ _ _ h => h) ?_ ?_
            · rintro p L w1 ⟨hsz, hB, g, cv, tv, r1, r2, l, ch, su⟩ hk
              have L3 : L 3 = false := hk.2.2 3 rfl
              first | exact valR_row _ _ rfl _ rfl _ _ ch _ Tryz.underlying27 rfl (by first | kernel_rfl | (rw [vfn_size]; kernel_rfl)) rfl | (have hc := ch.cellIs (vfn_get _ (show 0 < 3 by omega)); go_simp; exact ⟨rfl, rfl⟩)
            refine AllI.cons ?_ ?_
            · refine stepI_store 2 rfl (fun p => rfl) (fun p => rfl) _ _ _ rfl (fun _ => (w.heap.size + 3)) 0 (fun p => rfl) (fun p => (rbc ⟨Q2, (vaddF X.T (qrotF Q2 t)), tickH X c, X.f⟩)) (fun p => rfl) (fun p => (rbc BSt.zero)) (fun p => (rbc ⟨Q2, (vaddF X.T (qrotF Q2 t)), tickH X c, X.f⟩)) 52 (fun p => over_rr _ _) (fun p => by first | (rw [rbc_size, rbc_size]; decide) | simp [rbc_size, rbc_size]) (fun p => by rw [rbc_size]; kernel_rfl) (fun p => rbc_one _) ?_ ?_
              · rintro p L w1 ⟨hsz, hB, g, cv, tv, r1, r2, l, ch, su⟩ hk
                have L2 : L 2 = false := hk.1
                have L3 : L 3 = false := hk.2.2 3 rfl
                rw [L2] at r1
                try simp only [cond_true, cond_false] at r1
                exact r1
              · rintro p L w1 ⟨hsz, hB, g, cv, tv, r1, r2, l, ch, su⟩ hk
                have L2 : L 2 = false := hk.1
                have L3 : L 3 = false := hk.2.2 3 rfl
                skip
                refine ⟨(by simpa using hsz), Below.setRow hB (by first | exact Nat.le_trans hW0 hp.1 | exact ge_r1 | omega | (have := hB.size; simp at this ⊢; omega)) _, g.rowOther (by first | exact ne_g_r1 | exact Ne.symm ne_r1_g | omega) _, cv.rowOther (by first | exact ne_cv_r1 | exact Ne.symm ne_r1_cv | omega) _, tv.rowOther (by first | exact ne_tv_r1 | exact Ne.symm ne_r1_tv | omega) _, ?_, r2.rowOther (by first | exact ne_r2_r1 | exact Ne.symm ne_r1_r2 | omega) _, l.rowOther (Ne.symm ne_r1_l) _, ch.rowOther (Ne.symm ne_r1_ch) _, su.rowOther (Ne.symm ne_r1_su) _⟩
                rw [show upL L 2 2 = true from rfl]
                exact r1.row _
            refine AllI.cons ?_ ?_
            · refine stepI_store 3 rfl (fun p => rfl) (fun p => rfl) _ _ _ rfl (fun _ => (w.heap.size + 4)) 0 (fun p => rfl) (fun p => (vfn (qrotF Q2 t))) (fun p => rfl) (fun p => (vfn fun _ => 0)) (fun p => (vfn (qrotF Q2 t))) 27 (fun p => over_v _ _) (fun p => by first | (rw [vfn_size, vfn_size]; decide) | simp [vfn_size, vfn_size]) (fun p => by rw [vfn_size]; kernel_rfl) (fun p => vfn_one _) ?_ ?_
              · rintro p L w1 ⟨hsz, hB, g, cv, tv, r1, r2, l, ch, su⟩ hk
                have L2 : L 2 = true := hk.2.1 2 rfl
                have L3 : L 3 = false := hk.1
                rw [L3] at r2
                try simp only [cond_true, cond_false] at r2
                exact r2
              · rintro p L w1 ⟨hsz, hB, g, cv, tv, r1, r2, l, ch, su⟩ hk
                have L2 : L 2 = true := hk.2.1 2 rfl
                have L3 : L 3 = false := hk.1
                skip
                refine ⟨(by simpa using hsz), Below.setRow hB (by first | exact Nat.le_trans hW0 hp.1 | exact ge_r2 | omega | (have := hB.size; simp at this ⊢; omega)) _, g.rowOther (by first | exact ne_g_r2 | exact Ne.symm ne_r2_g | omega) _, cv.rowOther (by first | exact ne_cv_r2 | exact Ne.symm ne_r2_cv | omega) _, tv.rowOther (by first | exact ne_tv_r2 | exact Ne.symm ne_r2_tv | omega) _, r1.rowOther (by first | exact ne_r1_r2 | exact Ne.symm ne_r2_r1 | omega) _, ?_, l.rowOther (Ne.symm ne_r2_l) _, ch.rowOther (Ne.symm ne_r2_ch) _, su.rowOther (Ne.symm ne_r2_su) _⟩
                rw [show upL L 3 3 = true from rfl]
                exact r2.row _
            refine stepV _ rfl rfl (fun _ _ _ h => h) (by intros; go_simp; exact ⟨rfl, rfl⟩) ?_
            exact AllI.nil
          case hV0 => exact fun p q => AllI.nil
          case he =>
          clear hB g cv tv r1 r2 l ch su
          rintro p walrr ⟨hsz, hB, g, cv, tv, r1, r2, l, ch, su⟩
          replace r1 : blk walrr (w.heap.size + 3) (rbc ⟨Q2, (vaddF X.T (qrotF Q2 t)), tickH X c, X.f⟩) 52 := r1
          replace r2 : blk walrr (w.heap.size + 4) (vfn (qrotF Q2 t)) 27 := r2
          clear lt_g lt_cv lt_tv lt_r1 lt_r2 lt_l lt_ch lt_su hsz hW0
          go_wp2_with (fail)
          refine bodyPost_ret (results_cct rfl _ _ _ _ _ _ _ _ _ _ _ _ rfl r1 rfl r2 Tryz.underlying52 rfl (by first | kernel_rfl | (rw [rbc_size]; kernel_rfl)) Tryz.underlying27 rfl (by first | kernel_rfl | (rw [vfn_size]; kernel_rfl))) rfl ?_
          refine ⟨?_, hB⟩
          rfl
theorem rtick_any (X : BSt) (c t : Nat → Int) (w : World) (hQ : ∀ i, i < 4 → I64 (X.Q i)) (hI : SI X.h X.f) (hQ2 : ∀ i, i < 4 → I64 (tickQ X c i)) : Calls Tryz.prog 21 #[.agg (rbc X), .agg (qfn c), .agg (vfn t)] w fun e w' => e = .returned (.tuple #[.agg (rbc (tickX X c t)), .agg (vfn (tickC X c t)), .int .i64 (tickE t)]) ∧ Below w.heap.size w w' := by
  cases ht : smallB t 1048576 with
  | false =>
    have e1 : tickC X c t = fun _ => 0 := by unfold tickC; rw [ht]; rfl
    have e2 : tickE t = 2 := by unfold tickE; rw [ht]; rfl
    have e3 : tickX X c t = X := by unfold tickX; rw [ht]; rfl
    rw [e1, e2, e3]
    exact rtick_no X c t w ht
  | true =>
    have e2 : tickE t = 0 := by unfold tickE; rw [ht]; rfl
    have e1 : tickC X c t = bif allB (tickS X c t) then tickD X c t else fun _ => 0 := by unfold tickC; rw [ht]; cases allB (tickS X c t) <;> rfl
    have e3 : tickX X c t = ⟨tickQ X c, bif allB (tickS X c t) then tickS X c t else X.T, tickH X c, X.f⟩ := by unfold tickX; rw [ht]; cases allB (tickS X c t) <;> rfl
    rw [e1, e2, e3]
    exact rtick_ok X c t w hQ hI ht hQ2
end Go.Proofs.YtjnocbjngojigaaGreat
