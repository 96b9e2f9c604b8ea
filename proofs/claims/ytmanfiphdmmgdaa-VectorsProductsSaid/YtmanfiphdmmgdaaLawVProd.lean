/-
  VectorsProducts returns true: the walk.
-/
import Derived.Test.YtmanfiphdmmgdaaLawVec
set_option linter.unusedSimpArgs false
set_option linter.unusedVariables false
namespace Go.Proofs.Ytmanfiphdmmgdaa
open Go.RowKit PM Dt
set_option maxRecDepth 100000 in
set_option maxHeartbeats 2000000 in
theorem products_any (f g : Nat → Int) (w : World) : Calls Try.prog 3 #[.agg (vfn f), .agg (vfn g)] w fun e w' => e = .returned (.bool true) ∧ Below w.heap.size w w' := by
  have D1 := Lib.hid (fun w => vdot_any f g w)
  have D2 := Lib.hid (fun w => rvdot_any f g w)
  have C1 := Lib.hid (fun w => vcross_any f g w)
  have C2 := Lib.hid (fun w => rvcross_any f g w)
  have N1 := Lib.hid (fun w => vnorm_any f w)
  have N2 := Lib.hid (fun w => rvnorm_any f w)
  generalize vdotV f g = dv at *
  generalize vdotE f g = de at *
  generalize vcrossF f g = F at *
  generalize vcrossE f g = ce at *
  generalize normV f = nv at *
  generalize normE f = ne at *
  have hq := vec_eq_self F
  go_enter Try.func3, Try.ntmps3
  go_upto_region 1 with (fail)
  have p : blk ((w.alloc (.cells (vfn f) 23)).alloc (.cells (vfn g) 23)) w.heap.size (vfn f) 23 := (blk.new _ _ _).alloc _
  have q : blk ((w.alloc (.cells (vfn f) 23)).alloc (.cells (vfn g) 23)) (w.heap.size + 1) (vfn g) 23 := blk.new' (by simp)
  have hB : Below w.heap.size w ((w.alloc (.cells (vfn f) 23)).alloc (.cells (vfn g) 23)) := by go_grown
  generalize (w.alloc (.cells (vfn f) 23)).alloc (.cells (vfn g) 23) = w0 at *
  go_upto_region 2 with (first
    | (refine wpList_load_rowG ?hw _ _ rfl _ rfl _ _ _ _ p Try.underlying23 rfl ?hi ?_; (case hw => (first | rfl | (simp [Region.wanted, yielded]; done))); (case hi => (rw [vfn_size]; kernel_rfl)))
    | (refine wpList_load_rowG ?hw _ _ rfl _ rfl _ _ _ _ q Try.underlying23 rfl ?hi ?_; (case hw => (first | rfl | (simp [Region.wanted, yielded]; done))); (case hi => (rw [vfn_size]; kernel_rfl)))
    | (go_at_call 14; refine (D1.out _).mono ?_; rintro e w1 ⟨rfl, hb⟩; replace hB := hB.trans (hb.mono hB.size); replace p := p.below hb p.lt; replace q := q.below hb q.lt; clear hb)
    | (rw [zero_vec]; refine wpList_store_row rfl _ _ _ rfl _ rfl _ rfl _ _ (blk.new _ _ _) (by rw [vfn_size]; kernel_rfl) (by simp only [vfn_size]) (vfn_one _) ?_))
  go_upto_region 3 with (first
    | (refine wpList_load_rowG ?hw _ _ rfl _ rfl _ _ _ _ p Try.underlying23 rfl ?hi ?_; (case hw => (first | rfl | (simp [Region.wanted, yielded]; done))); (case hi => (rw [vfn_size]; kernel_rfl)))
    | (refine wpList_load_rowG ?hw _ _ rfl _ rfl _ _ _ _ q Try.underlying23 rfl ?hi ?_; (case hw => (first | rfl | (simp [Region.wanted, yielded]; done))); (case hi => (rw [vfn_size]; kernel_rfl)))
    | (go_at_call 15; refine (D2.out _).mono ?_; rintro e w2 ⟨rfl, hb⟩; replace hB := hB.trans (hb.mono hB.size); replace p := p.below hb p.lt; replace q := q.below hb q.lt; clear hb)
    | (rw [zero_vec]; refine wpList_store_row rfl _ _ _ rfl _ rfl _ rfl _ _ (blk.new _ _ _) (by rw [vfn_size]; kernel_rfl) (by simp only [vfn_size]) (vfn_one _) ?_))
  go_upto_region 4 with (first
    | (refine wpList_load_rowG ?hw _ _ rfl _ rfl _ _ _ _ p Try.underlying23 rfl ?hi ?_; (case hw => (first | rfl | (simp [Region.wanted, yielded]; done))); (case hi => (rw [vfn_size]; kernel_rfl)))
    | (refine wpList_load_rowG ?hw _ _ rfl _ rfl _ _ _ _ q Try.underlying23 rfl ?hi ?_; (case hw => (first | rfl | (simp [Region.wanted, yielded]; done))); (case hi => (rw [vfn_size]; kernel_rfl)))
    | (go_at_call 16; refine (C1.out _).mono ?_; rintro e w3 ⟨rfl, hb⟩; replace hB := hB.trans (hb.mono hB.size); replace p := p.below hb p.lt; replace q := q.below hb q.lt; clear hb)
    | (rw [zero_vec]; refine wpList_store_row rfl _ _ _ rfl _ rfl _ rfl _ _ (blk.new _ _ _) (by rw [vfn_size]; kernel_rfl) (by simp only [vfn_size]) (vfn_one _) ?_))
  have r1 := (blk.new w3 (vfn fun _ => 0) 23).row (vfn F)
  replace hB := Below.setRow (hB.alloc hB.size (.cells (vfn fun _ => 0) 23)) (g := w3.heap.size) hB.size (vfn F)
  have hne1 : w.heap.size ≠ w3.heap.size := by have := p.lt; omega
  have hne2 : w.heap.size + 1 ≠ w3.heap.size := by have := q.lt; omega
  replace p := (p.alloc (.cells (vfn fun _ => 0) 23)).rowOther hne1 (vfn F)
  replace q := (q.alloc (.cells (vfn fun _ => 0) 23)).rowOther hne2 (vfn F)
  generalize (w3.alloc (.cells (vfn fun _ => 0) 23)).setRow w3.heap.size (vfn F) = w3x at *
  generalize w3.heap.size = r1_b at *
  clear hne1 hne2
  go_upto_region 5 with (first
    | (refine wpList_load_rowG ?hw _ _ rfl _ rfl _ _ _ _ p Try.underlying23 rfl ?hi ?_; (case hw => (first | rfl | (simp [Region.wanted, yielded]; done))); (case hi => (rw [vfn_size]; kernel_rfl)))
    | (refine wpList_load_rowG ?hw _ _ rfl _ rfl _ _ _ _ q Try.underlying23 rfl ?hi ?_; (case hw => (first | rfl | (simp [Region.wanted, yielded]; done))); (case hi => (rw [vfn_size]; kernel_rfl)))
    | (go_at_call 17; refine (C2.out _).mono ?_; rintro e w4 ⟨rfl, hb⟩; replace hB := hB.trans (hb.mono hB.size); replace p := p.below hb p.lt; replace q := q.below hb q.lt; replace r1 := r1.below hb r1.lt; clear hb)
    | (rw [zero_vec]; refine wpList_store_row rfl _ _ _ rfl _ rfl _ rfl _ _ (blk.new _ _ _) (by rw [vfn_size]; kernel_rfl) (by simp only [vfn_size]) (vfn_one _) ?_))
  have r2 := (blk.new w4 (vfn fun _ => 0) 23).row (vfn F)
  replace hB := Below.setRow (hB.alloc hB.size (.cells (vfn fun _ => 0) 23)) (g := w4.heap.size) hB.size (vfn F)
  have hne1 : w.heap.size ≠ w4.heap.size := by have := p.lt; omega
  have hne2 : w.heap.size + 1 ≠ w4.heap.size := by have := q.lt; omega
  replace p := (p.alloc (.cells (vfn fun _ => 0) 23)).rowOther hne1 (vfn F)
  replace q := (q.alloc (.cells (vfn fun _ => 0) 23)).rowOther hne2 (vfn F)
  have hne3 : r1_b ≠ w4.heap.size := by have := r1.lt; omega
  replace r1 := (r1.alloc (.cells (vfn fun _ => 0) 23)).rowOther hne3 (vfn F)
  clear hne3
  generalize (w4.alloc (.cells (vfn fun _ => 0) 23)).setRow w4.heap.size (vfn F) = w4x at *
  generalize w4.heap.size = r2_b at *
  clear hne1 hne2
  go_upto_region 6 with (first
    | (refine wpList_load_rowG ?hw _ _ rfl _ rfl _ _ _ _ p Try.underlying23 rfl ?hi ?_; (case hw => (first | rfl | (simp [Region.wanted, yielded]; done))); (case hi => (rw [vfn_size]; kernel_rfl)))
    | (refine wpList_load_rowG ?hw _ _ rfl _ rfl _ _ _ _ q Try.underlying23 rfl ?hi ?_; (case hw => (first | rfl | (simp [Region.wanted, yielded]; done))); (case hi => (rw [vfn_size]; kernel_rfl)))
    | (go_at_call 18; refine (N1.out _).mono ?_; rintro e w5 ⟨rfl, hb⟩; replace hB := hB.trans (hb.mono hB.size); replace p := p.below hb p.lt; replace q := q.below hb q.lt; replace r1 := r1.below hb r1.lt; replace r2 := r2.below hb r2.lt; clear hb)
    | (rw [zero_vec]; refine wpList_store_row rfl _ _ _ rfl _ rfl _ rfl _ _ (blk.new _ _ _) (by rw [vfn_size]; kernel_rfl) (by simp only [vfn_size]) (vfn_one _) ?_))
  go_upto_region 7 with (first
    | (refine wpList_load_rowG ?hw _ _ rfl _ rfl _ _ _ _ p Try.underlying23 rfl ?hi ?_; (case hw => (first | rfl | (simp [Region.wanted, yielded]; done))); (case hi => (rw [vfn_size]; kernel_rfl)))
    | (refine wpList_load_rowG ?hw _ _ rfl _ rfl _ _ _ _ q Try.underlying23 rfl ?hi ?_; (case hw => (first | rfl | (simp [Region.wanted, yielded]; done))); (case hi => (rw [vfn_size]; kernel_rfl)))
    | (go_at_call 19; refine (N2.out _).mono ?_; rintro e w6 ⟨rfl, hb⟩; replace hB := hB.trans (hb.mono hB.size); replace p := p.below hb p.lt; replace q := q.below hb q.lt; replace r1 := r1.below hb r1.lt; replace r2 := r2.below hb r2.lt; clear hb)
    | (rw [zero_vec]; refine wpList_store_row rfl _ _ _ rfl _ rfl _ rfl _ _ (blk.new _ _ _) (by rw [vfn_size]; kernel_rfl) (by simp only [vfn_size]) (vfn_one _) ?_))
  go_wp2_with (first
    | (refine wpList_load_rowG ?hw _ _ rfl _ rfl _ _ _ _ r1 Try.underlying23 rfl ?hi ?_; (case hw => (first | rfl | (simp [Region.wanted, yielded]; done))); (case hi => (rw [vfn_size]; kernel_rfl)))
    | (refine wpList_load_rowG ?hw _ _ rfl _ rfl _ _ _ _ r2 Try.underlying23 rfl ?hi ?_; (case hw => (first | rfl | (simp [Region.wanted, yielded]; done))); (case hi => (rw [vfn_size]; kernel_rfl)))
    | (go_at_call 20; refine (awakeV_any _).mono ?_; rintro e wx ⟨rfl, hb⟩; replace hB := hB.trans (hb.mono hB.size); clear hb))
  go_ret
  exact ⟨rfl, hB⟩
end Go.Proofs.Ytmanfiphdmmgdaa
