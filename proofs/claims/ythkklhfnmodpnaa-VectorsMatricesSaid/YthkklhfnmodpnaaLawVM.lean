/-
  VectorsMatrices returns true: the walk.
-/
import Derived.Test.YthkklhfnmodpnaaMatEq
set_option linter.unusedSimpArgs false
set_option linter.unusedVariables false
namespace Go.Proofs.Ythkklhfnmodpnaa
open Go.RowKit PM Dt
set_option maxRecDepth 100000 in
set_option maxHeartbeats 4000000 in
theorem matrices_any (g h f : Nat → Int) (w : World) : Calls Try.prog 3 #[.agg (mfn g), .agg (mfn h), .agg (vfn f)] w fun e w' => e = .returned (.bool true) ∧ Below w.heap.size w w' := by
  have A1 := Lib.hid (fun w => vapply_any g f w)
  have A2 := Lib.hid (fun w => rvapply_any g f w)
  have B1 := Lib.hid (fun w => vback_any g f w)
  have B2 := Lib.hid (fun w => rvback_any g f w)
  have C1 := Lib.hid (fun w => vprod_any g h w)
  have C2 := Lib.hid (fun w => rvprod_any g h w)
  generalize vapplyF g f = FA at *
  generalize vapplyE g f = EA at *
  generalize vbackF g f = FB at *
  generalize vbackE g f = EB at *
  generalize vprodF g h = FC at *
  generalize vprodE g h = EC at *
  have hqA := vec_eq_self FA
  have hqB := vec_eq_self FB
  have hqC := mat_eq_self FC
  go_enter Try.func3, Try.ntmps3
  go_upto_region 1 with (fail)
  have p : blk (((w.alloc (.cells (mfn g) 25)).alloc (.cells (mfn h) 25)).alloc (.cells (vfn f) 23)) w.heap.size (mfn g) 25 := ((blk.new _ _ _).alloc _).alloc _
  have q : blk (((w.alloc (.cells (mfn g) 25)).alloc (.cells (mfn h) 25)).alloc (.cells (vfn f) 23)) (w.heap.size + 1) (mfn h) 25 := (blk.new' (by simp)).alloc _
  have v : blk (((w.alloc (.cells (mfn g) 25)).alloc (.cells (mfn h) 25)).alloc (.cells (vfn f) 23)) (w.heap.size + 1 + 1) (vfn f) 23 := blk.new' (by simp)
  have hB : Below w.heap.size w (((w.alloc (.cells (mfn g) 25)).alloc (.cells (mfn h) 25)).alloc (.cells (vfn f) 23)) := by go_grown
  generalize ((w.alloc (.cells (mfn g) 25)).alloc (.cells (mfn h) 25)).alloc (.cells (vfn f) 23) = w0 at *
  go_upto_region 2 with (first
    | (refine wpList_load_rowG ?hw _ _ rfl _ rfl _ _ _ _ p Try.underlying25 rfl ?hi ?_; (case hw => (first | rfl | (simp [Region.wanted, yielded]; done))); (case hi => (rw [mfn_size]; kernel_rfl)))
    | (refine wpList_load_rowG ?hw _ _ rfl _ rfl _ _ _ _ v Try.underlying23 rfl ?hi ?_; (case hw => (first | rfl | (simp [Region.wanted, yielded]; done))); (case hi => (rw [vfn_size]; kernel_rfl)))
    | (go_at_call 17; with_reducible refine (A1.out _).mono ?_; rintro e w1 ⟨rfl, hb⟩; replace hB := hB.trans (hb.mono hB.size); replace p := p.below hb p.lt; replace q := q.below hb q.lt; replace v := v.below hb v.lt; clear hb)
    | (rw [zero_vec]; refine wpList_store_row rfl _ _ _ rfl _ rfl _ rfl _ _ (blk.new _ _ _) (by rw [vfn_size]; kernel_rfl) (by simp only [vfn_size]) (vfn_one _) ?_))
  have r1 := (blk.new w1 (vfn fun _ => 0) 23).row (vfn FA)
  replace hB := Below.setRow (hB.alloc hB.size (.cells (vfn fun _ => 0) 23)) (g := w1.heap.size) hB.size (vfn FA)
  have hne3 : w.heap.size ≠ w1.heap.size := by have := p.lt; omega
  replace p := (p.alloc (.cells (vfn fun _ => 0) 23)).rowOther hne3 (vfn FA)
  clear hne3
  have hne3 : w.heap.size + 1 ≠ w1.heap.size := by have := q.lt; omega
  replace q := (q.alloc (.cells (vfn fun _ => 0) 23)).rowOther hne3 (vfn FA)
  clear hne3
  have hne3 : w.heap.size + 1 + 1 ≠ w1.heap.size := by have := v.lt; omega
  replace v := (v.alloc (.cells (vfn fun _ => 0) 23)).rowOther hne3 (vfn FA)
  clear hne3
  generalize (w1.alloc (.cells (vfn fun _ => 0) 23)).setRow w1.heap.size (vfn FA) = w1x at *
  generalize w1.heap.size = r1_b at *
  go_upto_region 3 with (first
    | (refine wpList_load_rowG ?hw _ _ rfl _ rfl _ _ _ _ p Try.underlying25 rfl ?hi ?_; (case hw => (first | rfl | (simp [Region.wanted, yielded]; done))); (case hi => (rw [mfn_size]; kernel_rfl)))
    | (refine wpList_load_rowG ?hw _ _ rfl _ rfl _ _ _ _ v Try.underlying23 rfl ?hi ?_; (case hw => (first | rfl | (simp [Region.wanted, yielded]; done))); (case hi => (rw [vfn_size]; kernel_rfl)))
    | (go_at_call 18; with_reducible refine (A2.out _).mono ?_; rintro e w2 ⟨rfl, hb⟩; replace hB := hB.trans (hb.mono hB.size); replace p := p.below hb p.lt; replace q := q.below hb q.lt; replace v := v.below hb v.lt; replace r1 := r1.below hb r1.lt; clear hb)
    | (rw [zero_vec]; refine wpList_store_row rfl _ _ _ rfl _ rfl _ rfl _ _ (blk.new _ _ _) (by rw [vfn_size]; kernel_rfl) (by simp only [vfn_size]) (vfn_one _) ?_))
  have r2 := (blk.new w2 (vfn fun _ => 0) 23).row (vfn FA)
  replace hB := Below.setRow (hB.alloc hB.size (.cells (vfn fun _ => 0) 23)) (g := w2.heap.size) hB.size (vfn FA)
  have hne3 : w.heap.size ≠ w2.heap.size := by have := p.lt; omega
  replace p := (p.alloc (.cells (vfn fun _ => 0) 23)).rowOther hne3 (vfn FA)
  clear hne3
  have hne3 : w.heap.size + 1 ≠ w2.heap.size := by have := q.lt; omega
  replace q := (q.alloc (.cells (vfn fun _ => 0) 23)).rowOther hne3 (vfn FA)
  clear hne3
  have hne3 : w.heap.size + 1 + 1 ≠ w2.heap.size := by have := v.lt; omega
  replace v := (v.alloc (.cells (vfn fun _ => 0) 23)).rowOther hne3 (vfn FA)
  clear hne3
  have hne3 : r1_b ≠ w2.heap.size := by have := r1.lt; omega
  replace r1 := (r1.alloc (.cells (vfn fun _ => 0) 23)).rowOther hne3 (vfn FA)
  clear hne3
  generalize (w2.alloc (.cells (vfn fun _ => 0) 23)).setRow w2.heap.size (vfn FA) = w2x at *
  generalize w2.heap.size = r2_b at *
  go_upto_region 4 with (first
    | (refine wpList_load_rowG ?hw _ _ rfl _ rfl _ _ _ _ p Try.underlying25 rfl ?hi ?_; (case hw => (first | rfl | (simp [Region.wanted, yielded]; done))); (case hi => (rw [mfn_size]; kernel_rfl)))
    | (refine wpList_load_rowG ?hw _ _ rfl _ rfl _ _ _ _ v Try.underlying23 rfl ?hi ?_; (case hw => (first | rfl | (simp [Region.wanted, yielded]; done))); (case hi => (rw [vfn_size]; kernel_rfl)))
    | (go_at_call 19; with_reducible refine (B1.out _).mono ?_; rintro e w3 ⟨rfl, hb⟩; replace hB := hB.trans (hb.mono hB.size); replace p := p.below hb p.lt; replace q := q.below hb q.lt; replace v := v.below hb v.lt; replace r1 := r1.below hb r1.lt; replace r2 := r2.below hb r2.lt; clear hb)
    | (rw [zero_vec]; refine wpList_store_row rfl _ _ _ rfl _ rfl _ rfl _ _ (blk.new _ _ _) (by rw [vfn_size]; kernel_rfl) (by simp only [vfn_size]) (vfn_one _) ?_))
  have r3 := (blk.new w3 (vfn fun _ => 0) 23).row (vfn FB)
  replace hB := Below.setRow (hB.alloc hB.size (.cells (vfn fun _ => 0) 23)) (g := w3.heap.size) hB.size (vfn FB)
  have hne3 : w.heap.size ≠ w3.heap.size := by have := p.lt; omega
  replace p := (p.alloc (.cells (vfn fun _ => 0) 23)).rowOther hne3 (vfn FB)
  clear hne3
  have hne3 : w.heap.size + 1 ≠ w3.heap.size := by have := q.lt; omega
  replace q := (q.alloc (.cells (vfn fun _ => 0) 23)).rowOther hne3 (vfn FB)
  clear hne3
  have hne3 : w.heap.size + 1 + 1 ≠ w3.heap.size := by have := v.lt; omega
  replace v := (v.alloc (.cells (vfn fun _ => 0) 23)).rowOther hne3 (vfn FB)
  clear hne3
  have hne3 : r1_b ≠ w3.heap.size := by have := r1.lt; omega
  replace r1 := (r1.alloc (.cells (vfn fun _ => 0) 23)).rowOther hne3 (vfn FB)
  clear hne3
  have hne3 : r2_b ≠ w3.heap.size := by have := r2.lt; omega
  replace r2 := (r2.alloc (.cells (vfn fun _ => 0) 23)).rowOther hne3 (vfn FB)
  clear hne3
  generalize (w3.alloc (.cells (vfn fun _ => 0) 23)).setRow w3.heap.size (vfn FB) = w3x at *
  generalize w3.heap.size = r3_b at *
  go_upto_region 5 with (first
    | (refine wpList_load_rowG ?hw _ _ rfl _ rfl _ _ _ _ p Try.underlying25 rfl ?hi ?_; (case hw => (first | rfl | (simp [Region.wanted, yielded]; done))); (case hi => (rw [mfn_size]; kernel_rfl)))
    | (refine wpList_load_rowG ?hw _ _ rfl _ rfl _ _ _ _ v Try.underlying23 rfl ?hi ?_; (case hw => (first | rfl | (simp [Region.wanted, yielded]; done))); (case hi => (rw [vfn_size]; kernel_rfl)))
    | (go_at_call 20; with_reducible refine (B2.out _).mono ?_; rintro e w4 ⟨rfl, hb⟩; replace hB := hB.trans (hb.mono hB.size); replace p := p.below hb p.lt; replace q := q.below hb q.lt; replace v := v.below hb v.lt; replace r1 := r1.below hb r1.lt; replace r2 := r2.below hb r2.lt; replace r3 := r3.below hb r3.lt; clear hb)
    | (rw [zero_vec]; refine wpList_store_row rfl _ _ _ rfl _ rfl _ rfl _ _ (blk.new _ _ _) (by rw [vfn_size]; kernel_rfl) (by simp only [vfn_size]) (vfn_one _) ?_))
  have r4 := (blk.new w4 (vfn fun _ => 0) 23).row (vfn FB)
  replace hB := Below.setRow (hB.alloc hB.size (.cells (vfn fun _ => 0) 23)) (g := w4.heap.size) hB.size (vfn FB)
  have hne3 : w.heap.size ≠ w4.heap.size := by have := p.lt; omega
  replace p := (p.alloc (.cells (vfn fun _ => 0) 23)).rowOther hne3 (vfn FB)
  clear hne3
  have hne3 : w.heap.size + 1 ≠ w4.heap.size := by have := q.lt; omega
  replace q := (q.alloc (.cells (vfn fun _ => 0) 23)).rowOther hne3 (vfn FB)
  clear hne3
  have hne3 : w.heap.size + 1 + 1 ≠ w4.heap.size := by have := v.lt; omega
  replace v := (v.alloc (.cells (vfn fun _ => 0) 23)).rowOther hne3 (vfn FB)
  clear hne3
  have hne3 : r1_b ≠ w4.heap.size := by have := r1.lt; omega
  replace r1 := (r1.alloc (.cells (vfn fun _ => 0) 23)).rowOther hne3 (vfn FB)
  clear hne3
  have hne3 : r2_b ≠ w4.heap.size := by have := r2.lt; omega
  replace r2 := (r2.alloc (.cells (vfn fun _ => 0) 23)).rowOther hne3 (vfn FB)
  clear hne3
  have hne3 : r3_b ≠ w4.heap.size := by have := r3.lt; omega
  replace r3 := (r3.alloc (.cells (vfn fun _ => 0) 23)).rowOther hne3 (vfn FB)
  clear hne3
  generalize (w4.alloc (.cells (vfn fun _ => 0) 23)).setRow w4.heap.size (vfn FB) = w4x at *
  generalize w4.heap.size = r4_b at *
  go_upto_region 6 with (first
    | (refine wpList_load_rowG ?hw _ _ rfl _ rfl _ _ _ _ p Try.underlying25 rfl ?hi ?_; (case hw => (first | rfl | (simp [Region.wanted, yielded]; done))); (case hi => (rw [mfn_size]; kernel_rfl)))
    | (refine wpList_load_rowG ?hw _ _ rfl _ rfl _ _ _ _ q Try.underlying25 rfl ?hi ?_; (case hw => (first | rfl | (simp [Region.wanted, yielded]; done))); (case hi => (rw [mfn_size]; kernel_rfl)))
    | (go_at_call 21; with_reducible refine (C1.out _).mono ?_; rintro e w5 ⟨rfl, hb⟩; replace hB := hB.trans (hb.mono hB.size); replace p := p.below hb p.lt; replace q := q.below hb q.lt; replace v := v.below hb v.lt; replace r1 := r1.below hb r1.lt; replace r2 := r2.below hb r2.lt; replace r3 := r3.below hb r3.lt; replace r4 := r4.below hb r4.lt; clear hb)
    | (rw [zero_mat]; refine wpList_store_row rfl _ _ _ rfl _ rfl _ rfl _ _ (blk.new _ _ _) (by rw [mfn_size]; kernel_rfl) (by simp only [mfn_size]) (mfn_one _) ?_))
  have r5 := (blk.new w5 (mfn fun _ => 0) 25).row (mfn FC)
  replace hB := Below.setRow (hB.alloc hB.size (.cells (mfn fun _ => 0) 25)) (g := w5.heap.size) hB.size (mfn FC)
  have hne3 : w.heap.size ≠ w5.heap.size := by have := p.lt; omega
  replace p := (p.alloc (.cells (mfn fun _ => 0) 25)).rowOther hne3 (mfn FC)
  clear hne3
  have hne3 : w.heap.size + 1 ≠ w5.heap.size := by have := q.lt; omega
  replace q := (q.alloc (.cells (mfn fun _ => 0) 25)).rowOther hne3 (mfn FC)
  clear hne3
  have hne3 : w.heap.size + 1 + 1 ≠ w5.heap.size := by have := v.lt; omega
  replace v := (v.alloc (.cells (mfn fun _ => 0) 25)).rowOther hne3 (mfn FC)
  clear hne3
  have hne3 : r1_b ≠ w5.heap.size := by have := r1.lt; omega
  replace r1 := (r1.alloc (.cells (mfn fun _ => 0) 25)).rowOther hne3 (mfn FC)
  clear hne3
  have hne3 : r2_b ≠ w5.heap.size := by have := r2.lt; omega
  replace r2 := (r2.alloc (.cells (mfn fun _ => 0) 25)).rowOther hne3 (mfn FC)
  clear hne3
  have hne3 : r3_b ≠ w5.heap.size := by have := r3.lt; omega
  replace r3 := (r3.alloc (.cells (mfn fun _ => 0) 25)).rowOther hne3 (mfn FC)
  clear hne3
  have hne3 : r4_b ≠ w5.heap.size := by have := r4.lt; omega
  replace r4 := (r4.alloc (.cells (mfn fun _ => 0) 25)).rowOther hne3 (mfn FC)
  clear hne3
  generalize (w5.alloc (.cells (mfn fun _ => 0) 25)).setRow w5.heap.size (mfn FC) = w5x at *
  generalize w5.heap.size = r5_b at *
  go_upto_region 7 with (first
    | (refine wpList_load_rowG ?hw _ _ rfl _ rfl _ _ _ _ p Try.underlying25 rfl ?hi ?_; (case hw => (first | rfl | (simp [Region.wanted, yielded]; done))); (case hi => (rw [mfn_size]; kernel_rfl)))
    | (refine wpList_load_rowG ?hw _ _ rfl _ rfl _ _ _ _ q Try.underlying25 rfl ?hi ?_; (case hw => (first | rfl | (simp [Region.wanted, yielded]; done))); (case hi => (rw [mfn_size]; kernel_rfl)))
    | (go_at_call 22; with_reducible refine (C2.out _).mono ?_; rintro e w6 ⟨rfl, hb⟩; replace hB := hB.trans (hb.mono hB.size); replace p := p.below hb p.lt; replace q := q.below hb q.lt; replace v := v.below hb v.lt; replace r1 := r1.below hb r1.lt; replace r2 := r2.below hb r2.lt; replace r3 := r3.below hb r3.lt; replace r4 := r4.below hb r4.lt; replace r5 := r5.below hb r5.lt; clear hb)
    | (rw [zero_mat]; refine wpList_store_row rfl _ _ _ rfl _ rfl _ rfl _ _ (blk.new _ _ _) (by rw [mfn_size]; kernel_rfl) (by simp only [mfn_size]) (mfn_one _) ?_))
  have r6 := (blk.new w6 (mfn fun _ => 0) 25).row (mfn FC)
  replace hB := Below.setRow (hB.alloc hB.size (.cells (mfn fun _ => 0) 25)) (g := w6.heap.size) hB.size (mfn FC)
  have hne3 : w.heap.size ≠ w6.heap.size := by have := p.lt; omega
  replace p := (p.alloc (.cells (mfn fun _ => 0) 25)).rowOther hne3 (mfn FC)
  clear hne3
  have hne3 : w.heap.size + 1 ≠ w6.heap.size := by have := q.lt; omega
  replace q := (q.alloc (.cells (mfn fun _ => 0) 25)).rowOther hne3 (mfn FC)
  clear hne3
  have hne3 : w.heap.size + 1 + 1 ≠ w6.heap.size := by have := v.lt; omega
  replace v := (v.alloc (.cells (mfn fun _ => 0) 25)).rowOther hne3 (mfn FC)
  clear hne3
  have hne3 : r1_b ≠ w6.heap.size := by have := r1.lt; omega
  replace r1 := (r1.alloc (.cells (mfn fun _ => 0) 25)).rowOther hne3 (mfn FC)
  clear hne3
  have hne3 : r2_b ≠ w6.heap.size := by have := r2.lt; omega
  replace r2 := (r2.alloc (.cells (mfn fun _ => 0) 25)).rowOther hne3 (mfn FC)
  clear hne3
  have hne3 : r3_b ≠ w6.heap.size := by have := r3.lt; omega
  replace r3 := (r3.alloc (.cells (mfn fun _ => 0) 25)).rowOther hne3 (mfn FC)
  clear hne3
  have hne3 : r4_b ≠ w6.heap.size := by have := r4.lt; omega
  replace r4 := (r4.alloc (.cells (mfn fun _ => 0) 25)).rowOther hne3 (mfn FC)
  clear hne3
  have hne3 : r5_b ≠ w6.heap.size := by have := r5.lt; omega
  replace r5 := (r5.alloc (.cells (mfn fun _ => 0) 25)).rowOther hne3 (mfn FC)
  clear hne3
  generalize (w6.alloc (.cells (mfn fun _ => 0) 25)).setRow w6.heap.size (mfn FC) = w6x at *
  generalize w6.heap.size = r6_b at *
  go_wp2_with (first
    | (refine wpList_load_rowG ?hw _ _ rfl _ rfl _ _ _ _ r1 Try.underlying23 rfl ?hi ?_; (case hw => (first | rfl | (simp [Region.wanted, yielded]; done))); (case hi => (rw [vfn_size]; kernel_rfl)))
    | (refine wpList_load_rowG ?hw _ _ rfl _ rfl _ _ _ _ r2 Try.underlying23 rfl ?hi ?_; (case hw => (first | rfl | (simp [Region.wanted, yielded]; done))); (case hi => (rw [vfn_size]; kernel_rfl)))
    | (refine wpList_load_rowG ?hw _ _ rfl _ rfl _ _ _ _ r3 Try.underlying23 rfl ?hi ?_; (case hw => (first | rfl | (simp [Region.wanted, yielded]; done))); (case hi => (rw [vfn_size]; kernel_rfl)))
    | (refine wpList_load_rowG ?hw _ _ rfl _ rfl _ _ _ _ r4 Try.underlying23 rfl ?hi ?_; (case hw => (first | rfl | (simp [Region.wanted, yielded]; done))); (case hi => (rw [vfn_size]; kernel_rfl)))
    | (refine wpList_load_rowG ?hw _ _ rfl _ rfl _ _ _ _ r5 Try.underlying25 rfl ?hi ?_; (case hw => (first | rfl | (simp [Region.wanted, yielded]; done))); (case hi => (rw [mfn_size]; kernel_rfl)))
    | (refine wpList_load_rowG ?hw _ _ rfl _ rfl _ _ _ _ r6 Try.underlying25 rfl ?hi ?_; (case hw => (first | rfl | (simp [Region.wanted, yielded]; done))); (case hi => (rw [mfn_size]; kernel_rfl)))
    | (go_at_call 23; refine (awakeV_any _).mono ?_; rintro e wx ⟨rfl, hb⟩; replace hB := hB.trans (hb.mono hB.size); clear hb))
  go_ret
  exact ⟨rfl, hB⟩
end Go.Proofs.Ythkklhfnmodpnaa
