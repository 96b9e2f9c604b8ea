/-
  VectorsSums returns true: the walk.
-/
import Derived.Test.YtmanfiphdmmgdaaVecI
import Derived.Test.YtmanfiphdmmgdaaLawVec
import Derived.Test.YtmanfiphdmmgdaaDet4
set_option linter.unusedSimpArgs false
set_option linter.unusedVariables false
namespace Go.Proofs.Ytmanfiphdmmgdaa
open Go.RowKit PM Dt
set_option maxRecDepth 100000 in
set_option maxHeartbeats 4000000 in
theorem sums_any (f g : Nat → Int) (k : Int) (w : World) (hg : ∀ i, i < 3 → I64 (g i)) (hk : I64 k) : Calls Try.prog 12 #[.agg (vfn f), .agg (vfn g), .int .i64 k] w fun e w' => e = .returned (.bool true) ∧ Below w.heap.size w w' := by
  have A1 := Lib.hid (fun w => vadd_any f g w)
  have A2 := Lib.hid (fun w => rvadd_any f g w)
  have B1 := Lib.hid (fun w => vsub_any f g w)
  have B2 := Lib.hid (fun w => rvsub_any f g w hg)
  have C1 := Lib.hid (fun w => vscale_any f k w hk)
  have C2 := Lib.hid (fun w => rvscale_any f k w hk)
  have V1 := Lib.hid (fun w => valid_any f w)
  have V2 := Lib.hid (fun w => rvalid_any f w)
  generalize vaddF f g = FA at *
  generalize vaddE f g = EA at *
  generalize vsubF f g = FB at *
  generalize vsubE f g = EB at *
  generalize vscaleF f k = FC at *
  generalize vscaleE f k = EC at *
  generalize okV f = bv at *
  have hqA := vec_eq_self FA
  have hqB := vec_eq_self FB
  have hqC := vec_eq_self FC
  clear hg hk
  go_enter Try.func12, Try.ntmps12
  go_upto_region 1 with (fail)
  have p : blk ((w.alloc (.cells (vfn f) 23)).alloc (.cells (vfn g) 23)) w.heap.size (vfn f) 23 := (blk.new _ _ _).alloc _
  have q : blk ((w.alloc (.cells (vfn f) 23)).alloc (.cells (vfn g) 23)) (w.heap.size + 1) (vfn g) 23 := blk.new' (by simp)
  have hB : Below w.heap.size w ((w.alloc (.cells (vfn f) 23)).alloc (.cells (vfn g) 23)) := by go_grown
  generalize (w.alloc (.cells (vfn f) 23)).alloc (.cells (vfn g) 23) = w0 at *
  go_upto_region 2 with (first
    | (refine wpList_load_rowG ?hw _ _ rfl _ rfl _ _ _ _ p Try.underlying23 rfl ?hi ?_; (case hw => (first | rfl | (simp [Region.wanted, yielded]; done))); (case hi => (rw [vfn_size]; kernel_rfl)))
    | (refine wpList_load_rowG ?hw _ _ rfl _ rfl _ _ _ _ q Try.underlying23 rfl ?hi ?_; (case hw => (first | rfl | (simp [Region.wanted, yielded]; done))); (case hi => (rw [vfn_size]; kernel_rfl)))
    | (go_at_call 22; with_reducible refine (A1.out _).mono ?_; rintro e w1 ⟨rfl, hb⟩; replace hB := hB.trans (hb.mono hB.size); replace p := p.below hb p.lt; replace q := q.below hb q.lt; clear hb)
    | (rw [zero_vec]; refine wpList_store_row rfl _ _ _ rfl _ rfl _ rfl _ _ (blk.new _ _ _) (by rw [vfn_size]; kernel_rfl) (by simp only [vfn_size]) (vfn_one _) ?_))
  have r1 := (blk.new w1 (vfn fun _ => 0) 23).row (vfn FA)
  replace hB := Below.setRow (hB.alloc hB.size (.cells (vfn fun _ => 0) 23)) (g := w1.heap.size) hB.size (vfn FA)
  have hne1 : w.heap.size ≠ w1.heap.size := by have := p.lt; omega
  have hne2 : w.heap.size + 1 ≠ w1.heap.size := by have := q.lt; omega
  replace p := (p.alloc (.cells (vfn fun _ => 0) 23)).rowOther hne1 (vfn FA)
  replace q := (q.alloc (.cells (vfn fun _ => 0) 23)).rowOther hne2 (vfn FA)
  generalize (w1.alloc (.cells (vfn fun _ => 0) 23)).setRow w1.heap.size (vfn FA) = w1x at *
  generalize w1.heap.size = r1_b at *
  clear hne1 hne2
  go_upto_region 3 with (first
    | (refine wpList_load_rowG ?hw _ _ rfl _ rfl _ _ _ _ p Try.underlying23 rfl ?hi ?_; (case hw => (first | rfl | (simp [Region.wanted, yielded]; done))); (case hi => (rw [vfn_size]; kernel_rfl)))
    | (refine wpList_load_rowG ?hw _ _ rfl _ rfl _ _ _ _ q Try.underlying23 rfl ?hi ?_; (case hw => (first | rfl | (simp [Region.wanted, yielded]; done))); (case hi => (rw [vfn_size]; kernel_rfl)))
    | (go_at_call 52; with_reducible refine (A2.out _).mono ?_; rintro e w2 ⟨rfl, hb⟩; replace hB := hB.trans (hb.mono hB.size); replace p := p.below hb p.lt; replace q := q.below hb q.lt; replace r1 := r1.below hb r1.lt; clear hb)
    | (rw [zero_vec]; refine wpList_store_row rfl _ _ _ rfl _ rfl _ rfl _ _ (blk.new _ _ _) (by rw [vfn_size]; kernel_rfl) (by simp only [vfn_size]) (vfn_one _) ?_))
  have r2 := (blk.new w2 (vfn fun _ => 0) 23).row (vfn FA)
  replace hB := Below.setRow (hB.alloc hB.size (.cells (vfn fun _ => 0) 23)) (g := w2.heap.size) hB.size (vfn FA)
  have hne1 : w.heap.size ≠ w2.heap.size := by have := p.lt; omega
  have hne2 : w.heap.size + 1 ≠ w2.heap.size := by have := q.lt; omega
  replace p := (p.alloc (.cells (vfn fun _ => 0) 23)).rowOther hne1 (vfn FA)
  replace q := (q.alloc (.cells (vfn fun _ => 0) 23)).rowOther hne2 (vfn FA)
  have hne3 : r1_b ≠ w2.heap.size := by have := r1.lt; omega
  replace r1 := (r1.alloc (.cells (vfn fun _ => 0) 23)).rowOther hne3 (vfn FA)
  clear hne3
  generalize (w2.alloc (.cells (vfn fun _ => 0) 23)).setRow w2.heap.size (vfn FA) = w2x at *
  generalize w2.heap.size = r2_b at *
  clear hne1 hne2
  go_upto_region 4 with (first
    | (refine wpList_load_rowG ?hw _ _ rfl _ rfl _ _ _ _ p Try.underlying23 rfl ?hi ?_; (case hw => (first | rfl | (simp [Region.wanted, yielded]; done))); (case hi => (rw [vfn_size]; kernel_rfl)))
    | (refine wpList_load_rowG ?hw _ _ rfl _ rfl _ _ _ _ q Try.underlying23 rfl ?hi ?_; (case hw => (first | rfl | (simp [Region.wanted, yielded]; done))); (case hi => (rw [vfn_size]; kernel_rfl)))
    | (go_at_call 53; with_reducible refine (B1.out _).mono ?_; rintro e w3 ⟨rfl, hb⟩; replace hB := hB.trans (hb.mono hB.size); replace p := p.below hb p.lt; replace q := q.below hb q.lt; replace r1 := r1.below hb r1.lt; replace r2 := r2.below hb r2.lt; clear hb)
    | (rw [zero_vec]; refine wpList_store_row rfl _ _ _ rfl _ rfl _ rfl _ _ (blk.new _ _ _) (by rw [vfn_size]; kernel_rfl) (by simp only [vfn_size]) (vfn_one _) ?_))
  have r3 := (blk.new w3 (vfn fun _ => 0) 23).row (vfn FB)
  replace hB := Below.setRow (hB.alloc hB.size (.cells (vfn fun _ => 0) 23)) (g := w3.heap.size) hB.size (vfn FB)
  have hne1 : w.heap.size ≠ w3.heap.size := by have := p.lt; omega
  have hne2 : w.heap.size + 1 ≠ w3.heap.size := by have := q.lt; omega
  replace p := (p.alloc (.cells (vfn fun _ => 0) 23)).rowOther hne1 (vfn FB)
  replace q := (q.alloc (.cells (vfn fun _ => 0) 23)).rowOther hne2 (vfn FB)
  have hne3 : r1_b ≠ w3.heap.size := by have := r1.lt; omega
  replace r1 := (r1.alloc (.cells (vfn fun _ => 0) 23)).rowOther hne3 (vfn FB)
  clear hne3
  have hne3 : r2_b ≠ w3.heap.size := by have := r2.lt; omega
  replace r2 := (r2.alloc (.cells (vfn fun _ => 0) 23)).rowOther hne3 (vfn FB)
  clear hne3
  generalize (w3.alloc (.cells (vfn fun _ => 0) 23)).setRow w3.heap.size (vfn FB) = w3x at *
  generalize w3.heap.size = r3_b at *
  clear hne1 hne2
  go_upto_region 5 with (first
    | (refine wpList_load_rowG ?hw _ _ rfl _ rfl _ _ _ _ p Try.underlying23 rfl ?hi ?_; (case hw => (first | rfl | (simp [Region.wanted, yielded]; done))); (case hi => (rw [vfn_size]; kernel_rfl)))
    | (refine wpList_load_rowG ?hw _ _ rfl _ rfl _ _ _ _ q Try.underlying23 rfl ?hi ?_; (case hw => (first | rfl | (simp [Region.wanted, yielded]; done))); (case hi => (rw [vfn_size]; kernel_rfl)))
    | (go_at_call 54; with_reducible refine (B2.out _).mono ?_; rintro e w4 ⟨rfl, hb⟩; replace hB := hB.trans (hb.mono hB.size); replace p := p.below hb p.lt; replace q := q.below hb q.lt; replace r1 := r1.below hb r1.lt; replace r2 := r2.below hb r2.lt; replace r3 := r3.below hb r3.lt; clear hb)
    | (rw [zero_vec]; refine wpList_store_row rfl _ _ _ rfl _ rfl _ rfl _ _ (blk.new _ _ _) (by rw [vfn_size]; kernel_rfl) (by simp only [vfn_size]) (vfn_one _) ?_))
  have r4 := (blk.new w4 (vfn fun _ => 0) 23).row (vfn FB)
  replace hB := Below.setRow (hB.alloc hB.size (.cells (vfn fun _ => 0) 23)) (g := w4.heap.size) hB.size (vfn FB)
  have hne1 : w.heap.size ≠ w4.heap.size := by have := p.lt; omega
  have hne2 : w.heap.size + 1 ≠ w4.heap.size := by have := q.lt; omega
  replace p := (p.alloc (.cells (vfn fun _ => 0) 23)).rowOther hne1 (vfn FB)
  replace q := (q.alloc (.cells (vfn fun _ => 0) 23)).rowOther hne2 (vfn FB)
  have hne3 : r1_b ≠ w4.heap.size := by have := r1.lt; omega
  replace r1 := (r1.alloc (.cells (vfn fun _ => 0) 23)).rowOther hne3 (vfn FB)
  clear hne3
  have hne3 : r2_b ≠ w4.heap.size := by have := r2.lt; omega
  replace r2 := (r2.alloc (.cells (vfn fun _ => 0) 23)).rowOther hne3 (vfn FB)
  clear hne3
  have hne3 : r3_b ≠ w4.heap.size := by have := r3.lt; omega
  replace r3 := (r3.alloc (.cells (vfn fun _ => 0) 23)).rowOther hne3 (vfn FB)
  clear hne3
  generalize (w4.alloc (.cells (vfn fun _ => 0) 23)).setRow w4.heap.size (vfn FB) = w4x at *
  generalize w4.heap.size = r4_b at *
  clear hne1 hne2
  go_upto_region 6 with (first
    | (refine wpList_load_rowG ?hw _ _ rfl _ rfl _ _ _ _ p Try.underlying23 rfl ?hi ?_; (case hw => (first | rfl | (simp [Region.wanted, yielded]; done))); (case hi => (rw [vfn_size]; kernel_rfl)))
    | (refine wpList_load_rowG ?hw _ _ rfl _ rfl _ _ _ _ q Try.underlying23 rfl ?hi ?_; (case hw => (first | rfl | (simp [Region.wanted, yielded]; done))); (case hi => (rw [vfn_size]; kernel_rfl)))
    | (go_at_call 55; with_reducible refine (C1.out _).mono ?_; rintro e w5 ⟨rfl, hb⟩; replace hB := hB.trans (hb.mono hB.size); replace p := p.below hb p.lt; replace q := q.below hb q.lt; replace r1 := r1.below hb r1.lt; replace r2 := r2.below hb r2.lt; replace r3 := r3.below hb r3.lt; replace r4 := r4.below hb r4.lt; clear hb)
    | (rw [zero_vec]; refine wpList_store_row rfl _ _ _ rfl _ rfl _ rfl _ _ (blk.new _ _ _) (by rw [vfn_size]; kernel_rfl) (by simp only [vfn_size]) (vfn_one _) ?_))
  have r5 := (blk.new w5 (vfn fun _ => 0) 23).row (vfn FC)
  replace hB := Below.setRow (hB.alloc hB.size (.cells (vfn fun _ => 0) 23)) (g := w5.heap.size) hB.size (vfn FC)
  have hne1 : w.heap.size ≠ w5.heap.size := by have := p.lt; omega
  have hne2 : w.heap.size + 1 ≠ w5.heap.size := by have := q.lt; omega
  replace p := (p.alloc (.cells (vfn fun _ => 0) 23)).rowOther hne1 (vfn FC)
  replace q := (q.alloc (.cells (vfn fun _ => 0) 23)).rowOther hne2 (vfn FC)
  have hne3 : r1_b ≠ w5.heap.size := by have := r1.lt; omega
  replace r1 := (r1.alloc (.cells (vfn fun _ => 0) 23)).rowOther hne3 (vfn FC)
  clear hne3
  have hne3 : r2_b ≠ w5.heap.size := by have := r2.lt; omega
  replace r2 := (r2.alloc (.cells (vfn fun _ => 0) 23)).rowOther hne3 (vfn FC)
  clear hne3
  have hne3 : r3_b ≠ w5.heap.size := by have := r3.lt; omega
  replace r3 := (r3.alloc (.cells (vfn fun _ => 0) 23)).rowOther hne3 (vfn FC)
  clear hne3
  have hne3 : r4_b ≠ w5.heap.size := by have := r4.lt; omega
  replace r4 := (r4.alloc (.cells (vfn fun _ => 0) 23)).rowOther hne3 (vfn FC)
  clear hne3
  generalize (w5.alloc (.cells (vfn fun _ => 0) 23)).setRow w5.heap.size (vfn FC) = w5x at *
  generalize w5.heap.size = r5_b at *
  clear hne1 hne2
  go_upto_region 7 with (first
    | (refine wpList_load_rowG ?hw _ _ rfl _ rfl _ _ _ _ p Try.underlying23 rfl ?hi ?_; (case hw => (first | rfl | (simp [Region.wanted, yielded]; done))); (case hi => (rw [vfn_size]; kernel_rfl)))
    | (refine wpList_load_rowG ?hw _ _ rfl _ rfl _ _ _ _ q Try.underlying23 rfl ?hi ?_; (case hw => (first | rfl | (simp [Region.wanted, yielded]; done))); (case hi => (rw [vfn_size]; kernel_rfl)))
    | (go_at_call 56; with_reducible refine (C2.out _).mono ?_; rintro e w6 ⟨rfl, hb⟩; replace hB := hB.trans (hb.mono hB.size); replace p := p.below hb p.lt; replace q := q.below hb q.lt; replace r1 := r1.below hb r1.lt; replace r2 := r2.below hb r2.lt; replace r3 := r3.below hb r3.lt; replace r4 := r4.below hb r4.lt; replace r5 := r5.below hb r5.lt; clear hb)
    | (rw [zero_vec]; refine wpList_store_row rfl _ _ _ rfl _ rfl _ rfl _ _ (blk.new _ _ _) (by rw [vfn_size]; kernel_rfl) (by simp only [vfn_size]) (vfn_one _) ?_))
  have r6 := (blk.new w6 (vfn fun _ => 0) 23).row (vfn FC)
  replace hB := Below.setRow (hB.alloc hB.size (.cells (vfn fun _ => 0) 23)) (g := w6.heap.size) hB.size (vfn FC)
  have hne1 : w.heap.size ≠ w6.heap.size := by have := p.lt; omega
  have hne2 : w.heap.size + 1 ≠ w6.heap.size := by have := q.lt; omega
  replace p := (p.alloc (.cells (vfn fun _ => 0) 23)).rowOther hne1 (vfn FC)
  replace q := (q.alloc (.cells (vfn fun _ => 0) 23)).rowOther hne2 (vfn FC)
  have hne3 : r1_b ≠ w6.heap.size := by have := r1.lt; omega
  replace r1 := (r1.alloc (.cells (vfn fun _ => 0) 23)).rowOther hne3 (vfn FC)
  clear hne3
  have hne3 : r2_b ≠ w6.heap.size := by have := r2.lt; omega
  replace r2 := (r2.alloc (.cells (vfn fun _ => 0) 23)).rowOther hne3 (vfn FC)
  clear hne3
  have hne3 : r3_b ≠ w6.heap.size := by have := r3.lt; omega
  replace r3 := (r3.alloc (.cells (vfn fun _ => 0) 23)).rowOther hne3 (vfn FC)
  clear hne3
  have hne3 : r4_b ≠ w6.heap.size := by have := r4.lt; omega
  replace r4 := (r4.alloc (.cells (vfn fun _ => 0) 23)).rowOther hne3 (vfn FC)
  clear hne3
  have hne3 : r5_b ≠ w6.heap.size := by have := r5.lt; omega
  replace r5 := (r5.alloc (.cells (vfn fun _ => 0) 23)).rowOther hne3 (vfn FC)
  clear hne3
  generalize (w6.alloc (.cells (vfn fun _ => 0) 23)).setRow w6.heap.size (vfn FC) = w6x at *
  generalize w6.heap.size = r6_b at *
  clear hne1 hne2
  refine wp_region_X 38 (by kernel_rfl) (by kernel_rfl) ?_
  replace p := p.drew
  replace r1 := r1.drew
  replace r2 := r2.drew
  replace r3 := r3.drew
  replace r4 := r4.drew
  replace r5 := r5.drew
  replace r6 := r6.drew
  replace hB : Below w.heap.size w w6x.drew := hB.drew
  generalize w6x.drew = wo at *
  refine wpX_takeG 0 (.agg (vfn FA)) rfl (by first | rfl | simp [Region.wanted, yielded]) (by kernel_rfl) (fun w1 h1 => detR_row _ _ rfl _ rfl _ _ _ (r1.below h1 r1.lt) Try.underlying23 rfl (by rw [vfn_size]; kernel_rfl) rfl) ?_
  simp only [Act.put, List.setIfInBounds_toArray, List.set_cons_zero, List.set_cons_succ]
  refine wpX_takeG 1 (.agg (vfn FA)) rfl (by first | rfl | simp [Region.wanted, yielded]) (by kernel_rfl) (fun w1 h1 => detR_row _ _ rfl _ rfl _ _ _ (r2.below h1 r2.lt) Try.underlying23 rfl (by rw [vfn_size]; kernel_rfl) rfl) ?_
  simp only [Act.put, List.setIfInBounds_toArray, List.set_cons_zero, List.set_cons_succ]
  refine wpX_takeG 2 (.bool true) rfl (by first | rfl | simp [Region.wanted, yielded]) (by kernel_rfl) (fun w1 h1 => by go_simp; first | exact ⟨rfl, Below.refl _ _⟩ | (simp only [hqA, hqB, hqC]; exact ⟨rfl, Below.refl _ _⟩) | (simp; exact Below.refl _ _)) ?_
  simp only [Act.put, List.setIfInBounds_toArray, List.set_cons_zero, List.set_cons_succ]
  refine wpX_takeG 3 (.bool true) rfl (by first | rfl | simp [Region.wanted, yielded]) (by kernel_rfl) (fun w1 h1 => by go_simp; exact ⟨rfl, Below.refl _ _⟩) ?_
  simp only [Act.put, List.setIfInBounds_toArray, List.set_cons_zero, List.set_cons_succ]
  refine wpX_takeG 4 (.int .i64 EA) rfl (by first | rfl | simp [Region.wanted, yielded]) (by kernel_rfl) (fun w1 h1 => by go_simp; exact ⟨rfl, Below.refl _ _⟩) ?_
  simp only [Act.put, List.setIfInBounds_toArray, List.set_cons_zero, List.set_cons_succ]
  refine wpX_takeG 5 (.int .i64 EA) rfl (by first | rfl | simp [Region.wanted, yielded]) (by kernel_rfl) (fun w1 h1 => by go_simp; exact ⟨rfl, Below.refl _ _⟩) ?_
  simp only [Act.put, List.setIfInBounds_toArray, List.set_cons_zero, List.set_cons_succ]
  refine wpX_takeG 6 (.bool true) rfl (by first | rfl | simp [Region.wanted, yielded]) (by kernel_rfl) (fun w1 h1 => by go_simp; first | exact ⟨rfl, Below.refl _ _⟩ | (simp only [hqA, hqB, hqC]; exact ⟨rfl, Below.refl _ _⟩) | (simp; exact Below.refl _ _)) ?_
  simp only [Act.put, List.setIfInBounds_toArray, List.set_cons_zero, List.set_cons_succ]
  refine wpX_takeG 7 (.bool true) rfl (by first | rfl | simp [Region.wanted, yielded]) (by kernel_rfl) (fun w1 h1 => by go_simp; exact ⟨rfl, Below.refl _ _⟩) ?_
  simp only [Act.put, List.setIfInBounds_toArray, List.set_cons_zero, List.set_cons_succ]
  refine wpX_takeG 8 (.bool true) rfl (by first | rfl | simp [Region.wanted, yielded]) (by kernel_rfl) (fun w1 h1 => by go_simp; exact ⟨rfl, Below.refl _ _⟩) ?_
  simp only [Act.put, List.setIfInBounds_toArray, List.set_cons_zero, List.set_cons_succ]
  refine wpX_takeG 9 (.agg (vfn FB)) rfl (by first | rfl | simp [Region.wanted, yielded]) (by kernel_rfl) (fun w1 h1 => detR_row _ _ rfl _ rfl _ _ _ (r3.below h1 r3.lt) Try.underlying23 rfl (by rw [vfn_size]; kernel_rfl) rfl) ?_
  simp only [Act.put, List.setIfInBounds_toArray, List.set_cons_zero, List.set_cons_succ]
  refine wpX_takeG 10 (.agg (vfn FB)) rfl (by first | rfl | simp [Region.wanted, yielded]) (by kernel_rfl) (fun w1 h1 => detR_row _ _ rfl _ rfl _ _ _ (r4.below h1 r4.lt) Try.underlying23 rfl (by rw [vfn_size]; kernel_rfl) rfl) ?_
  simp only [Act.put, List.setIfInBounds_toArray, List.set_cons_zero, List.set_cons_succ]
  refine wpX_takeG 11 (.bool true) rfl (by first | rfl | simp [Region.wanted, yielded]) (by kernel_rfl) (fun w1 h1 => by go_simp; first | exact ⟨rfl, Below.refl _ _⟩ | (simp only [hqA, hqB, hqC]; exact ⟨rfl, Below.refl _ _⟩) | (simp; exact Below.refl _ _)) ?_
  simp only [Act.put, List.setIfInBounds_toArray, List.set_cons_zero, List.set_cons_succ]
  refine wpX_takeG 12 (.bool true) rfl (by first | rfl | simp [Region.wanted, yielded]) (by kernel_rfl) (fun w1 h1 => by go_simp; exact ⟨rfl, Below.refl _ _⟩) ?_
  simp only [Act.put, List.setIfInBounds_toArray, List.set_cons_zero, List.set_cons_succ]
  refine wpX_takeG 13 (.bool true) rfl (by first | rfl | simp [Region.wanted, yielded]) (by kernel_rfl) (fun w1 h1 => by go_simp; exact ⟨rfl, Below.refl _ _⟩) ?_
  simp only [Act.put, List.setIfInBounds_toArray, List.set_cons_zero, List.set_cons_succ]
  refine wpX_takeG 14 (.int .i64 EB) rfl (by first | rfl | simp [Region.wanted, yielded]) (by kernel_rfl) (fun w1 h1 => by go_simp; exact ⟨rfl, Below.refl _ _⟩) ?_
  simp only [Act.put, List.setIfInBounds_toArray, List.set_cons_zero, List.set_cons_succ]
  refine wpX_takeG 15 (.int .i64 EB) rfl (by first | rfl | simp [Region.wanted, yielded]) (by kernel_rfl) (fun w1 h1 => by go_simp; exact ⟨rfl, Below.refl _ _⟩) ?_
  simp only [Act.put, List.setIfInBounds_toArray, List.set_cons_zero, List.set_cons_succ]
  refine wpX_takeG 16 (.bool true) rfl (by first | rfl | simp [Region.wanted, yielded]) (by kernel_rfl) (fun w1 h1 => by go_simp; first | exact ⟨rfl, Below.refl _ _⟩ | (simp only [hqA, hqB, hqC]; exact ⟨rfl, Below.refl _ _⟩) | (simp; exact Below.refl _ _)) ?_
  simp only [Act.put, List.setIfInBounds_toArray, List.set_cons_zero, List.set_cons_succ]
  refine wpX_takeG 17 (.bool true) rfl (by first | rfl | simp [Region.wanted, yielded]) (by kernel_rfl) (fun w1 h1 => by go_simp; exact ⟨rfl, Below.refl _ _⟩) ?_
  simp only [Act.put, List.setIfInBounds_toArray, List.set_cons_zero, List.set_cons_succ]
  refine wpX_takeG 18 (.bool true) rfl (by first | rfl | simp [Region.wanted, yielded]) (by kernel_rfl) (fun w1 h1 => by go_simp; exact ⟨rfl, Below.refl _ _⟩) ?_
  simp only [Act.put, List.setIfInBounds_toArray, List.set_cons_zero, List.set_cons_succ]
  refine wpX_takeG 19 (.agg (vfn FC)) rfl (by first | rfl | simp [Region.wanted, yielded]) (by kernel_rfl) (fun w1 h1 => detR_row _ _ rfl _ rfl _ _ _ (r5.below h1 r5.lt) Try.underlying23 rfl (by rw [vfn_size]; kernel_rfl) rfl) ?_
  simp only [Act.put, List.setIfInBounds_toArray, List.set_cons_zero, List.set_cons_succ]
  refine wpX_takeG 20 (.agg (vfn FC)) rfl (by first | rfl | simp [Region.wanted, yielded]) (by kernel_rfl) (fun w1 h1 => detR_row _ _ rfl _ rfl _ _ _ (r6.below h1 r6.lt) Try.underlying23 rfl (by rw [vfn_size]; kernel_rfl) rfl) ?_
  simp only [Act.put, List.setIfInBounds_toArray, List.set_cons_zero, List.set_cons_succ]
  refine wpX_takeG 21 (.bool true) rfl (by first | rfl | simp [Region.wanted, yielded]) (by kernel_rfl) (fun w1 h1 => by go_simp; first | exact ⟨rfl, Below.refl _ _⟩ | (simp only [hqA, hqB, hqC]; exact ⟨rfl, Below.refl _ _⟩) | (simp; exact Below.refl _ _)) ?_
  simp only [Act.put, List.setIfInBounds_toArray, List.set_cons_zero, List.set_cons_succ]
  refine wpX_takeG 22 (.bool true) rfl (by first | rfl | simp [Region.wanted, yielded]) (by kernel_rfl) (fun w1 h1 => by go_simp; exact ⟨rfl, Below.refl _ _⟩) ?_
  simp only [Act.put, List.setIfInBounds_toArray, List.set_cons_zero, List.set_cons_succ]
  refine wpX_takeG 23 (.bool true) rfl (by first | rfl | simp [Region.wanted, yielded]) (by kernel_rfl) (fun w1 h1 => by go_simp; exact ⟨rfl, Below.refl _ _⟩) ?_
  simp only [Act.put, List.setIfInBounds_toArray, List.set_cons_zero, List.set_cons_succ]
  refine wpX_takeG 24 (.int .i64 EC) rfl (by first | rfl | simp [Region.wanted, yielded]) (by kernel_rfl) (fun w1 h1 => by go_simp; exact ⟨rfl, Below.refl _ _⟩) ?_
  simp only [Act.put, List.setIfInBounds_toArray, List.set_cons_zero, List.set_cons_succ]
  refine wpX_takeG 25 (.int .i64 EC) rfl (by first | rfl | simp [Region.wanted, yielded]) (by kernel_rfl) (fun w1 h1 => by go_simp; exact ⟨rfl, Below.refl _ _⟩) ?_
  simp only [Act.put, List.setIfInBounds_toArray, List.set_cons_zero, List.set_cons_succ]
  refine wpX_takeG 26 (.bool true) rfl (by first | rfl | simp [Region.wanted, yielded]) (by kernel_rfl) (fun w1 h1 => by go_simp; first | exact ⟨rfl, Below.refl _ _⟩ | (simp only [hqA, hqB, hqC]; exact ⟨rfl, Below.refl _ _⟩) | (simp; exact Below.refl _ _)) ?_
  simp only [Act.put, List.setIfInBounds_toArray, List.set_cons_zero, List.set_cons_succ]
  refine wpX_takeG 27 (.bool true) rfl (by first | rfl | simp [Region.wanted, yielded]) (by kernel_rfl) (fun w1 h1 => by go_simp; exact ⟨rfl, Below.refl _ _⟩) ?_
  simp only [Act.put, List.setIfInBounds_toArray, List.set_cons_zero, List.set_cons_succ]
  refine wpX_takeG 28 (.bool true) rfl (by first | rfl | simp [Region.wanted, yielded]) (by kernel_rfl) (fun w1 h1 => by go_simp; exact ⟨rfl, Below.refl _ _⟩) ?_
  simp only [Act.put, List.setIfInBounds_toArray, List.set_cons_zero, List.set_cons_succ]
  refine wpX_takeG 29 (.agg (vfn f)) rfl (by first | rfl | simp [Region.wanted, yielded]) (by kernel_rfl) (fun w1 h1 => detR_row _ _ rfl _ rfl _ _ _ (p.below h1 p.lt) Try.underlying23 rfl (by rw [vfn_size]; kernel_rfl) rfl) ?_
  simp only [Act.put, List.setIfInBounds_toArray, List.set_cons_zero, List.set_cons_succ]
  refine wpX_takeG 30 (.bool bv) rfl (by first | rfl | simp [Region.wanted, yielded]) (by kernel_rfl) (fun w1 h1 => ?_) ?_
  · go_simp
    refine (V1.out _).mono ?_
    rintro e wz ⟨rfl, h2⟩
    exact ⟨rfl, h2⟩
  simp only [Act.put, List.setIfInBounds_toArray, List.set_cons_zero, List.set_cons_succ]
  refine wpX_takeG 31 (.agg (vfn f)) rfl (by first | rfl | simp [Region.wanted, yielded]) (by kernel_rfl) (fun w1 h1 => detR_row _ _ rfl _ rfl _ _ _ (p.below h1 p.lt) Try.underlying23 rfl (by rw [vfn_size]; kernel_rfl) rfl) ?_
  simp only [Act.put, List.setIfInBounds_toArray, List.set_cons_zero, List.set_cons_succ]
  refine wpX_takeG 32 (.bool bv) rfl (by first | rfl | simp [Region.wanted, yielded]) (by kernel_rfl) (fun w1 h1 => ?_) ?_
  · go_simp
    refine (V2.out _).mono ?_
    rintro e wz ⟨rfl, h2⟩
    exact ⟨rfl, h2⟩
  simp only [Act.put, List.setIfInBounds_toArray, List.set_cons_zero, List.set_cons_succ]
  refine wpX_takeG 33 (.bool true) rfl (by first | rfl | simp [Region.wanted, yielded]) (by kernel_rfl) (fun w1 h1 => by go_simp; first | exact ⟨rfl, Below.refl _ _⟩ | (simp only [hqA, hqB, hqC]; exact ⟨rfl, Below.refl _ _⟩) | (simp; exact Below.refl _ _)) ?_
  simp only [Act.put, List.setIfInBounds_toArray, List.set_cons_zero, List.set_cons_succ]
  refine wpX_takeG 34 (.bool true) rfl (by first | rfl | simp [Region.wanted, yielded]) (by kernel_rfl) (fun w1 h1 => by go_simp; exact ⟨rfl, Below.refl _ _⟩) ?_
  simp only [Act.put, List.setIfInBounds_toArray, List.set_cons_zero, List.set_cons_succ]
  refine wpX_takeG 35 (.bool true) rfl (by first | rfl | simp [Region.wanted, yielded]) (by kernel_rfl) (fun w1 h1 => by go_simp; exact ⟨rfl, Below.refl _ _⟩) ?_
  simp only [Act.put, List.setIfInBounds_toArray, List.set_cons_zero, List.set_cons_succ]
  refine wpX_takeG 36 (.bool true) rfl (by first | rfl | simp [Region.wanted, yielded]) (by kernel_rfl) (fun w1 h1 => ?_) ?_
  · go_simp
    refine (awakeV_any _).mono ?_
    rintro e wz ⟨rfl, h2⟩
    exact ⟨rfl, h2⟩
  simp only [Act.put, List.setIfInBounds_toArray, List.set_cons_zero, List.set_cons_succ]
  refine wpX_takeG 37 (.bool true) rfl (by first | rfl | simp [Region.wanted, yielded]) (by kernel_rfl) (fun w1 h1 => by go_simp; exact ⟨rfl, Below.refl _ _⟩) ?_
  simp only [Act.put, List.setIfInBounds_toArray, List.set_cons_zero, List.set_cons_succ]
  refine wpX_tail (by kernel_rfl) (fun wt ht => ?_)
  simp only [List.drop_succ_cons, List.drop_zero]
  replace hB := hB.trans (ht.mono hB.size)
  go_wp2_with (fail)
  go_ret
  exact ⟨rfl, hB⟩
end Go.Proofs.Ytmanfiphdmmgdaa
