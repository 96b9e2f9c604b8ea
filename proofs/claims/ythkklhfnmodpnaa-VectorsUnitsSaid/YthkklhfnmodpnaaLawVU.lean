/-
  VectorsUnits returns true: the walk.
-/
import Derived.Test.YthkklhfnmodpnaaLawVec
import Derived.Test.YthkklhfnmodpnaaVUnitP
import Derived.Test.YthkklhfnmodpnaaVUnitR
import Derived.Test.YthkklhfnmodpnaaVLimR
set_option linter.unusedSimpArgs false
set_option linter.unusedVariables false
namespace Go.Proofs.Ythkklhfnmodpnaa
open Go.RowKit PM Dt
set_option maxRecDepth 100000 in
set_option maxHeartbeats 4000000 in
theorem vunits_any (f : Nat → Int) (m : Int) (w : World) (hI : ∀ i, i < 3 → I64 (f i)) (hm : I64 m) : Calls Try.prog 13 #[.agg (vfn f), .int .i64 m] w fun e w' => e = .returned (.bool true) ∧ Below w.heap.size w w' := by
  have A1 := Lib.hid (fun w => vunit_any f w hI)
  have A2 := Lib.hid (fun w => rvunit_any f w hI)
  have B1 := Lib.hid (fun w => vlimit_any f m w hI hm)
  have B2 := Lib.hid (fun w => rvlimit_any f m w hm)
  generalize vunF f = FA at *
  generalize vunE f = EA at *
  generalize limF f m = FB at *
  generalize limE f m = EB at *
  have hqA := vec_eq_self FA
  have hqB := vec_eq_self FB
  clear hI hm
  go_enter Try.func13, Try.ntmps13
  go_upto_region 1 with (fail)
  have p : blk (w.alloc (.cells (vfn f) 23)) w.heap.size (vfn f) 23 := blk.new _ _ _
  have hB : Below w.heap.size w (w.alloc (.cells (vfn f) 23)) := by go_grown
  generalize w.alloc (.cells (vfn f) 23) = w0 at *
  go_upto_region 2 with (first
    | (refine wpList_load_rowG ?hw _ _ rfl _ rfl _ _ _ _ p Try.underlying23 rfl ?hi ?_; (case hw => (first | rfl | (simp [Region.wanted, yielded]; done))); (case hi => (rw [vfn_size]; kernel_rfl)))
    | (go_at_call 46; with_reducible refine (A1.out _).mono ?_; rintro e w1 ⟨rfl, hb⟩; replace hB := hB.trans (hb.mono hB.size); replace p := p.below hb p.lt; clear hb)
    | (rw [zero_vec]; refine wpList_store_row rfl _ _ _ rfl _ rfl _ rfl _ _ (blk.new _ _ _) (by rw [vfn_size]; kernel_rfl) (by simp only [vfn_size]) (vfn_one _) ?_))
  have r1 := (blk.new w1 (vfn fun _ => 0) 23).row (vfn FA)
  replace hB := Below.setRow (hB.alloc hB.size (.cells (vfn fun _ => 0) 23)) (g := w1.heap.size) hB.size (vfn FA)
  have hne : ∀ x, x < w1.heap.size → x ≠ w1.heap.size := fun x hx => Nat.ne_of_lt hx
  replace p := (p.alloc (.cells (vfn fun _ => 0) 23)).rowOther (hne _ p.lt) (vfn FA)
  clear hne
  generalize (w1.alloc (.cells (vfn fun _ => 0) 23)).setRow w1.heap.size (vfn FA) = w1x at *
  generalize w1.heap.size = r1_b at *
  go_upto_region 3 with (first
    | (refine wpList_load_rowG ?hw _ _ rfl _ rfl _ _ _ _ p Try.underlying23 rfl ?hi ?_; (case hw => (first | rfl | (simp [Region.wanted, yielded]; done))); (case hi => (rw [vfn_size]; kernel_rfl)))
    | (go_at_call 47; with_reducible refine (A2.out _).mono ?_; rintro e w2 ⟨rfl, hb⟩; replace hB := hB.trans (hb.mono hB.size); replace p := p.below hb p.lt; replace r1 := r1.below hb r1.lt; clear hb)
    | (rw [zero_vec]; refine wpList_store_row rfl _ _ _ rfl _ rfl _ rfl _ _ (blk.new _ _ _) (by rw [vfn_size]; kernel_rfl) (by simp only [vfn_size]) (vfn_one _) ?_))
  have r2 := (blk.new w2 (vfn fun _ => 0) 23).row (vfn FA)
  replace hB := Below.setRow (hB.alloc hB.size (.cells (vfn fun _ => 0) 23)) (g := w2.heap.size) hB.size (vfn FA)
  have hne : ∀ x, x < w2.heap.size → x ≠ w2.heap.size := fun x hx => Nat.ne_of_lt hx
  replace p := (p.alloc (.cells (vfn fun _ => 0) 23)).rowOther (hne _ p.lt) (vfn FA)
  replace r1 := (r1.alloc (.cells (vfn fun _ => 0) 23)).rowOther (hne _ r1.lt) (vfn FA)
  clear hne
  generalize (w2.alloc (.cells (vfn fun _ => 0) 23)).setRow w2.heap.size (vfn FA) = w2x at *
  generalize w2.heap.size = r2_b at *
  go_upto_region 4 with (first
    | (refine wpList_load_rowG ?hw _ _ rfl _ rfl _ _ _ _ p Try.underlying23 rfl ?hi ?_; (case hw => (first | rfl | (simp [Region.wanted, yielded]; done))); (case hi => (rw [vfn_size]; kernel_rfl)))
    | (go_at_call 48; with_reducible refine (B1.out _).mono ?_; rintro e w3 ⟨rfl, hb⟩; replace hB := hB.trans (hb.mono hB.size); replace p := p.below hb p.lt; replace r1 := r1.below hb r1.lt; replace r2 := r2.below hb r2.lt; clear hb)
    | (rw [zero_vec]; refine wpList_store_row rfl _ _ _ rfl _ rfl _ rfl _ _ (blk.new _ _ _) (by rw [vfn_size]; kernel_rfl) (by simp only [vfn_size]) (vfn_one _) ?_))
  have r3 := (blk.new w3 (vfn fun _ => 0) 23).row (vfn FB)
  replace hB := Below.setRow (hB.alloc hB.size (.cells (vfn fun _ => 0) 23)) (g := w3.heap.size) hB.size (vfn FB)
  have hne : ∀ x, x < w3.heap.size → x ≠ w3.heap.size := fun x hx => Nat.ne_of_lt hx
  replace p := (p.alloc (.cells (vfn fun _ => 0) 23)).rowOther (hne _ p.lt) (vfn FB)
  replace r1 := (r1.alloc (.cells (vfn fun _ => 0) 23)).rowOther (hne _ r1.lt) (vfn FB)
  replace r2 := (r2.alloc (.cells (vfn fun _ => 0) 23)).rowOther (hne _ r2.lt) (vfn FB)
  clear hne
  generalize (w3.alloc (.cells (vfn fun _ => 0) 23)).setRow w3.heap.size (vfn FB) = w3x at *
  generalize w3.heap.size = r3_b at *
  go_upto_region 5 with (first
    | (refine wpList_load_rowG ?hw _ _ rfl _ rfl _ _ _ _ p Try.underlying23 rfl ?hi ?_; (case hw => (first | rfl | (simp [Region.wanted, yielded]; done))); (case hi => (rw [vfn_size]; kernel_rfl)))
    | (go_at_call 49; with_reducible refine (B2.out _).mono ?_; rintro e w4 ⟨rfl, hb⟩; replace hB := hB.trans (hb.mono hB.size); replace p := p.below hb p.lt; replace r1 := r1.below hb r1.lt; replace r2 := r2.below hb r2.lt; replace r3 := r3.below hb r3.lt; clear hb)
    | (rw [zero_vec]; refine wpList_store_row rfl _ _ _ rfl _ rfl _ rfl _ _ (blk.new _ _ _) (by rw [vfn_size]; kernel_rfl) (by simp only [vfn_size]) (vfn_one _) ?_))
  have r4 := (blk.new w4 (vfn fun _ => 0) 23).row (vfn FB)
  replace hB := Below.setRow (hB.alloc hB.size (.cells (vfn fun _ => 0) 23)) (g := w4.heap.size) hB.size (vfn FB)
  have hne : ∀ x, x < w4.heap.size → x ≠ w4.heap.size := fun x hx => Nat.ne_of_lt hx
  replace p := (p.alloc (.cells (vfn fun _ => 0) 23)).rowOther (hne _ p.lt) (vfn FB)
  replace r1 := (r1.alloc (.cells (vfn fun _ => 0) 23)).rowOther (hne _ r1.lt) (vfn FB)
  replace r2 := (r2.alloc (.cells (vfn fun _ => 0) 23)).rowOther (hne _ r2.lt) (vfn FB)
  replace r3 := (r3.alloc (.cells (vfn fun _ => 0) 23)).rowOther (hne _ r3.lt) (vfn FB)
  clear hne
  generalize (w4.alloc (.cells (vfn fun _ => 0) 23)).setRow w4.heap.size (vfn FB) = w4x at *
  generalize w4.heap.size = r4_b at *
  go_wp2_with (first
    | (refine wpList_load_rowG ?hw _ _ rfl _ rfl _ _ _ _ r1 Try.underlying23 rfl ?hi ?_; (case hw => (first | rfl | (simp [Region.wanted, yielded]; done))); (case hi => (rw [vfn_size]; kernel_rfl)))
    | (refine wpList_load_rowG ?hw _ _ rfl _ rfl _ _ _ _ r2 Try.underlying23 rfl ?hi ?_; (case hw => (first | rfl | (simp [Region.wanted, yielded]; done))); (case hi => (rw [vfn_size]; kernel_rfl)))
    | (refine wpList_load_rowG ?hw _ _ rfl _ rfl _ _ _ _ r3 Try.underlying23 rfl ?hi ?_; (case hw => (first | rfl | (simp [Region.wanted, yielded]; done))); (case hi => (rw [vfn_size]; kernel_rfl)))
    | (refine wpList_load_rowG ?hw _ _ rfl _ rfl _ _ _ _ r4 Try.underlying23 rfl ?hi ?_; (case hw => (first | rfl | (simp [Region.wanted, yielded]; done))); (case hi => (rw [vfn_size]; kernel_rfl)))
    | (go_at_call 23; refine (awakeV_any _).mono ?_; rintro e wx ⟨rfl, hb⟩; replace hB := hB.trans (hb.mono hB.size); clear hb))
  go_ret
  exact ⟨rfl, hB⟩
end Go.Proofs.Ythkklhfnmodpnaa
