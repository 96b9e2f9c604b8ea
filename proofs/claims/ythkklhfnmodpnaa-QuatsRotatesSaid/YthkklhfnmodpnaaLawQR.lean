/-
  The equality of matrices. QuatsRotates returns true: the walk.
-/
import Derived.Test.YthkklhfnmodpnaaVecM
import Derived.Test.YthkklhfnmodpnaaLawVec
import Derived.Test.YthkklhfnmodpnaaLawQ
set_option linter.unusedSimpArgs false
set_option linter.unusedVariables false
namespace Go.Proofs.Ythkklhfnmodpnaa
open Go.RowKit PM Dt
theorem mat_part (F : Nat → Int) (j : Nat) (hj : j < 3) (w : World) : (part 23 (mfn F) (j * 3)).run Try.prog w = .ok (.agg (vfn (mrow F j))) w := by
  obtain ⟨i, hi⟩ : ∃ i, Try.prog.info? 23 = some i := Option.isSome_iff_exists.1 (by kernel_rfl)
  have hc : Try.prog.cellsOf 23 = 3 := by kernel_rfl
  have hagg : (isAgg 23).run Try.prog w = .ok true w := by
    unfold isAgg; rw [Sem.run_bind, run_underlying Try.underlying23 w]; rfl
  have hsz : (sizeOf 23).run Try.prog w = .ok 3 w := by rw [run_sizeOf w hi, hc]
  have he : (mfn F).extract (j * 3) (j * 3 + 3) = vfn (mrow F j) := by
    have : j = 0 ∨ j = 1 ∨ j = 2 := by omega
    unfold mfn vfn mrow
    rcases this with rfl | rfl | rfl <;> rfl
  unfold part
  simp only [Sem.run_bind, hagg, Result.andThen_ok, if_true, hsz, Sem.run_pure, he]
theorem mat_eq_self (F : Nat → Int) (w : World) : (Op.equalIn 10000 25 (.agg (mfn F)) (.agg (mfn F))).run Try.prog w = .ok true w := by
  obtain ⟨i, hi⟩ : ∃ i, Try.prog.info? 23 = some i := Option.isSome_iff_exists.1 (by kernel_rfl)
  have hc : Try.prog.cellsOf 23 = 3 := by kernel_rfl
  obtain ⟨i2, hi2⟩ : ∃ i, Try.prog.info? 2 = some i := Option.isSome_iff_exists.1 (by kernel_rfl)
  have hc2 : Try.prog.cellsOf 2 = 1 := by kernel_rfl
  have hv : ∀ f : Nat → Int, (Op.equalIn 9999 23 (.agg (vfn f)) (.agg (vfn f))).run Try.prog w = .ok true w := fun f => by
    have h : (Op.equalIn 9999 23 (.agg (vfn f)) (.agg (vfn f))).run Try.prog w = .ok ((List.range 3).all fun j => f j == f j) w :=
      run_equalIn_ints (P := Try.prog) Try.underlying23 hi2 hc2 Try.underlying2 f f (vfn f) (vfn f) (fun j hj => vfn_get _ hj) (fun j hj => vfn_get _ hj) 9997 w
    have e : ((List.range 3).all fun j => f j == f j) = true := by simp
    rw [h, e]
  rw [run_equalIn_array (P := Try.prog) (w := w) 9999 (mfn F) (mfn F) Try.underlying25 hi, hc]
  have p0 : (part 23 (mfn F) 0).run Try.prog w = .ok (.agg (vfn (mrow F 0))) w := mat_part F 0 (by omega) w
  have p1 : (part 23 (mfn F) 3).run Try.prog w = .ok (.agg (vfn (mrow F 1))) w := mat_part F 1 (by omega) w
  have p2 : (part 23 (mfn F) 6).run Try.prog w = .ok (.agg (vfn (mrow F 2))) w := mat_part F 2 (by omega) w
  show (Op.eqItems 9999 23 3 (mfn F) (mfn F) [0, 1, 2]).run Try.prog w = .ok true w
  simp [Op.eqItems, Sem.run_bind, p0, p1, p2, hv]
end Go.Proofs.Ythkklhfnmodpnaa
namespace Go.Proofs.Ythkklhfnmodpnaa
open Go.RowKit PM Dt
set_option maxRecDepth 100000 in
set_option maxHeartbeats 4000000 in
theorem qrotates_any (f v : Nat → Int) (w : World) (hI : ∀ i, i < 4 → I64 (f i)) : Calls Try.prog 5 #[.agg (qfn f), .agg (vfn v)] w fun e w' => e = .returned (.bool true) ∧ Below w.heap.size w w' := by
  have A1 := Lib.hid (fun w => qmat_any f w hI)
  have A2 := Lib.hid (fun w => rqmat_any f w hI)
  have B1 := Lib.hid (fun w => qrot_any f v w hI)
  have B2 := Lib.hid (fun w => rqrot_any f v w hI)
  have C1 := Lib.hid (fun w => qback_any f v w hI)
  have C2 := Lib.hid (fun w => rqback_any f v w hI)
  clear hI
  generalize qmatF f = FA at *
  generalize qmatE f = EA at *
  generalize qrotF f v = FB at *
  generalize qrotE f v = EB at *
  generalize qbackF f v = FC at *
  generalize qbackE f v = EC at *
  have hqA := mat_eq_self FA
  have hqB := vec_eq_self FB
  have hqC := vec_eq_self FC
  go_enter Try.func5, Try.ntmps5
  go_upto_region 1 with (fail)
  have p : blk ((w.alloc (.cells (qfn f) 34)).alloc (.cells (vfn v) 23)) w.heap.size (qfn f) 34 := (blk.new _ _ _).alloc _
  have q : blk ((w.alloc (.cells (qfn f) 34)).alloc (.cells (vfn v) 23)) (w.heap.size + 1) (vfn v) 23 := blk.new' (by simp)
  have hB : Below w.heap.size w ((w.alloc (.cells (qfn f) 34)).alloc (.cells (vfn v) 23)) := by go_grown
  generalize (w.alloc (.cells (qfn f) 34)).alloc (.cells (vfn v) 23) = w0 at *
  go_upto_region 2 with (first
    | (refine wpList_load_rowG ?hw _ _ rfl _ rfl _ _ _ _ p Try.underlying34 rfl ?hi ?_; (case hw => (first | rfl | (simp [Region.wanted, yielded]; done))); (case hi => (rw [qfn_size]; kernel_rfl)))
    | (refine wpList_load_rowG ?hw _ _ rfl _ rfl _ _ _ _ q Try.underlying23 rfl ?hi ?_; (case hw => (first | rfl | (simp [Region.wanted, yielded]; done))); (case hi => (rw [vfn_size]; kernel_rfl)))
    | (go_at_call 31; with_reducible refine (A1.out _).mono ?_; rintro e w1 ⟨rfl, hb⟩; replace hB := hB.trans (hb.mono hB.size); replace p := p.below hb p.lt; replace q := q.below hb q.lt; clear hb)
    | (rw [zero_mat]; refine wpList_store_row rfl _ _ _ rfl _ rfl _ rfl _ _ (blk.new _ _ _) (by rw [mfn_size]; kernel_rfl) (by simp only [mfn_size]) (mfn_one _) ?_))
  have r1 := (blk.new w1 (mfn fun _ => 0) 25).row (mfn FA)
  replace hB := Below.setRow (hB.alloc hB.size (.cells (mfn fun _ => 0) 25)) (g := w1.heap.size) hB.size (mfn FA)
  have hne : ∀ x, x < w1.heap.size → x ≠ w1.heap.size := fun x hx => Nat.ne_of_lt hx
  replace p := (p.alloc (.cells (mfn fun _ => 0) 25)).rowOther (hne _ p.lt) (mfn FA)
  replace q := (q.alloc (.cells (mfn fun _ => 0) 25)).rowOther (hne _ q.lt) (mfn FA)
  clear hne
  generalize (w1.alloc (.cells (mfn fun _ => 0) 25)).setRow w1.heap.size (mfn FA) = w1x at *
  generalize w1.heap.size = r1_b at *
  go_upto_region 3 with (first
    | (refine wpList_load_rowG ?hw _ _ rfl _ rfl _ _ _ _ p Try.underlying34 rfl ?hi ?_; (case hw => (first | rfl | (simp [Region.wanted, yielded]; done))); (case hi => (rw [qfn_size]; kernel_rfl)))
    | (refine wpList_load_rowG ?hw _ _ rfl _ rfl _ _ _ _ q Try.underlying23 rfl ?hi ?_; (case hw => (first | rfl | (simp [Region.wanted, yielded]; done))); (case hi => (rw [vfn_size]; kernel_rfl)))
    | (go_at_call 32; with_reducible refine (A2.out _).mono ?_; rintro e w2 ⟨rfl, hb⟩; replace hB := hB.trans (hb.mono hB.size); replace p := p.below hb p.lt; replace q := q.below hb q.lt; replace r1 := r1.below hb r1.lt; clear hb)
    | (rw [zero_mat]; refine wpList_store_row rfl _ _ _ rfl _ rfl _ rfl _ _ (blk.new _ _ _) (by rw [mfn_size]; kernel_rfl) (by simp only [mfn_size]) (mfn_one _) ?_))
  have r2 := (blk.new w2 (mfn fun _ => 0) 25).row (mfn FA)
  replace hB := Below.setRow (hB.alloc hB.size (.cells (mfn fun _ => 0) 25)) (g := w2.heap.size) hB.size (mfn FA)
  have hne : ∀ x, x < w2.heap.size → x ≠ w2.heap.size := fun x hx => Nat.ne_of_lt hx
  replace p := (p.alloc (.cells (mfn fun _ => 0) 25)).rowOther (hne _ p.lt) (mfn FA)
  replace q := (q.alloc (.cells (mfn fun _ => 0) 25)).rowOther (hne _ q.lt) (mfn FA)
  replace r1 := (r1.alloc (.cells (mfn fun _ => 0) 25)).rowOther (hne _ r1.lt) (mfn FA)
  clear hne
  generalize (w2.alloc (.cells (mfn fun _ => 0) 25)).setRow w2.heap.size (mfn FA) = w2x at *
  generalize w2.heap.size = r2_b at *
  go_upto_region 4 with (first
    | (refine wpList_load_rowG ?hw _ _ rfl _ rfl _ _ _ _ p Try.underlying34 rfl ?hi ?_; (case hw => (first | rfl | (simp [Region.wanted, yielded]; done))); (case hi => (rw [qfn_size]; kernel_rfl)))
    | (refine wpList_load_rowG ?hw _ _ rfl _ rfl _ _ _ _ q Try.underlying23 rfl ?hi ?_; (case hw => (first | rfl | (simp [Region.wanted, yielded]; done))); (case hi => (rw [vfn_size]; kernel_rfl)))
    | (go_at_call 33; with_reducible refine (B1.out _).mono ?_; rintro e w3 ⟨rfl, hb⟩; replace hB := hB.trans (hb.mono hB.size); replace p := p.below hb p.lt; replace q := q.below hb q.lt; replace r1 := r1.below hb r1.lt; replace r2 := r2.below hb r2.lt; clear hb)
    | (rw [zero_vec]; refine wpList_store_row rfl _ _ _ rfl _ rfl _ rfl _ _ (blk.new _ _ _) (by rw [vfn_size]; kernel_rfl) (by simp only [vfn_size]) (vfn_one _) ?_))
  have r3 := (blk.new w3 (vfn fun _ => 0) 23).row (vfn FB)
  replace hB := Below.setRow (hB.alloc hB.size (.cells (vfn fun _ => 0) 23)) (g := w3.heap.size) hB.size (vfn FB)
  have hne : ∀ x, x < w3.heap.size → x ≠ w3.heap.size := fun x hx => Nat.ne_of_lt hx
  replace p := (p.alloc (.cells (vfn fun _ => 0) 23)).rowOther (hne _ p.lt) (vfn FB)
  replace q := (q.alloc (.cells (vfn fun _ => 0) 23)).rowOther (hne _ q.lt) (vfn FB)
  replace r1 := (r1.alloc (.cells (vfn fun _ => 0) 23)).rowOther (hne _ r1.lt) (vfn FB)
  replace r2 := (r2.alloc (.cells (vfn fun _ => 0) 23)).rowOther (hne _ r2.lt) (vfn FB)
  clear hne
  generalize (w3.alloc (.cells (vfn fun _ => 0) 23)).setRow w3.heap.size (vfn FB) = w3x at *
  generalize w3.heap.size = r3_b at *
  go_upto_region 5 with (first
    | (refine wpList_load_rowG ?hw _ _ rfl _ rfl _ _ _ _ p Try.underlying34 rfl ?hi ?_; (case hw => (first | rfl | (simp [Region.wanted, yielded]; done))); (case hi => (rw [qfn_size]; kernel_rfl)))
    | (refine wpList_load_rowG ?hw _ _ rfl _ rfl _ _ _ _ q Try.underlying23 rfl ?hi ?_; (case hw => (first | rfl | (simp [Region.wanted, yielded]; done))); (case hi => (rw [vfn_size]; kernel_rfl)))
    | (go_at_call 34; with_reducible refine (B2.out _).mono ?_; rintro e w4 ⟨rfl, hb⟩; replace hB := hB.trans (hb.mono hB.size); replace p := p.below hb p.lt; replace q := q.below hb q.lt; replace r1 := r1.below hb r1.lt; replace r2 := r2.below hb r2.lt; replace r3 := r3.below hb r3.lt; clear hb)
    | (rw [zero_vec]; refine wpList_store_row rfl _ _ _ rfl _ rfl _ rfl _ _ (blk.new _ _ _) (by rw [vfn_size]; kernel_rfl) (by simp only [vfn_size]) (vfn_one _) ?_))
  have r4 := (blk.new w4 (vfn fun _ => 0) 23).row (vfn FB)
  replace hB := Below.setRow (hB.alloc hB.size (.cells (vfn fun _ => 0) 23)) (g := w4.heap.size) hB.size (vfn FB)
  have hne : ∀ x, x < w4.heap.size → x ≠ w4.heap.size := fun x hx => Nat.ne_of_lt hx
  replace p := (p.alloc (.cells (vfn fun _ => 0) 23)).rowOther (hne _ p.lt) (vfn FB)
  replace q := (q.alloc (.cells (vfn fun _ => 0) 23)).rowOther (hne _ q.lt) (vfn FB)
  replace r1 := (r1.alloc (.cells (vfn fun _ => 0) 23)).rowOther (hne _ r1.lt) (vfn FB)
  replace r2 := (r2.alloc (.cells (vfn fun _ => 0) 23)).rowOther (hne _ r2.lt) (vfn FB)
  replace r3 := (r3.alloc (.cells (vfn fun _ => 0) 23)).rowOther (hne _ r3.lt) (vfn FB)
  clear hne
  generalize (w4.alloc (.cells (vfn fun _ => 0) 23)).setRow w4.heap.size (vfn FB) = w4x at *
  generalize w4.heap.size = r4_b at *
  go_upto_region 6 with (first
    | (refine wpList_load_rowG ?hw _ _ rfl _ rfl _ _ _ _ p Try.underlying34 rfl ?hi ?_; (case hw => (first | rfl | (simp [Region.wanted, yielded]; done))); (case hi => (rw [qfn_size]; kernel_rfl)))
    | (refine wpList_load_rowG ?hw _ _ rfl _ rfl _ _ _ _ q Try.underlying23 rfl ?hi ?_; (case hw => (first | rfl | (simp [Region.wanted, yielded]; done))); (case hi => (rw [vfn_size]; kernel_rfl)))
    | (go_at_call 35; with_reducible refine (C1.out _).mono ?_; rintro e w5 ⟨rfl, hb⟩; replace hB := hB.trans (hb.mono hB.size); replace p := p.below hb p.lt; replace q := q.below hb q.lt; replace r1 := r1.below hb r1.lt; replace r2 := r2.below hb r2.lt; replace r3 := r3.below hb r3.lt; replace r4 := r4.below hb r4.lt; clear hb)
    | (rw [zero_vec]; refine wpList_store_row rfl _ _ _ rfl _ rfl _ rfl _ _ (blk.new _ _ _) (by rw [vfn_size]; kernel_rfl) (by simp only [vfn_size]) (vfn_one _) ?_))
  have r5 := (blk.new w5 (vfn fun _ => 0) 23).row (vfn FC)
  replace hB := Below.setRow (hB.alloc hB.size (.cells (vfn fun _ => 0) 23)) (g := w5.heap.size) hB.size (vfn FC)
  have hne : ∀ x, x < w5.heap.size → x ≠ w5.heap.size := fun x hx => Nat.ne_of_lt hx
  replace p := (p.alloc (.cells (vfn fun _ => 0) 23)).rowOther (hne _ p.lt) (vfn FC)
  replace q := (q.alloc (.cells (vfn fun _ => 0) 23)).rowOther (hne _ q.lt) (vfn FC)
  replace r1 := (r1.alloc (.cells (vfn fun _ => 0) 23)).rowOther (hne _ r1.lt) (vfn FC)
  replace r2 := (r2.alloc (.cells (vfn fun _ => 0) 23)).rowOther (hne _ r2.lt) (vfn FC)
  replace r3 := (r3.alloc (.cells (vfn fun _ => 0) 23)).rowOther (hne _ r3.lt) (vfn FC)
  replace r4 := (r4.alloc (.cells (vfn fun _ => 0) 23)).rowOther (hne _ r4.lt) (vfn FC)
  clear hne
  generalize (w5.alloc (.cells (vfn fun _ => 0) 23)).setRow w5.heap.size (vfn FC) = w5x at *
  generalize w5.heap.size = r5_b at *
  go_upto_region 7 with (first
    | (refine wpList_load_rowG ?hw _ _ rfl _ rfl _ _ _ _ p Try.underlying34 rfl ?hi ?_; (case hw => (first | rfl | (simp [Region.wanted, yielded]; done))); (case hi => (rw [qfn_size]; kernel_rfl)))
    | (refine wpList_load_rowG ?hw _ _ rfl _ rfl _ _ _ _ q Try.underlying23 rfl ?hi ?_; (case hw => (first | rfl | (simp [Region.wanted, yielded]; done))); (case hi => (rw [vfn_size]; kernel_rfl)))
    | (go_at_call 36; with_reducible refine (C2.out _).mono ?_; rintro e w6 ⟨rfl, hb⟩; replace hB := hB.trans (hb.mono hB.size); replace p := p.below hb p.lt; replace q := q.below hb q.lt; replace r1 := r1.below hb r1.lt; replace r2 := r2.below hb r2.lt; replace r3 := r3.below hb r3.lt; replace r4 := r4.below hb r4.lt; replace r5 := r5.below hb r5.lt; clear hb)
    | (rw [zero_vec]; refine wpList_store_row rfl _ _ _ rfl _ rfl _ rfl _ _ (blk.new _ _ _) (by rw [vfn_size]; kernel_rfl) (by simp only [vfn_size]) (vfn_one _) ?_))
  have r6 := (blk.new w6 (vfn fun _ => 0) 23).row (vfn FC)
  replace hB := Below.setRow (hB.alloc hB.size (.cells (vfn fun _ => 0) 23)) (g := w6.heap.size) hB.size (vfn FC)
  have hne : ∀ x, x < w6.heap.size → x ≠ w6.heap.size := fun x hx => Nat.ne_of_lt hx
  replace p := (p.alloc (.cells (vfn fun _ => 0) 23)).rowOther (hne _ p.lt) (vfn FC)
  replace q := (q.alloc (.cells (vfn fun _ => 0) 23)).rowOther (hne _ q.lt) (vfn FC)
  replace r1 := (r1.alloc (.cells (vfn fun _ => 0) 23)).rowOther (hne _ r1.lt) (vfn FC)
  replace r2 := (r2.alloc (.cells (vfn fun _ => 0) 23)).rowOther (hne _ r2.lt) (vfn FC)
  replace r3 := (r3.alloc (.cells (vfn fun _ => 0) 23)).rowOther (hne _ r3.lt) (vfn FC)
  replace r4 := (r4.alloc (.cells (vfn fun _ => 0) 23)).rowOther (hne _ r4.lt) (vfn FC)
  replace r5 := (r5.alloc (.cells (vfn fun _ => 0) 23)).rowOther (hne _ r5.lt) (vfn FC)
  clear hne
  generalize (w6.alloc (.cells (vfn fun _ => 0) 23)).setRow w6.heap.size (vfn FC) = w6x at *
  generalize w6.heap.size = r6_b at *
  go_wp2_with (first
    | (refine wpList_load_rowG ?hw _ _ rfl _ rfl _ _ _ _ r1 Try.underlying25 rfl ?hi ?_; (case hw => (first | rfl | (simp [Region.wanted, yielded]; done))); (case hi => (rw [mfn_size]; kernel_rfl)))
    | (refine wpList_load_rowG ?hw _ _ rfl _ rfl _ _ _ _ r2 Try.underlying25 rfl ?hi ?_; (case hw => (first | rfl | (simp [Region.wanted, yielded]; done))); (case hi => (rw [mfn_size]; kernel_rfl)))
    | (refine wpList_load_rowG ?hw _ _ rfl _ rfl _ _ _ _ r3 Try.underlying23 rfl ?hi ?_; (case hw => (first | rfl | (simp [Region.wanted, yielded]; done))); (case hi => (rw [vfn_size]; kernel_rfl)))
    | (refine wpList_load_rowG ?hw _ _ rfl _ rfl _ _ _ _ r4 Try.underlying23 rfl ?hi ?_; (case hw => (first | rfl | (simp [Region.wanted, yielded]; done))); (case hi => (rw [vfn_size]; kernel_rfl)))
    | (refine wpList_load_rowG ?hw _ _ rfl _ rfl _ _ _ _ r5 Try.underlying23 rfl ?hi ?_; (case hw => (first | rfl | (simp [Region.wanted, yielded]; done))); (case hi => (rw [vfn_size]; kernel_rfl)))
    | (refine wpList_load_rowG ?hw _ _ rfl _ rfl _ _ _ _ r6 Try.underlying23 rfl ?hi ?_; (case hw => (first | rfl | (simp [Region.wanted, yielded]; done))); (case hi => (rw [vfn_size]; kernel_rfl)))
    | (go_at_call 30; refine (awakeQ_any _).mono ?_; rintro e wx ⟨rfl, hb⟩; replace hB := hB.trans (hb.mono hB.size); clear hb))
  go_ret
  exact ⟨rfl, hB⟩
end Go.Proofs.Ythkklhfnmodpnaa
