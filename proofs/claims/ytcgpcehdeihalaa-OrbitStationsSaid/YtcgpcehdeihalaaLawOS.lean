/-
  OrbitStations returns true.
-/
import Derived.Test.YtcgpcehdeihalaaOrbW
set_option linter.unusedSimpArgs false
set_option linter.unusedVariables false
namespace Go.Proofs.Ytcgpcehdeihalaa
open Go.RowKit PM Dt
set_option maxRecDepth 100000 in
set_option maxHeartbeats 4000000 in
theorem ostations_any (f g : Nat → Int) (t : Int) (w : World) (hf : OO f) (hg : SS g) : Calls Try.prog 8 #[.agg (ofn f), .agg (stn g), .int .i64 t] w fun e w' => e = .returned (.bool true) ∧ Below w.heap.size w w' := by
  have K1 := Lib.hid (fun w => station_any f g t w hf hg)
  have K2 := Lib.hid (fun w => rstation_any f g t w hf hg)
  have K3 := Lib.hid (fun w => inview_any f g t w hf hg)
  have K4 := Lib.hid (fun w => rinview_any f g t w hf hg)
  have AW := Lib.hid awake25_any
  generalize statF f g t = X at *
  generalize viewB f g t = D at *
  generalize statE f g t = E at *
  have hq1 := vec_eq_self X
  clear hf hg
  go_enter Try.func8, Try.ntmps8
  go_upto_region 1 with (fail)
  have p : blk ((w.alloc (.cells (ofn f) 44)).alloc (.cells (stn g) 51)) w.heap.size (ofn f) 44 := (blk.new _ _ _).alloc _
  have q : blk ((w.alloc (.cells (ofn f) 44)).alloc (.cells (stn g) 51)) (w.heap.size + 1) (stn g) 51 := blk.new' (by simp)
  have hB : Below w.heap.size w ((w.alloc (.cells (ofn f) 44)).alloc (.cells (stn g) 51)) := by go_grown
  generalize ((w.alloc (.cells (ofn f) 44)).alloc (.cells (stn g) 51)) = w0 at *
  go_upto_region 2 with (first
    | (refine wpList_load_rowG ?hw _ _ rfl _ rfl _ _ _ _ p Try.underlying44 rfl ?hi ?_; (case hw => (first | rfl | (simp [Region.wanted, yielded]; done))); (case hi => (first | kernel_rfl | (rw [ofn_size]; kernel_rfl))))
    | (refine wpList_load_rowG ?hw _ _ rfl _ rfl _ _ _ _ q Try.underlying51 rfl ?hi ?_; (case hw => (first | rfl | (simp [Region.wanted, yielded]; done))); (case hi => (first | kernel_rfl | (rw [stn_size]; kernel_rfl))))
    | (go_at_call 33; with_reducible refine (K1.out _).mono ?_; rintro e w1 ⟨rfl, hb⟩; replace hB := hB.trans (hb.mono hB.size); replace p := p.below hb p.lt; replace q := q.below hb q.lt; clear hb)
    | (rw [zero_vec]; refine wpList_store_row rfl _ _ _ rfl _ rfl _ rfl _ _ (blk.new _ _ _) (by first | kernel_rfl | (rw [vfn_size]; kernel_rfl)) (by first | rfl | simp only [vfn_size]) (by first | exact vfn_one _ | rfl) ?_))
  have a := (blk.new w1 (vfn fun _ => 0) 25).row (vfn X)
  replace hB := Below.setRow (hB.alloc hB.size (.cells (vfn fun _ => 0) 25)) (g := w1.heap.size) hB.size (vfn X)
  have hne : ∀ x, x < w1.heap.size → x ≠ w1.heap.size := fun x hx => Nat.ne_of_lt hx
  replace p := (p.alloc (.cells (vfn fun _ => 0) 25)).rowOther (hne _ p.lt) (vfn X)
  replace q := (q.alloc (.cells (vfn fun _ => 0) 25)).rowOther (hne _ q.lt) (vfn X)
  clear hne
  generalize (w1.alloc (.cells (vfn fun _ => 0) 25)).setRow w1.heap.size (vfn X) = w1x at *
  generalize w1.heap.size = a_b at *
  go_upto_region 3 with (first
    | (refine wpList_load_rowG ?hw _ _ rfl _ rfl _ _ _ _ p Try.underlying44 rfl ?hi ?_; (case hw => (first | rfl | (simp [Region.wanted, yielded]; done))); (case hi => (first | kernel_rfl | (rw [ofn_size]; kernel_rfl))))
    | (refine wpList_load_rowG ?hw _ _ rfl _ rfl _ _ _ _ q Try.underlying51 rfl ?hi ?_; (case hw => (first | rfl | (simp [Region.wanted, yielded]; done))); (case hi => (first | kernel_rfl | (rw [stn_size]; kernel_rfl))))
    | (go_at_call 34; with_reducible refine (K2.out _).mono ?_; rintro e w2 ⟨rfl, hb⟩; replace hB := hB.trans (hb.mono hB.size); replace p := p.below hb p.lt; replace q := q.below hb q.lt; replace a := a.below hb a.lt; clear hb)
    | (rw [zero_vec]; refine wpList_store_row rfl _ _ _ rfl _ rfl _ rfl _ _ (blk.new _ _ _) (by first | kernel_rfl | (rw [vfn_size]; kernel_rfl)) (by first | rfl | simp only [vfn_size]) (by first | exact vfn_one _ | rfl) ?_))
  have b := (blk.new w2 (vfn fun _ => 0) 25).row (vfn X)
  replace hB := Below.setRow (hB.alloc hB.size (.cells (vfn fun _ => 0) 25)) (g := w2.heap.size) hB.size (vfn X)
  have hne : ∀ x, x < w2.heap.size → x ≠ w2.heap.size := fun x hx => Nat.ne_of_lt hx
  replace p := (p.alloc (.cells (vfn fun _ => 0) 25)).rowOther (hne _ p.lt) (vfn X)
  replace q := (q.alloc (.cells (vfn fun _ => 0) 25)).rowOther (hne _ q.lt) (vfn X)
  replace a := (a.alloc (.cells (vfn fun _ => 0) 25)).rowOther (hne _ a.lt) (vfn X)
  clear hne
  generalize (w2.alloc (.cells (vfn fun _ => 0) 25)).setRow w2.heap.size (vfn X) = w2x at *
  generalize w2.heap.size = b_b at *
  go_upto_region 4 with (first
    | (refine wpList_load_rowG ?hw _ _ rfl _ rfl _ _ _ _ p Try.underlying44 rfl ?hi ?_; (case hw => (first | rfl | (simp [Region.wanted, yielded]; done))); (case hi => (first | kernel_rfl | (rw [ofn_size]; kernel_rfl))))
    | (refine wpList_load_rowG ?hw _ _ rfl _ rfl _ _ _ _ q Try.underlying51 rfl ?hi ?_; (case hw => (first | rfl | (simp [Region.wanted, yielded]; done))); (case hi => (first | kernel_rfl | (rw [stn_size]; kernel_rfl))))
    | (go_at_call 35; with_reducible refine (K3.out _).mono ?_; rintro e w5 ⟨rfl, hb⟩; replace hB := hB.trans (hb.mono hB.size); replace p := p.below hb p.lt; replace q := q.below hb q.lt; replace a := a.below hb a.lt; replace b := b.below hb b.lt; clear hb))
  go_upto_region 5 with (first
    | (refine wpList_load_rowG ?hw _ _ rfl _ rfl _ _ _ _ p Try.underlying44 rfl ?hi ?_; (case hw => (first | rfl | (simp [Region.wanted, yielded]; done))); (case hi => (first | kernel_rfl | (rw [ofn_size]; kernel_rfl))))
    | (refine wpList_load_rowG ?hw _ _ rfl _ rfl _ _ _ _ q Try.underlying51 rfl ?hi ?_; (case hw => (first | rfl | (simp [Region.wanted, yielded]; done))); (case hi => (first | kernel_rfl | (rw [stn_size]; kernel_rfl))))
    | (go_at_call 36; with_reducible refine (K4.out _).mono ?_; rintro e w6 ⟨rfl, hb⟩; replace hB := hB.trans (hb.mono hB.size); replace p := p.below hb p.lt; replace q := q.below hb q.lt; replace a := a.below hb a.lt; replace b := b.below hb b.lt; clear hb))
  go_wp2_with (first
    | (refine wpList_load_rowG ?hw _ _ rfl _ rfl _ _ _ _ a Try.underlying25 rfl ?hi ?_; (case hw => (first | rfl | (simp [Region.wanted, yielded]; done))); (case hi => (first | kernel_rfl | (rw [vfn_size]; kernel_rfl))))
    | (refine wpList_load_rowG ?hw _ _ rfl _ rfl _ _ _ _ b Try.underlying25 rfl ?hi ?_; (case hw => (first | rfl | (simp [Region.wanted, yielded]; done))); (case hi => (first | kernel_rfl | (rw [vfn_size]; kernel_rfl))))
    | (go_at_call 32; refine (AW.out _).mono ?_; rintro e wx ⟨rfl, hb⟩; replace hB := hB.trans (hb.mono hB.size); clear hb))
  go_ret
  exact ⟨rfl, hB⟩
end Go.Proofs.Ytcgpcehdeihalaa
