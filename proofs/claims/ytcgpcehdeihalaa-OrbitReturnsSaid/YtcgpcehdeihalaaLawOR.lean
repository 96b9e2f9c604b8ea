/-
  OrbitReturns returns true.
-/
import Derived.Test.YtcgpcehdeihalaaOrbW
import Derived.Test.YtcgpcehdeihalaaLenN
set_option linter.unusedSimpArgs false
set_option linter.unusedVariables false
namespace Go.Proofs.Ytcgpcehdeihalaa
open Go.RowKit PM Dt
set_option maxRecDepth 100000 in
set_option maxHeartbeats 2000000 in
theorem length_any (X : Nat → Int) (n : Int) (w : World) (hn : n = 1073741824 ∨ n = 1073741823) (N1 : Hid (∀ w, Calls Try.prog 20 #[.agg (vfn X)] w fun e w' => e = .returned (.tuple #[.int .i64 n, .int .i64 0]) ∧ Below w.heap.size w w')) : Calls Try.prog 37 #[.agg (vfn X), .int .i64 0] w fun e w' => e = .returned (.bool true) ∧ Below w.heap.size w w' := by
  rcases hn with rfl | rfl
  · skip
    go_enter Try.func37, Try.ntmps37
    go_upto_region 1 with (fail)
    have p : blk (w.alloc (.cells (vfn X) 25)) w.heap.size (vfn X) 25 := blk.new _ _ _
    have hB : Below w.heap.size w (w.alloc (.cells (vfn X) 25)) := by go_grown
    generalize (w.alloc (.cells (vfn X) 25)) = w0 at *
    go_wp2_with (first
      | (refine wpList_load_rowG ?hw _ _ rfl _ rfl _ _ _ _ p Try.underlying25 rfl ?hi ?_; (case hw => (first | rfl | (simp [Region.wanted, yielded]; done))); (case hi => (first | kernel_rfl | (rw [vfn_size]; kernel_rfl))))
      | (go_at_call 20; with_reducible refine (N1.out _).mono ?_; rintro e w1 ⟨rfl, hb⟩; replace hB := hB.trans (hb.mono hB.size); replace p := p.below hb p.lt; clear hb))
    go_ret
    exact ⟨rfl, hB⟩
  · skip
    go_enter Try.func37, Try.ntmps37
    go_upto_region 1 with (fail)
    have p : blk (w.alloc (.cells (vfn X) 25)) w.heap.size (vfn X) 25 := blk.new _ _ _
    have hB : Below w.heap.size w (w.alloc (.cells (vfn X) 25)) := by go_grown
    generalize (w.alloc (.cells (vfn X) 25)) = w0 at *
    go_wp2_with (first
      | (refine wpList_load_rowG ?hw _ _ rfl _ rfl _ _ _ _ p Try.underlying25 rfl ?hi ?_; (case hw => (first | rfl | (simp [Region.wanted, yielded]; done))); (case hi => (first | kernel_rfl | (rw [vfn_size]; kernel_rfl))))
      | (go_at_call 20; with_reducible refine (N1.out _).mono ?_; rintro e w1 ⟨rfl, hb⟩; replace hB := hB.trans (hb.mono hB.size); replace p := p.below hb p.lt; clear hb))
    go_ret
    exact ⟨rfl, hB⟩
set_option maxRecDepth 100000 in
set_option maxHeartbeats 2000000 in
theorem oret_out0 (f g : Nat → Int) (t : Int) (w : World) (d1 : decide (t < 0) = true) : Calls Try.prog 9 #[.agg (ofn f), .agg (stn g), .int .i64 t] w fun e w' => e = .returned (.bool true) ∧ Below w.heap.size w w' := by
  have AW := Lib.hid awake25_any
  go_enter Try.func9, Try.ntmps9
  go_upto_region 1 with (fail)
  have p : blk ((w.alloc (.cells (ofn f) 44)).alloc (.cells (stn g) 51)) w.heap.size (ofn f) 44 := (blk.new _ _ _).alloc _
  have q : blk ((w.alloc (.cells (ofn f) 44)).alloc (.cells (stn g) 51)) (w.heap.size + 1) (stn g) 51 := blk.new' (by simp)
  have hB : Below w.heap.size w ((w.alloc (.cells (ofn f) 44)).alloc (.cells (stn g) 51)) := by go_grown
  generalize ((w.alloc (.cells (ofn f) 44)).alloc (.cells (stn g) 51)) = w0 at *
  have c0 : w0.cell? ⟨w.heap.size, 0, none⟩ = some (.int .i64 (f 0)) := p.cellIs (rfl)
  have c1 : w0.cell? ⟨w.heap.size, 1, none⟩ = some (.int .i64 (f 1)) := p.cellIs (rfl)
  have c2 : w0.cell? ⟨w.heap.size, 2, none⟩ = some (.int .i64 (f 2)) := p.cellIs (rfl)
  go_wp2_with (first
    | (go_at_call 32; refine (AW.out _).mono ?_; rintro e wx ⟨rfl, hb⟩; replace hB := hB.trans (hb.mono hB.size); clear hb))
  go_ret
  exact ⟨rfl, hB⟩
set_option maxRecDepth 100000 in
set_option maxHeartbeats 2000000 in
theorem oret_out1 (f g : Nat → Int) (t : Int) (w : World) (d1 : decide (t < 0) = false) (d2 : decide (274877906944 < t) = true) : Calls Try.prog 9 #[.agg (ofn f), .agg (stn g), .int .i64 t] w fun e w' => e = .returned (.bool true) ∧ Below w.heap.size w w' := by
  have AW := Lib.hid awake25_any
  go_enter Try.func9, Try.ntmps9
  go_upto_region 1 with (fail)
  have p : blk ((w.alloc (.cells (ofn f) 44)).alloc (.cells (stn g) 51)) w.heap.size (ofn f) 44 := (blk.new _ _ _).alloc _
  have q : blk ((w.alloc (.cells (ofn f) 44)).alloc (.cells (stn g) 51)) (w.heap.size + 1) (stn g) 51 := blk.new' (by simp)
  have hB : Below w.heap.size w ((w.alloc (.cells (ofn f) 44)).alloc (.cells (stn g) 51)) := by go_grown
  generalize ((w.alloc (.cells (ofn f) 44)).alloc (.cells (stn g) 51)) = w0 at *
  have c0 : w0.cell? ⟨w.heap.size, 0, none⟩ = some (.int .i64 (f 0)) := p.cellIs (rfl)
  have c1 : w0.cell? ⟨w.heap.size, 1, none⟩ = some (.int .i64 (f 1)) := p.cellIs (rfl)
  have c2 : w0.cell? ⟨w.heap.size, 2, none⟩ = some (.int .i64 (f 2)) := p.cellIs (rfl)
  go_wp2_with (first
    | (go_at_call 32; refine (AW.out _).mono ?_; rintro e wx ⟨rfl, hb⟩; replace hB := hB.trans (hb.mono hB.size); clear hb))
  go_ret
  exact ⟨rfl, hB⟩
set_option maxRecDepth 100000 in
set_option maxHeartbeats 2000000 in
theorem oret_out2 (f g : Nat → Int) (t : Int) (w : World) (d1 : decide (t < 0) = false) (d2 : decide (274877906944 < t) = false) (d3 : decide (274877906944 < f 0) = true) : Calls Try.prog 9 #[.agg (ofn f), .agg (stn g), .int .i64 t] w fun e w' => e = .returned (.bool true) ∧ Below w.heap.size w w' := by
  have AW := Lib.hid awake25_any
  go_enter Try.func9, Try.ntmps9
  go_upto_region 1 with (fail)
  have p : blk ((w.alloc (.cells (ofn f) 44)).alloc (.cells (stn g) 51)) w.heap.size (ofn f) 44 := (blk.new _ _ _).alloc _
  have q : blk ((w.alloc (.cells (ofn f) 44)).alloc (.cells (stn g) 51)) (w.heap.size + 1) (stn g) 51 := blk.new' (by simp)
  have hB : Below w.heap.size w ((w.alloc (.cells (ofn f) 44)).alloc (.cells (stn g) 51)) := by go_grown
  generalize ((w.alloc (.cells (ofn f) 44)).alloc (.cells (stn g) 51)) = w0 at *
  have c0 : w0.cell? ⟨w.heap.size, 0, none⟩ = some (.int .i64 (f 0)) := p.cellIs (rfl)
  have c1 : w0.cell? ⟨w.heap.size, 1, none⟩ = some (.int .i64 (f 1)) := p.cellIs (rfl)
  have c2 : w0.cell? ⟨w.heap.size, 2, none⟩ = some (.int .i64 (f 2)) := p.cellIs (rfl)
  go_wp2_with (first
    | (go_at_call 32; refine (AW.out _).mono ?_; rintro e wx ⟨rfl, hb⟩; replace hB := hB.trans (hb.mono hB.size); clear hb))
  go_ret
  exact ⟨rfl, hB⟩
set_option maxRecDepth 100000 in
set_option maxHeartbeats 2000000 in
theorem oret_out3 (f g : Nat → Int) (t : Int) (w : World) (d1 : decide (t < 0) = false) (d2 : decide (274877906944 < t) = false) (d3 : decide (274877906944 < f 0) = false) (d4 : decide (274877906944 < f 1) = true) : Calls Try.prog 9 #[.agg (ofn f), .agg (stn g), .int .i64 t] w fun e w' => e = .returned (.bool true) ∧ Below w.heap.size w w' := by
  have AW := Lib.hid awake25_any
  go_enter Try.func9, Try.ntmps9
  go_upto_region 1 with (fail)
  have p : blk ((w.alloc (.cells (ofn f) 44)).alloc (.cells (stn g) 51)) w.heap.size (ofn f) 44 := (blk.new _ _ _).alloc _
  have q : blk ((w.alloc (.cells (ofn f) 44)).alloc (.cells (stn g) 51)) (w.heap.size + 1) (stn g) 51 := blk.new' (by simp)
  have hB : Below w.heap.size w ((w.alloc (.cells (ofn f) 44)).alloc (.cells (stn g) 51)) := by go_grown
  generalize ((w.alloc (.cells (ofn f) 44)).alloc (.cells (stn g) 51)) = w0 at *
  have c0 : w0.cell? ⟨w.heap.size, 0, none⟩ = some (.int .i64 (f 0)) := p.cellIs (rfl)
  have c1 : w0.cell? ⟨w.heap.size, 1, none⟩ = some (.int .i64 (f 1)) := p.cellIs (rfl)
  have c2 : w0.cell? ⟨w.heap.size, 2, none⟩ = some (.int .i64 (f 2)) := p.cellIs (rfl)
  go_wp2_with (first
    | (go_at_call 32; refine (AW.out _).mono ?_; rintro e wx ⟨rfl, hb⟩; replace hB := hB.trans (hb.mono hB.size); clear hb))
  go_ret
  exact ⟨rfl, hB⟩
set_option maxRecDepth 100000 in
set_option maxHeartbeats 2000000 in
theorem oret_out4 (f g : Nat → Int) (t : Int) (w : World) (d1 : decide (t < 0) = false) (d2 : decide (274877906944 < t) = false) (d3 : decide (274877906944 < f 0) = false) (d4 : decide (274877906944 < f 1) = false) (d5 : decide (274877906944 < f 2) = true) : Calls Try.prog 9 #[.agg (ofn f), .agg (stn g), .int .i64 t] w fun e w' => e = .returned (.bool true) ∧ Below w.heap.size w w' := by
  have AW := Lib.hid awake25_any
  go_enter Try.func9, Try.ntmps9
  go_upto_region 1 with (fail)
  have p : blk ((w.alloc (.cells (ofn f) 44)).alloc (.cells (stn g) 51)) w.heap.size (ofn f) 44 := (blk.new _ _ _).alloc _
  have q : blk ((w.alloc (.cells (ofn f) 44)).alloc (.cells (stn g) 51)) (w.heap.size + 1) (stn g) 51 := blk.new' (by simp)
  have hB : Below w.heap.size w ((w.alloc (.cells (ofn f) 44)).alloc (.cells (stn g) 51)) := by go_grown
  generalize ((w.alloc (.cells (ofn f) 44)).alloc (.cells (stn g) 51)) = w0 at *
  have c0 : w0.cell? ⟨w.heap.size, 0, none⟩ = some (.int .i64 (f 0)) := p.cellIs (rfl)
  have c1 : w0.cell? ⟨w.heap.size, 1, none⟩ = some (.int .i64 (f 1)) := p.cellIs (rfl)
  have c2 : w0.cell? ⟨w.heap.size, 2, none⟩ = some (.int .i64 (f 2)) := p.cellIs (rfl)
  go_wp2_with (first
    | (go_at_call 32; refine (AW.out _).mono ?_; rintro e wx ⟨rfl, hb⟩; replace hB := hB.trans (hb.mono hB.size); clear hb))
  go_ret
  exact ⟨rfl, hB⟩
set_option maxRecDepth 100000 in
set_option maxHeartbeats 4000000 in
theorem oret_bad (f g : Nat → Int) (t : Int) (X Y Z : Nat → Int) (E : Int) (w : World) (d1 : decide (t < 0) = false) (d2 : decide (274877906944 < t) = false) (d3 : decide (274877906944 < f 0) = false) (d4 : decide (274877906944 < f 1) = false) (d5 : decide (274877906944 < f 2) = false) (hE : E = 0 ∨ E = 2) (P1 : Hid (∀ w, Calls Try.prog 24 #[.agg (ofn f), .int .i64 t] w fun e w' => e = .returned (.tuple #[.agg (vfn X), .int .i64 E]) ∧ Below w.heap.size w w')) (S1 : Hid (∀ w, Calls Try.prog 26 #[.agg (ofn f), .int .i64 t] w fun e w' => e = .returned (.tuple #[.agg (vfn Y), .int .i64 E]) ∧ Below w.heap.size w w')) (T1 : Hid (∀ w, Calls Try.prog 33 #[.agg (ofn f), .agg (stn g), .int .i64 t] w fun e w' => e = .returned (.tuple #[.agg (vfn Z), .int .i64 2]) ∧ Below w.heap.size w w')) : Calls Try.prog 9 #[.agg (ofn f), .agg (stn g), .int .i64 t] w fun e w' => e = .returned (.bool true) ∧ Below w.heap.size w w' := by
  have AW := Lib.hid awake25_any
  rcases hE with rfl | rfl
  · skip
    go_enter Try.func9, Try.ntmps9
    go_upto_region 1 with (fail)
    have p : blk ((w.alloc (.cells (ofn f) 44)).alloc (.cells (stn g) 51)) w.heap.size (ofn f) 44 := (blk.new _ _ _).alloc _
    have q : blk ((w.alloc (.cells (ofn f) 44)).alloc (.cells (stn g) 51)) (w.heap.size + 1) (stn g) 51 := blk.new' (by simp)
    have hB : Below w.heap.size w ((w.alloc (.cells (ofn f) 44)).alloc (.cells (stn g) 51)) := by go_grown
    generalize ((w.alloc (.cells (ofn f) 44)).alloc (.cells (stn g) 51)) = w0 at *
    have c0 : w0.cell? ⟨w.heap.size, 0, none⟩ = some (.int .i64 (f 0)) := p.cellIs (rfl)
    have c1 : w0.cell? ⟨w.heap.size, 1, none⟩ = some (.int .i64 (f 1)) := p.cellIs (rfl)
    have c2 : w0.cell? ⟨w.heap.size, 2, none⟩ = some (.int .i64 (f 2)) := p.cellIs (rfl)
    go_upto_region 3 with (fail)
    clear c0 c1 c2
    go_upto_region 4 with (first
      | (refine wpList_load_rowG ?hw _ _ rfl _ rfl _ _ _ _ p Try.underlying44 rfl ?hi ?_; (case hw => (first | rfl | (simp [Region.wanted, yielded]; done))); (case hi => (first | kernel_rfl | (rw [ofn_size]; kernel_rfl))))
      | (go_at_call 24; with_reducible refine (P1.out _).mono ?_; rintro e w1 ⟨rfl, hb⟩; replace hB := hB.trans (hb.mono hB.size); replace p := p.below hb p.lt; replace q := q.below hb q.lt; clear hb)
      | (rw [zero_vec]; refine wpList_store_row rfl _ _ _ rfl _ rfl _ rfl _ _ (blk.new _ _ _) (by first | kernel_rfl | (rw [vfn_size]; kernel_rfl)) (by first | rfl | simp only [vfn_size]) (by first | exact vfn_one _ | rfl) ?_))
    have a := (blk.new w1 (vfn fun _ => 0) 25).row (vfn X)
    replace hB := Below.setRow (hB.alloc hB.size (.cells (vfn fun _ => 0) 25)) (g := w1.heap.size) hB.size (vfn X)
    have hne : ∀ x, x < w1.heap.size → x ≠ w1.heap.size := fun x hx => Nat.ne_of_lt hx
    replace p := (p.alloc (.cells (vfn fun _ => 0) 25)).rowOther (hne _ p.lt) (vfn X)
    replace q := (q.alloc (.cells (vfn fun _ => 0) 25)).rowOther (hne _ q.lt) (vfn X)
    clear hne
    generalize (w1.alloc (.cells (vfn fun _ => 0) 25)).setRow w1.heap.size (vfn X) = w1x at *
    generalize w1.heap.size = a_b at *
    go_upto_region 5 with (first
      | (refine wpList_load_rowG ?hw _ _ rfl _ rfl _ _ _ _ p Try.underlying44 rfl ?hi ?_; (case hw => (first | rfl | (simp [Region.wanted, yielded]; done))); (case hi => (first | kernel_rfl | (rw [ofn_size]; kernel_rfl))))
      | (go_at_call 26; with_reducible refine (S1.out _).mono ?_; rintro e w2 ⟨rfl, hb⟩; replace hB := hB.trans (hb.mono hB.size); replace p := p.below hb p.lt; replace q := q.below hb q.lt; replace a := a.below hb a.lt; clear hb)
      | (rw [zero_vec]; refine wpList_store_row rfl _ _ _ rfl _ rfl _ rfl _ _ (blk.new _ _ _) (by first | kernel_rfl | (rw [vfn_size]; kernel_rfl)) (by first | rfl | simp only [vfn_size]) (by first | exact vfn_one _ | rfl) ?_))
    have b := (blk.new w2 (vfn fun _ => 0) 25).row (vfn Y)
    replace hB := Below.setRow (hB.alloc hB.size (.cells (vfn fun _ => 0) 25)) (g := w2.heap.size) hB.size (vfn Y)
    have hne : ∀ x, x < w2.heap.size → x ≠ w2.heap.size := fun x hx => Nat.ne_of_lt hx
    replace p := (p.alloc (.cells (vfn fun _ => 0) 25)).rowOther (hne _ p.lt) (vfn Y)
    replace q := (q.alloc (.cells (vfn fun _ => 0) 25)).rowOther (hne _ q.lt) (vfn Y)
    replace a := (a.alloc (.cells (vfn fun _ => 0) 25)).rowOther (hne _ a.lt) (vfn Y)
    clear hne
    generalize (w2.alloc (.cells (vfn fun _ => 0) 25)).setRow w2.heap.size (vfn Y) = w2x at *
    generalize w2.heap.size = b_b at *
    go_upto_region 6 with (first
      | (refine wpList_load_rowG ?hw _ _ rfl _ rfl _ _ _ _ p Try.underlying44 rfl ?hi ?_; (case hw => (first | rfl | (simp [Region.wanted, yielded]; done))); (case hi => (first | kernel_rfl | (rw [ofn_size]; kernel_rfl))))
      | (refine wpList_load_rowG ?hw _ _ rfl _ rfl _ _ _ _ q Try.underlying51 rfl ?hi ?_; (case hw => (first | rfl | (simp [Region.wanted, yielded]; done))); (case hi => (first | kernel_rfl | (rw [stn_size]; kernel_rfl))))
      | (go_at_call 33; with_reducible refine (T1.out _).mono ?_; rintro e w3 ⟨rfl, hb⟩; replace hB := hB.trans (hb.mono hB.size); replace p := p.below hb p.lt; replace q := q.below hb q.lt; replace a := a.below hb a.lt; replace b := b.below hb b.lt; clear hb)
      | (rw [zero_vec]; refine wpList_store_row rfl _ _ _ rfl _ rfl _ rfl _ _ (blk.new _ _ _) (by first | kernel_rfl | (rw [vfn_size]; kernel_rfl)) (by first | rfl | simp only [vfn_size]) (by first | exact vfn_one _ | rfl) ?_))
    have c := (blk.new w3 (vfn fun _ => 0) 25).row (vfn Z)
    replace hB := Below.setRow (hB.alloc hB.size (.cells (vfn fun _ => 0) 25)) (g := w3.heap.size) hB.size (vfn Z)
    have hne : ∀ x, x < w3.heap.size → x ≠ w3.heap.size := fun x hx => Nat.ne_of_lt hx
    replace p := (p.alloc (.cells (vfn fun _ => 0) 25)).rowOther (hne _ p.lt) (vfn Z)
    replace q := (q.alloc (.cells (vfn fun _ => 0) 25)).rowOther (hne _ q.lt) (vfn Z)
    replace a := (a.alloc (.cells (vfn fun _ => 0) 25)).rowOther (hne _ a.lt) (vfn Z)
    replace b := (b.alloc (.cells (vfn fun _ => 0) 25)).rowOther (hne _ b.lt) (vfn Z)
    clear hne
    generalize (w3.alloc (.cells (vfn fun _ => 0) 25)).setRow w3.heap.size (vfn Z) = w3x at *
    generalize w3.heap.size = c_b at *
    go_wp2_with (first
      | (go_at_call 32; refine (AW.out _).mono ?_; rintro e wx ⟨rfl, hb⟩; replace hB := hB.trans (hb.mono hB.size); clear hb))
    go_ret
    exact ⟨rfl, hB⟩
  · skip
    go_enter Try.func9, Try.ntmps9
    go_upto_region 1 with (fail)
    have p : blk ((w.alloc (.cells (ofn f) 44)).alloc (.cells (stn g) 51)) w.heap.size (ofn f) 44 := (blk.new _ _ _).alloc _
    have q : blk ((w.alloc (.cells (ofn f) 44)).alloc (.cells (stn g) 51)) (w.heap.size + 1) (stn g) 51 := blk.new' (by simp)
    have hB : Below w.heap.size w ((w.alloc (.cells (ofn f) 44)).alloc (.cells (stn g) 51)) := by go_grown
    generalize ((w.alloc (.cells (ofn f) 44)).alloc (.cells (stn g) 51)) = w0 at *
    have c0 : w0.cell? ⟨w.heap.size, 0, none⟩ = some (.int .i64 (f 0)) := p.cellIs (rfl)
    have c1 : w0.cell? ⟨w.heap.size, 1, none⟩ = some (.int .i64 (f 1)) := p.cellIs (rfl)
    have c2 : w0.cell? ⟨w.heap.size, 2, none⟩ = some (.int .i64 (f 2)) := p.cellIs (rfl)
    go_upto_region 3 with (fail)
    clear c0 c1 c2
    go_upto_region 4 with (first
      | (refine wpList_load_rowG ?hw _ _ rfl _ rfl _ _ _ _ p Try.underlying44 rfl ?hi ?_; (case hw => (first | rfl | (simp [Region.wanted, yielded]; done))); (case hi => (first | kernel_rfl | (rw [ofn_size]; kernel_rfl))))
      | (go_at_call 24; with_reducible refine (P1.out _).mono ?_; rintro e w1 ⟨rfl, hb⟩; replace hB := hB.trans (hb.mono hB.size); replace p := p.below hb p.lt; replace q := q.below hb q.lt; clear hb)
      | (rw [zero_vec]; refine wpList_store_row rfl _ _ _ rfl _ rfl _ rfl _ _ (blk.new _ _ _) (by first | kernel_rfl | (rw [vfn_size]; kernel_rfl)) (by first | rfl | simp only [vfn_size]) (by first | exact vfn_one _ | rfl) ?_))
    have a := (blk.new w1 (vfn fun _ => 0) 25).row (vfn X)
    replace hB := Below.setRow (hB.alloc hB.size (.cells (vfn fun _ => 0) 25)) (g := w1.heap.size) hB.size (vfn X)
    have hne : ∀ x, x < w1.heap.size → x ≠ w1.heap.size := fun x hx => Nat.ne_of_lt hx
    replace p := (p.alloc (.cells (vfn fun _ => 0) 25)).rowOther (hne _ p.lt) (vfn X)
    replace q := (q.alloc (.cells (vfn fun _ => 0) 25)).rowOther (hne _ q.lt) (vfn X)
    clear hne
    generalize (w1.alloc (.cells (vfn fun _ => 0) 25)).setRow w1.heap.size (vfn X) = w1x at *
    generalize w1.heap.size = a_b at *
    go_upto_region 5 with (first
      | (refine wpList_load_rowG ?hw _ _ rfl _ rfl _ _ _ _ p Try.underlying44 rfl ?hi ?_; (case hw => (first | rfl | (simp [Region.wanted, yielded]; done))); (case hi => (first | kernel_rfl | (rw [ofn_size]; kernel_rfl))))
      | (go_at_call 26; with_reducible refine (S1.out _).mono ?_; rintro e w2 ⟨rfl, hb⟩; replace hB := hB.trans (hb.mono hB.size); replace p := p.below hb p.lt; replace q := q.below hb q.lt; replace a := a.below hb a.lt; clear hb)
      | (rw [zero_vec]; refine wpList_store_row rfl _ _ _ rfl _ rfl _ rfl _ _ (blk.new _ _ _) (by first | kernel_rfl | (rw [vfn_size]; kernel_rfl)) (by first | rfl | simp only [vfn_size]) (by first | exact vfn_one _ | rfl) ?_))
    have b := (blk.new w2 (vfn fun _ => 0) 25).row (vfn Y)
    replace hB := Below.setRow (hB.alloc hB.size (.cells (vfn fun _ => 0) 25)) (g := w2.heap.size) hB.size (vfn Y)
    have hne : ∀ x, x < w2.heap.size → x ≠ w2.heap.size := fun x hx => Nat.ne_of_lt hx
    replace p := (p.alloc (.cells (vfn fun _ => 0) 25)).rowOther (hne _ p.lt) (vfn Y)
    replace q := (q.alloc (.cells (vfn fun _ => 0) 25)).rowOther (hne _ q.lt) (vfn Y)
    replace a := (a.alloc (.cells (vfn fun _ => 0) 25)).rowOther (hne _ a.lt) (vfn Y)
    clear hne
    generalize (w2.alloc (.cells (vfn fun _ => 0) 25)).setRow w2.heap.size (vfn Y) = w2x at *
    generalize w2.heap.size = b_b at *
    go_upto_region 6 with (first
      | (refine wpList_load_rowG ?hw _ _ rfl _ rfl _ _ _ _ p Try.underlying44 rfl ?hi ?_; (case hw => (first | rfl | (simp [Region.wanted, yielded]; done))); (case hi => (first | kernel_rfl | (rw [ofn_size]; kernel_rfl))))
      | (refine wpList_load_rowG ?hw _ _ rfl _ rfl _ _ _ _ q Try.underlying51 rfl ?hi ?_; (case hw => (first | rfl | (simp [Region.wanted, yielded]; done))); (case hi => (first | kernel_rfl | (rw [stn_size]; kernel_rfl))))
      | (go_at_call 33; with_reducible refine (T1.out _).mono ?_; rintro e w3 ⟨rfl, hb⟩; replace hB := hB.trans (hb.mono hB.size); replace p := p.below hb p.lt; replace q := q.below hb q.lt; replace a := a.below hb a.lt; replace b := b.below hb b.lt; clear hb)
      | (rw [zero_vec]; refine wpList_store_row rfl _ _ _ rfl _ rfl _ rfl _ _ (blk.new _ _ _) (by first | kernel_rfl | (rw [vfn_size]; kernel_rfl)) (by first | rfl | simp only [vfn_size]) (by first | exact vfn_one _ | rfl) ?_))
    have c := (blk.new w3 (vfn fun _ => 0) 25).row (vfn Z)
    replace hB := Below.setRow (hB.alloc hB.size (.cells (vfn fun _ => 0) 25)) (g := w3.heap.size) hB.size (vfn Z)
    have hne : ∀ x, x < w3.heap.size → x ≠ w3.heap.size := fun x hx => Nat.ne_of_lt hx
    replace p := (p.alloc (.cells (vfn fun _ => 0) 25)).rowOther (hne _ p.lt) (vfn Z)
    replace q := (q.alloc (.cells (vfn fun _ => 0) 25)).rowOther (hne _ q.lt) (vfn Z)
    replace a := (a.alloc (.cells (vfn fun _ => 0) 25)).rowOther (hne _ a.lt) (vfn Z)
    replace b := (b.alloc (.cells (vfn fun _ => 0) 25)).rowOther (hne _ b.lt) (vfn Z)
    clear hne
    generalize (w3.alloc (.cells (vfn fun _ => 0) 25)).setRow w3.heap.size (vfn Z) = w3x at *
    generalize w3.heap.size = c_b at *
    go_wp2_with (first
      | (go_at_call 32; refine (AW.out _).mono ?_; rintro e wx ⟨rfl, hb⟩; replace hB := hB.trans (hb.mono hB.size); clear hb))
    go_ret
    exact ⟨rfl, hB⟩
set_option maxRecDepth 100000 in
set_option maxHeartbeats 8000000 in
theorem oret_in (f g : Nat → Int) (t : Int) (X Y Z : Nat → Int) (w : World) (d1 : decide (t < 0) = false) (d2 : decide (274877906944 < t) = false) (d3 : decide (274877906944 < f 0) = false) (d4 : decide (274877906944 < f 1) = false) (d5 : decide (274877906944 < f 2) = false) (y0 : IntKind.i64.wrap (t + f 0) = t + f 0) (y1 : IntKind.i64.wrap (t + f 1) = t + f 1) (y2 : IntKind.i64.wrap (t + f 2) = t + f 2) (P1 : Hid (∀ w, Calls Try.prog 24 #[.agg (ofn f), .int .i64 t] w fun e w' => e = .returned (.tuple #[.agg (vfn X), .int .i64 0]) ∧ Below w.heap.size w w')) (S1 : Hid (∀ w, Calls Try.prog 26 #[.agg (ofn f), .int .i64 t] w fun e w' => e = .returned (.tuple #[.agg (vfn Y), .int .i64 0]) ∧ Below w.heap.size w w')) (T1 : Hid (∀ w, Calls Try.prog 33 #[.agg (ofn f), .agg (stn g), .int .i64 t] w fun e w' => e = .returned (.tuple #[.agg (vfn Z), .int .i64 0]) ∧ Below w.heap.size w w')) (P2 : Hid (∀ w, Calls Try.prog 24 #[.agg (ofn f), .int .i64 (t + f 0)] w fun e w' => e = .returned (.tuple #[.agg (vfn X), .int .i64 0]) ∧ Below w.heap.size w w')) (S2 : Hid (∀ w, Calls Try.prog 26 #[.agg (ofn f), .int .i64 (t + f 2)] w fun e w' => e = .returned (.tuple #[.agg (vfn Y), .int .i64 0]) ∧ Below w.heap.size w w')) (T2 : Hid (∀ w, Calls Try.prog 33 #[.agg (ofn f), .agg (stn g), .int .i64 (t + f 1)] w fun e w' => e = .returned (.tuple #[.agg (vfn Z), .int .i64 0]) ∧ Below w.heap.size w w')) (L1 : Hid (∀ w, Calls Try.prog 37 #[.agg (vfn X), .int .i64 0] w fun e w' => e = .returned (.bool true) ∧ Below w.heap.size w w')) (L2 : Hid (∀ w, Calls Try.prog 37 #[.agg (vfn Y), .int .i64 0] w fun e w' => e = .returned (.bool true) ∧ Below w.heap.size w w')) (L3 : Hid (∀ w, Calls Try.prog 37 #[.agg (vfn Z), .int .i64 0] w fun e w' => e = .returned (.bool true) ∧ Below w.heap.size w w')) : Calls Try.prog 9 #[.agg (ofn f), .agg (stn g), .int .i64 t] w fun e w' => e = .returned (.bool true) ∧ Below w.heap.size w w' := by
  have AW := Lib.hid awake25_any
  have hq1 := vec_eq_self X
  have hq2 := vec_eq_self Y
  have hq3 := vec_eq_self Z
  go_enter Try.func9, Try.ntmps9
  go_upto_region 1 with (fail)
  have p : blk ((w.alloc (.cells (ofn f) 44)).alloc (.cells (stn g) 51)) w.heap.size (ofn f) 44 := (blk.new _ _ _).alloc _
  have q : blk ((w.alloc (.cells (ofn f) 44)).alloc (.cells (stn g) 51)) (w.heap.size + 1) (stn g) 51 := blk.new' (by simp)
  have hB : Below w.heap.size w ((w.alloc (.cells (ofn f) 44)).alloc (.cells (stn g) 51)) := by go_grown
  generalize ((w.alloc (.cells (ofn f) 44)).alloc (.cells (stn g) 51)) = w0 at *
  have c0 : w0.cell? ⟨w.heap.size, 0, none⟩ = some (.int .i64 (f 0)) := p.cellIs (rfl)
  have c1 : w0.cell? ⟨w.heap.size, 1, none⟩ = some (.int .i64 (f 1)) := p.cellIs (rfl)
  have c2 : w0.cell? ⟨w.heap.size, 2, none⟩ = some (.int .i64 (f 2)) := p.cellIs (rfl)
  go_upto_region 3 with (fail)
  clear c0 c1 c2
  go_upto_region 4 with (first
    | (refine wpList_load_rowG ?hw _ _ rfl _ rfl _ _ _ _ p Try.underlying44 rfl ?hi ?_; (case hw => (first | rfl | (simp [Region.wanted, yielded]; done))); (case hi => (first | kernel_rfl | (rw [ofn_size]; kernel_rfl))))
    | (go_at_call 24; with_reducible refine (P1.out _).mono ?_; rintro e w1 ⟨rfl, hb⟩; replace hB := hB.trans (hb.mono hB.size); replace p := p.below hb p.lt; replace q := q.below hb q.lt; clear hb)
    | (rw [zero_vec]; refine wpList_store_row rfl _ _ _ rfl _ rfl _ rfl _ _ (blk.new _ _ _) (by first | kernel_rfl | (rw [vfn_size]; kernel_rfl)) (by first | rfl | simp only [vfn_size]) (by first | exact vfn_one _ | rfl) ?_))
  have a := (blk.new w1 (vfn fun _ => 0) 25).row (vfn X)
  replace hB := Below.setRow (hB.alloc hB.size (.cells (vfn fun _ => 0) 25)) (g := w1.heap.size) hB.size (vfn X)
  have hne : ∀ x, x < w1.heap.size → x ≠ w1.heap.size := fun x hx => Nat.ne_of_lt hx
  replace p := (p.alloc (.cells (vfn fun _ => 0) 25)).rowOther (hne _ p.lt) (vfn X)
  replace q := (q.alloc (.cells (vfn fun _ => 0) 25)).rowOther (hne _ q.lt) (vfn X)
  clear hne
  generalize (w1.alloc (.cells (vfn fun _ => 0) 25)).setRow w1.heap.size (vfn X) = w1x at *
  generalize w1.heap.size = a_b at *
  go_upto_region 5 with (first
    | (refine wpList_load_rowG ?hw _ _ rfl _ rfl _ _ _ _ p Try.underlying44 rfl ?hi ?_; (case hw => (first | rfl | (simp [Region.wanted, yielded]; done))); (case hi => (first | kernel_rfl | (rw [ofn_size]; kernel_rfl))))
    | (go_at_call 26; with_reducible refine (S1.out _).mono ?_; rintro e w2 ⟨rfl, hb⟩; replace hB := hB.trans (hb.mono hB.size); replace p := p.below hb p.lt; replace q := q.below hb q.lt; replace a := a.below hb a.lt; clear hb)
    | (rw [zero_vec]; refine wpList_store_row rfl _ _ _ rfl _ rfl _ rfl _ _ (blk.new _ _ _) (by first | kernel_rfl | (rw [vfn_size]; kernel_rfl)) (by first | rfl | simp only [vfn_size]) (by first | exact vfn_one _ | rfl) ?_))
  have b := (blk.new w2 (vfn fun _ => 0) 25).row (vfn Y)
  replace hB := Below.setRow (hB.alloc hB.size (.cells (vfn fun _ => 0) 25)) (g := w2.heap.size) hB.size (vfn Y)
  have hne : ∀ x, x < w2.heap.size → x ≠ w2.heap.size := fun x hx => Nat.ne_of_lt hx
  replace p := (p.alloc (.cells (vfn fun _ => 0) 25)).rowOther (hne _ p.lt) (vfn Y)
  replace q := (q.alloc (.cells (vfn fun _ => 0) 25)).rowOther (hne _ q.lt) (vfn Y)
  replace a := (a.alloc (.cells (vfn fun _ => 0) 25)).rowOther (hne _ a.lt) (vfn Y)
  clear hne
  generalize (w2.alloc (.cells (vfn fun _ => 0) 25)).setRow w2.heap.size (vfn Y) = w2x at *
  generalize w2.heap.size = b_b at *
  go_upto_region 6 with (first
    | (refine wpList_load_rowG ?hw _ _ rfl _ rfl _ _ _ _ p Try.underlying44 rfl ?hi ?_; (case hw => (first | rfl | (simp [Region.wanted, yielded]; done))); (case hi => (first | kernel_rfl | (rw [ofn_size]; kernel_rfl))))
    | (refine wpList_load_rowG ?hw _ _ rfl _ rfl _ _ _ _ q Try.underlying51 rfl ?hi ?_; (case hw => (first | rfl | (simp [Region.wanted, yielded]; done))); (case hi => (first | kernel_rfl | (rw [stn_size]; kernel_rfl))))
    | (go_at_call 33; with_reducible refine (T1.out _).mono ?_; rintro e w3 ⟨rfl, hb⟩; replace hB := hB.trans (hb.mono hB.size); replace p := p.below hb p.lt; replace q := q.below hb q.lt; replace a := a.below hb a.lt; replace b := b.below hb b.lt; clear hb)
    | (rw [zero_vec]; refine wpList_store_row rfl _ _ _ rfl _ rfl _ rfl _ _ (blk.new _ _ _) (by first | kernel_rfl | (rw [vfn_size]; kernel_rfl)) (by first | rfl | simp only [vfn_size]) (by first | exact vfn_one _ | rfl) ?_))
  have c := (blk.new w3 (vfn fun _ => 0) 25).row (vfn Z)
  replace hB := Below.setRow (hB.alloc hB.size (.cells (vfn fun _ => 0) 25)) (g := w3.heap.size) hB.size (vfn Z)
  have hne : ∀ x, x < w3.heap.size → x ≠ w3.heap.size := fun x hx => Nat.ne_of_lt hx
  replace p := (p.alloc (.cells (vfn fun _ => 0) 25)).rowOther (hne _ p.lt) (vfn Z)
  replace q := (q.alloc (.cells (vfn fun _ => 0) 25)).rowOther (hne _ q.lt) (vfn Z)
  replace a := (a.alloc (.cells (vfn fun _ => 0) 25)).rowOther (hne _ a.lt) (vfn Z)
  replace b := (b.alloc (.cells (vfn fun _ => 0) 25)).rowOther (hne _ b.lt) (vfn Z)
  clear hne
  generalize (w3.alloc (.cells (vfn fun _ => 0) 25)).setRow w3.heap.size (vfn Z) = w3x at *
  generalize w3.heap.size = c_b at *
  go_upto_region 8 with (fail)
  have c0 : w3x.cell? ⟨w.heap.size, 0, none⟩ = some (.int .i64 (f 0)) := p.cellIs (rfl)
  go_upto_region 9 with (first
    | (refine wpList_load_rowG ?hw _ _ rfl _ rfl _ _ _ _ p Try.underlying44 rfl ?hi ?_; (case hw => (first | rfl | (simp [Region.wanted, yielded]; done))); (case hi => (first | kernel_rfl | (rw [ofn_size]; kernel_rfl))))
    | (go_at_call 24; with_reducible refine (P2.out _).mono ?_; rintro e w4 ⟨rfl, hb⟩; replace hB := hB.trans (hb.mono hB.size); replace p := p.below hb p.lt; replace q := q.below hb q.lt; replace a := a.below hb a.lt; replace b := b.below hb b.lt; replace c := c.below hb c.lt; clear hb)
    | (rw [zero_vec]; refine wpList_store_row rfl _ _ _ rfl _ rfl _ rfl _ _ (blk.new _ _ _) (by first | kernel_rfl | (rw [vfn_size]; kernel_rfl)) (by first | rfl | simp only [vfn_size]) (by first | exact vfn_one _ | rfl) ?_))
  clear c0
  have d := (blk.new w4 (vfn fun _ => 0) 25).row (vfn X)
  replace hB := Below.setRow (hB.alloc hB.size (.cells (vfn fun _ => 0) 25)) (g := w4.heap.size) hB.size (vfn X)
  have hne : ∀ x, x < w4.heap.size → x ≠ w4.heap.size := fun x hx => Nat.ne_of_lt hx
  replace p := (p.alloc (.cells (vfn fun _ => 0) 25)).rowOther (hne _ p.lt) (vfn X)
  replace q := (q.alloc (.cells (vfn fun _ => 0) 25)).rowOther (hne _ q.lt) (vfn X)
  replace a := (a.alloc (.cells (vfn fun _ => 0) 25)).rowOther (hne _ a.lt) (vfn X)
  replace b := (b.alloc (.cells (vfn fun _ => 0) 25)).rowOther (hne _ b.lt) (vfn X)
  replace c := (c.alloc (.cells (vfn fun _ => 0) 25)).rowOther (hne _ c.lt) (vfn X)
  clear hne
  generalize (w4.alloc (.cells (vfn fun _ => 0) 25)).setRow w4.heap.size (vfn X) = w4x at *
  generalize w4.heap.size = d_b at *
  have c2 : w4x.cell? ⟨w.heap.size, 2, none⟩ = some (.int .i64 (f 2)) := p.cellIs (rfl)
  go_upto_region 10 with (first
    | (refine wpList_load_rowG ?hw _ _ rfl _ rfl _ _ _ _ p Try.underlying44 rfl ?hi ?_; (case hw => (first | rfl | (simp [Region.wanted, yielded]; done))); (case hi => (first | kernel_rfl | (rw [ofn_size]; kernel_rfl))))
    | (go_at_call 26; with_reducible refine (S2.out _).mono ?_; rintro e w5 ⟨rfl, hb⟩; replace hB := hB.trans (hb.mono hB.size); replace p := p.below hb p.lt; replace q := q.below hb q.lt; replace a := a.below hb a.lt; replace b := b.below hb b.lt; replace c := c.below hb c.lt; replace d := d.below hb d.lt; clear hb)
    | (rw [zero_vec]; refine wpList_store_row rfl _ _ _ rfl _ rfl _ rfl _ _ (blk.new _ _ _) (by first | kernel_rfl | (rw [vfn_size]; kernel_rfl)) (by first | rfl | simp only [vfn_size]) (by first | exact vfn_one _ | rfl) ?_))
  clear c2
  have e_ := (blk.new w5 (vfn fun _ => 0) 25).row (vfn Y)
  replace hB := Below.setRow (hB.alloc hB.size (.cells (vfn fun _ => 0) 25)) (g := w5.heap.size) hB.size (vfn Y)
  have hne : ∀ x, x < w5.heap.size → x ≠ w5.heap.size := fun x hx => Nat.ne_of_lt hx
  replace p := (p.alloc (.cells (vfn fun _ => 0) 25)).rowOther (hne _ p.lt) (vfn Y)
  replace q := (q.alloc (.cells (vfn fun _ => 0) 25)).rowOther (hne _ q.lt) (vfn Y)
  replace a := (a.alloc (.cells (vfn fun _ => 0) 25)).rowOther (hne _ a.lt) (vfn Y)
  replace b := (b.alloc (.cells (vfn fun _ => 0) 25)).rowOther (hne _ b.lt) (vfn Y)
  replace c := (c.alloc (.cells (vfn fun _ => 0) 25)).rowOther (hne _ c.lt) (vfn Y)
  replace d := (d.alloc (.cells (vfn fun _ => 0) 25)).rowOther (hne _ d.lt) (vfn Y)
  clear hne
  generalize (w5.alloc (.cells (vfn fun _ => 0) 25)).setRow w5.heap.size (vfn Y) = w5x at *
  generalize w5.heap.size = e__b at *
  have c1 : w5x.cell? ⟨w.heap.size, 1, none⟩ = some (.int .i64 (f 1)) := p.cellIs (rfl)
  go_upto_region 11 with (first
    | (refine wpList_load_rowG ?hw _ _ rfl _ rfl _ _ _ _ p Try.underlying44 rfl ?hi ?_; (case hw => (first | rfl | (simp [Region.wanted, yielded]; done))); (case hi => (first | kernel_rfl | (rw [ofn_size]; kernel_rfl))))
    | (refine wpList_load_rowG ?hw _ _ rfl _ rfl _ _ _ _ q Try.underlying51 rfl ?hi ?_; (case hw => (first | rfl | (simp [Region.wanted, yielded]; done))); (case hi => (first | kernel_rfl | (rw [stn_size]; kernel_rfl))))
    | (go_at_call 33; with_reducible refine (T2.out _).mono ?_; rintro e w6 ⟨rfl, hb⟩; replace hB := hB.trans (hb.mono hB.size); replace p := p.below hb p.lt; replace q := q.below hb q.lt; replace a := a.below hb a.lt; replace b := b.below hb b.lt; replace c := c.below hb c.lt; replace d := d.below hb d.lt; replace e_ := e_.below hb e_.lt; clear hb)
    | (rw [zero_vec]; refine wpList_store_row rfl _ _ _ rfl _ rfl _ rfl _ _ (blk.new _ _ _) (by first | kernel_rfl | (rw [vfn_size]; kernel_rfl)) (by first | rfl | simp only [vfn_size]) (by first | exact vfn_one _ | rfl) ?_))
  clear c1
  have g_ := (blk.new w6 (vfn fun _ => 0) 25).row (vfn Z)
  replace hB := Below.setRow (hB.alloc hB.size (.cells (vfn fun _ => 0) 25)) (g := w6.heap.size) hB.size (vfn Z)
  have hne : ∀ x, x < w6.heap.size → x ≠ w6.heap.size := fun x hx => Nat.ne_of_lt hx
  replace p := (p.alloc (.cells (vfn fun _ => 0) 25)).rowOther (hne _ p.lt) (vfn Z)
  replace q := (q.alloc (.cells (vfn fun _ => 0) 25)).rowOther (hne _ q.lt) (vfn Z)
  replace a := (a.alloc (.cells (vfn fun _ => 0) 25)).rowOther (hne _ a.lt) (vfn Z)
  replace b := (b.alloc (.cells (vfn fun _ => 0) 25)).rowOther (hne _ b.lt) (vfn Z)
  replace c := (c.alloc (.cells (vfn fun _ => 0) 25)).rowOther (hne _ c.lt) (vfn Z)
  replace d := (d.alloc (.cells (vfn fun _ => 0) 25)).rowOther (hne _ d.lt) (vfn Z)
  replace e_ := (e_.alloc (.cells (vfn fun _ => 0) 25)).rowOther (hne _ e_.lt) (vfn Z)
  clear hne
  generalize (w6.alloc (.cells (vfn fun _ => 0) 25)).setRow w6.heap.size (vfn Z) = w6x at *
  generalize w6.heap.size = g__b at *
  go_wp2_with (first
    | (refine wpList_load_rowG ?hw _ _ rfl _ rfl _ _ _ _ a Try.underlying25 rfl ?hi ?_; (case hw => (first | rfl | (simp [Region.wanted, yielded]; done))); (case hi => (first | kernel_rfl | (rw [vfn_size]; kernel_rfl))))
    | (refine wpList_load_rowG ?hw _ _ rfl _ rfl _ _ _ _ b Try.underlying25 rfl ?hi ?_; (case hw => (first | rfl | (simp [Region.wanted, yielded]; done))); (case hi => (first | kernel_rfl | (rw [vfn_size]; kernel_rfl))))
    | (refine wpList_load_rowG ?hw _ _ rfl _ rfl _ _ _ _ c Try.underlying25 rfl ?hi ?_; (case hw => (first | rfl | (simp [Region.wanted, yielded]; done))); (case hi => (first | kernel_rfl | (rw [vfn_size]; kernel_rfl))))
    | (refine wpList_load_rowG ?hw _ _ rfl _ rfl _ _ _ _ d Try.underlying25 rfl ?hi ?_; (case hw => (first | rfl | (simp [Region.wanted, yielded]; done))); (case hi => (first | kernel_rfl | (rw [vfn_size]; kernel_rfl))))
    | (refine wpList_load_rowG ?hw _ _ rfl _ rfl _ _ _ _ e_ Try.underlying25 rfl ?hi ?_; (case hw => (first | rfl | (simp [Region.wanted, yielded]; done))); (case hi => (first | kernel_rfl | (rw [vfn_size]; kernel_rfl))))
    | (refine wpList_load_rowG ?hw _ _ rfl _ rfl _ _ _ _ g_ Try.underlying25 rfl ?hi ?_; (case hw => (first | rfl | (simp [Region.wanted, yielded]; done))); (case hi => (first | kernel_rfl | (rw [vfn_size]; kernel_rfl))))
    | (go_at_call 37; with_reducible refine (L1.out _).mono ?_; rintro e w7 ⟨rfl, hb⟩; replace hB := hB.trans (hb.mono hB.size); replace p := p.below hb p.lt; replace q := q.below hb q.lt; replace a := a.below hb a.lt; replace b := b.below hb b.lt; replace c := c.below hb c.lt; replace d := d.below hb d.lt; replace e_ := e_.below hb e_.lt; replace g_ := g_.below hb g_.lt; clear hb)
    | (go_at_call 37; with_reducible refine (L2.out _).mono ?_; rintro e w8 ⟨rfl, hb⟩; replace hB := hB.trans (hb.mono hB.size); replace p := p.below hb p.lt; replace q := q.below hb q.lt; replace a := a.below hb a.lt; replace b := b.below hb b.lt; replace c := c.below hb c.lt; replace d := d.below hb d.lt; replace e_ := e_.below hb e_.lt; replace g_ := g_.below hb g_.lt; clear hb)
    | (go_at_call 37; with_reducible refine (L3.out _).mono ?_; rintro e w9 ⟨rfl, hb⟩; replace hB := hB.trans (hb.mono hB.size); replace p := p.below hb p.lt; replace q := q.below hb q.lt; replace a := a.below hb a.lt; replace b := b.below hb b.lt; replace c := c.below hb c.lt; replace d := d.below hb d.lt; replace e_ := e_.below hb e_.lt; replace g_ := g_.below hb g_.lt; clear hb)
    | (go_at_call 32; refine (AW.out _).mono ?_; rintro e wx ⟨rfl, hb⟩; replace hB := hB.trans (hb.mono hB.size); clear hb))
  go_ret
  exact ⟨rfl, hB⟩
theorem angV_per (t n : Int) : angV (t + n) n = angV t n := by
  unfold angV
  rw [Int.add_emod_right]
theorem oreturns_any (f g : Nat → Int) (t : Int) (w : World) (hf : OO f) (hg : SS g) : Calls Try.prog 9 #[.agg (ofn f), .agg (stn g), .int .i64 t] w fun e w' => e = .returned (.bool true) ∧ Below w.heap.size w w' := by
  by_cases h1 : t < 0
  · exact oret_out0 f g t w (decide_eq_true h1)
  have d1 := decide_eq_false h1
  by_cases h2 : 274877906944 < t
  · exact oret_out1 f g t w d1 (decide_eq_true h2)
  have d2 := decide_eq_false h2
  by_cases h3 : 274877906944 < f 0
  · exact oret_out2 f g t w d1 d2 (decide_eq_true h3)
  have d3 := decide_eq_false h3
  by_cases h4 : 274877906944 < f 1
  · exact oret_out3 f g t w d1 d2 d3 (decide_eq_true h4)
  have d4 := decide_eq_false h4
  by_cases h5 : 274877906944 < f 2
  · exact oret_out4 f g t w d1 d2 d3 d4 (decide_eq_true h5)
  have d5 := decide_eq_false h5
  have hT : okT t = true := (okT_iff t).2 ⟨by omega, by omega⟩
  have P1 := fun w => place_any f t w hf
  have S1 := fun w => sun_any f t w hf
  have T1 := fun w => station_any f g t w hf hg
  cases ho : okO f with
  | false =>
    have e1 : placeE f t = 2 := if_neg (by rw [ho]; simp)
    have e2 : statE f g t = 2 := if_neg (by rw [ho]; simp)
    rw [e1] at P1 S1
    rw [e2] at T1
    exact oret_bad f g t _ _ _ 2 w d1 d2 d3 d4 d5 (.inr rfl) P1 S1 T1
  | true =>
    have e1 : placeE f t = 0 := if_pos (by rw [ho, hT]; rfl)
    rw [e1] at P1 S1
    cases hs : okS g with
    | false =>
      have e2 : statE f g t = 2 := if_neg (by rw [ho, hT, hs]; decide)
      rw [e2] at T1
      exact oret_bad f g t _ _ _ 0 w d1 d2 d3 d4 d5 (.inl rfl) P1 S1 T1
    | true =>
      have e2 : statE f g t = 0 := if_pos (by rw [ho, hT, hs]; rfl)
      rw [e2] at T1
      obtain ⟨⟨p0, p1, p2⟩, _⟩ := (okO_iff f).1 ho
      have p0' := (okP_iff _).1 p0
      have p1' := (okP_iff _).1 p1
      have p2' := (okP_iff _).1 p2
      have hT0 : okT (t + f 0) = true := (okT_iff _).2 ⟨by omega, by omega⟩
      have hT1 : okT (t + f 1) = true := (okT_iff _).2 ⟨by omega, by omega⟩
      have hT2 : okT (t + f 2) = true := (okT_iff _).2 ⟨by omega, by omega⟩
      have v1 : placeF f t = vunF (plX3 f t) := if_pos (by rw [ho, hT]; rfl)
      have v2 : sunF f t = vunF (suX3 f t) := if_pos (by rw [ho, hT]; rfl)
      have v3 : statF f g t = vunF (stX3 f g t) := if_pos (by rw [ho, hT, hs]; rfl)
      have z1 : plX3 f (t + f 0) = plX3 f t := by unfold plX3 plY orbU; rw [angV_per]
      have z2 : suX3 f (t + f 2) = suX3 f t := by unfold suX3 orbS; rw [angV_per]
      have z3 : stX3 f g (t + f 1) = stX3 f g t := by unfold stX3 orbD; rw [angV_per]
      have v4 : placeF f (t + f 0) = placeF f t := by rw [v1, ← z1]; exact if_pos (by rw [ho, hT0]; rfl)
      have v5 : sunF f (t + f 2) = sunF f t := by rw [v2, ← z2]; exact if_pos (by rw [ho, hT2]; rfl)
      have v6 : statF f g (t + f 1) = statF f g t := by rw [v3, ← z3]; exact if_pos (by rw [ho, hT1, hs]; rfl)
      have P2 := fun w => place_any f (t + f 0) w hf
      have S2 := fun w => sun_any f (t + f 2) w hf
      have T2 := fun w => station_any f g (t + f 1) w hf hg
      have e3 : placeE f (t + f 0) = 0 := if_pos (by rw [ho, hT0]; rfl)
      have e4 : placeE f (t + f 2) = 0 := if_pos (by rw [ho, hT2]; rfl)
      have e5 : statE f g (t + f 1) = 0 := if_pos (by rw [ho, hT1, hs]; rfl)
      rw [v4, e3] at P2
      rw [v5, e4] at S2
      rw [v6, e5] at T2
      have L : ∀ x, okV x = true ∧ zV x = false → ∀ w, Calls Try.prog 37 #[.agg (vfn (vunF x)), .int .i64 0] w fun e w' => e = .returned (.bool true) ∧ Below w.heap.size w w' := fun x hx w => by
        obtain ⟨_, n1, n2⟩ := vun_norm hx.1 hx.2
        have N1 := fun w => vnorm_any (vunF x) w
        rw [n1] at N1
        exact length_any (vunF x) (normV (vunF x)) w n2 N1
      have L1 := L _ (plX3_ok t hf)
      have L2 := L _ (suX3_ok f t)
      have L3 := L _ (stX3_ok f t hg)
      rw [← v1] at L1
      rw [← v2] at L2
      rw [← v3] at L3
      exact oret_in f g t _ _ _ w d1 d2 d3 d4 d5 (by rw [IntKind.wrap_i64]; omega) (by rw [IntKind.wrap_i64]; omega) (by rw [IntKind.wrap_i64]; omega) P1 S1 T1 P2 S2 T2 L1 L2 L3
end Go.Proofs.Ytcgpcehdeihalaa
