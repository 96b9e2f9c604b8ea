/-
  VectorsCrossed returns true: the walk.
-/
import Derived.Test.YtmanfiphdmmgdaaCrossM
set_option linter.unusedSimpArgs false
set_option linter.unusedVariables false
namespace Go.Proofs.Ytmanfiphdmmgdaa
open Go.RowKit PM Dt
set_option maxRecDepth 100000 in
set_option maxHeartbeats 2000000 in
theorem crossed_out (f g : Nat → Int) (w : World) (h : (smallB f 2147483648 && smallB g 2147483648) = false) : Calls Try.prog 4 #[.agg (vfn f), .agg (vfn g)] w fun e w' => e = .returned (.bool true) ∧ Below w.heap.size w w' := by
  have S1 := Lib.hid (fun w => small_any f 2147483648 w (by omega) (by omega))
  have S2 := Lib.hid (fun w => small_any g 2147483648 w (by omega) (by omega))
  generalize smallB f 2147483648 = bf at *
  generalize smallB g 2147483648 = bg at *
  go_enter Try.func4, Try.ntmps4
  go_upto_region 1 with (fail)
  have p : blk ((w.alloc (.cells (vfn f) 23)).alloc (.cells (vfn g) 23)) w.heap.size (vfn f) 23 := (blk.new _ _ _).alloc _
  have q : blk ((w.alloc (.cells (vfn f) 23)).alloc (.cells (vfn g) 23)) (w.heap.size + 1) (vfn g) 23 := blk.new' (by simp)
  have hB : Below w.heap.size w ((w.alloc (.cells (vfn f) 23)).alloc (.cells (vfn g) 23)) := by go_grown
  generalize (w.alloc (.cells (vfn f) 23)).alloc (.cells (vfn g) 23) = w0 at *
  cases bf <;> cases bg
  case true.true => cases h
  all_goals
    clear h
    go_wp2_with (first
      | (refine wpList_load_rowG ?hw _ _ rfl _ rfl _ _ _ _ p Try.underlying23 rfl ?hi ?_; (case hw => (first | rfl | (simp [Region.wanted, yielded]; done))); (case hi => (rw [vfn_size]; kernel_rfl)))
      | (refine wpList_load_rowG ?hw _ _ rfl _ rfl _ _ _ _ q Try.underlying23 rfl ?hi ?_; (case hw => (first | rfl | (simp [Region.wanted, yielded]; done))); (case hi => (rw [vfn_size]; kernel_rfl)))
      | (go_at_call 21; with_reducible refine (S1.out _).mono ?_; rintro e w1 ⟨rfl, hb⟩; replace hB := hB.trans (hb.mono hB.size); replace p := p.below hb p.lt; replace q := q.below hb q.lt; clear hb)
      | (go_at_call 21; with_reducible refine (S2.out _).mono ?_; rintro e w1 ⟨rfl, hb⟩; replace hB := hB.trans (hb.mono hB.size); replace p := p.below hb p.lt; replace q := q.below hb q.lt; clear hb)
      | (go_at_call 20; refine (awakeV_any _).mono ?_; rintro e wx ⟨rfl, hb⟩; replace hB := hB.trans (hb.mono hB.size); clear hb))
    go_ret
    exact ⟨rfl, hB⟩
set_option maxRecDepth 100000 in
set_option maxHeartbeats 4000000 in
theorem crossed_in (f g c d s : Nat → Int) (x y : Int) (w : World)
    (S1 : Hid (∀ w, Calls Try.prog 21 #[.agg (vfn f), .int .i64 2147483648] w fun e w' => e = .returned (.bool true) ∧ Below w.heap.size w w'))
    (S2 : Hid (∀ w, Calls Try.prog 21 #[.agg (vfn g), .int .i64 2147483648] w fun e w' => e = .returned (.bool true) ∧ Below w.heap.size w w'))
    (S3 : Hid (∀ w, Calls Try.prog 21 #[.agg #[.int .i64 x, .int .i64 y, .int .i64 0], .int .i64 4] w fun e w' => e = .returned (.bool true) ∧ Below w.heap.size w w'))
    (S4 : Hid (∀ w, Calls Try.prog 21 #[.agg (vfn s), .int .i64 1] w fun e w' => e = .returned (.bool true) ∧ Below w.heap.size w w'))
    (C1 : Hid (∀ w, Calls Try.prog 16 #[.agg (vfn f), .agg (vfn g)] w fun e w' => e = .returned (.tuple #[.agg (vfn c), .int .i64 0]) ∧ Below w.heap.size w w'))
    (C2 : Hid (∀ w, Calls Try.prog 16 #[.agg (vfn g), .agg (vfn f)] w fun e w' => e = .returned (.tuple #[.agg (vfn d), .int .i64 0]) ∧ Below w.heap.size w w'))
    (D1 : Hid (∀ w, Calls Try.prog 14 #[.agg (vfn c), .agg (vfn f)] w fun e w' => e = .returned (.tuple #[.int .i64 x, .int .i64 0]) ∧ Below w.heap.size w w'))
    (D2 : Hid (∀ w, Calls Try.prog 14 #[.agg (vfn c), .agg (vfn g)] w fun e w' => e = .returned (.tuple #[.int .i64 y, .int .i64 0]) ∧ Below w.heap.size w w'))
    (A1 : Hid (∀ w, Calls Try.prog 22 #[.agg (vfn c), .agg (vfn d)] w fun e w' => e = .returned (.tuple #[.agg (vfn s), .int .i64 0]) ∧ Below w.heap.size w w')) :
    Calls Try.prog 4 #[.agg (vfn f), .agg (vfn g)] w fun e w' => e = .returned (.bool true) ∧ Below w.heap.size w w' := by
  go_enter Try.func4, Try.ntmps4
  go_upto_region 1 with (fail)
  have p : blk ((w.alloc (.cells (vfn f) 23)).alloc (.cells (vfn g) 23)) w.heap.size (vfn f) 23 := (blk.new _ _ _).alloc _
  have q : blk ((w.alloc (.cells (vfn f) 23)).alloc (.cells (vfn g) 23)) (w.heap.size + 1) (vfn g) 23 := blk.new' (by simp)
  have hB : Below w.heap.size w ((w.alloc (.cells (vfn f) 23)).alloc (.cells (vfn g) 23)) := by go_grown
  generalize (w.alloc (.cells (vfn f) 23)).alloc (.cells (vfn g) 23) = w0 at *
  go_upto_region 3 with (first
    | (refine wpList_load_rowG ?hw _ _ rfl _ rfl _ _ _ _ p Try.underlying23 rfl ?hi ?_; (case hw => (first | rfl | (simp [Region.wanted, yielded]; done))); (case hi => (rw [vfn_size]; kernel_rfl)))
    | (refine wpList_load_rowG ?hw _ _ rfl _ rfl _ _ _ _ q Try.underlying23 rfl ?hi ?_; (case hw => (first | rfl | (simp [Region.wanted, yielded]; done))); (case hi => (rw [vfn_size]; kernel_rfl)))
    | (go_at_call 21; with_reducible refine (S1.out _).mono ?_; rintro e w1 ⟨rfl, hb⟩; replace hB := hB.trans (hb.mono hB.size); replace p := p.below hb p.lt; replace q := q.below hb q.lt; clear hb)
    | (go_at_call 21; with_reducible refine (S2.out _).mono ?_; rintro e w1 ⟨rfl, hb⟩; replace hB := hB.trans (hb.mono hB.size); replace p := p.below hb p.lt; replace q := q.below hb q.lt; clear hb))
  go_upto_region 4 with (first
    | (refine wpList_load_rowG ?hw _ _ rfl _ rfl _ _ _ _ p Try.underlying23 rfl ?hi ?_; (case hw => (first | rfl | (simp [Region.wanted, yielded]; done))); (case hi => (rw [vfn_size]; kernel_rfl)))
    | (refine wpList_load_rowG ?hw _ _ rfl _ rfl _ _ _ _ q Try.underlying23 rfl ?hi ?_; (case hw => (first | rfl | (simp [Region.wanted, yielded]; done))); (case hi => (rw [vfn_size]; kernel_rfl)))
    | (go_at_call 16; with_reducible refine (C1.out _).mono ?_; rintro e w3 ⟨rfl, hb⟩; replace hB := hB.trans (hb.mono hB.size); replace p := p.below hb p.lt; replace q := q.below hb q.lt; clear hb)
    | (rw [zero_vec]; refine wpList_store_row rfl _ _ _ rfl _ rfl _ rfl _ _ (blk.new _ _ _) (by rw [vfn_size]; kernel_rfl) (by simp only [vfn_size]) (vfn_one _) ?_))
  have r1 := (blk.new w3 (vfn fun _ => 0) 23).row (vfn c)
  replace hB := Below.setRow (hB.alloc hB.size (.cells (vfn fun _ => 0) 23)) (g := w3.heap.size) hB.size (vfn c)
  have hne1 : w.heap.size ≠ w3.heap.size := by have := p.lt; omega
  have hne2 : w.heap.size + 1 ≠ w3.heap.size := by have := q.lt; omega
  replace p := (p.alloc (.cells (vfn fun _ => 0) 23)).rowOther hne1 (vfn c)
  replace q := (q.alloc (.cells (vfn fun _ => 0) 23)).rowOther hne2 (vfn c)
  generalize (w3.alloc (.cells (vfn fun _ => 0) 23)).setRow w3.heap.size (vfn c) = w3x at *
  generalize w3.heap.size = r1_b at *
  clear hne1 hne2
  go_upto_region 5 with (first
    | (refine wpList_load_rowG ?hw _ _ rfl _ rfl _ _ _ _ p Try.underlying23 rfl ?hi ?_; (case hw => (first | rfl | (simp [Region.wanted, yielded]; done))); (case hi => (rw [vfn_size]; kernel_rfl)))
    | (refine wpList_load_rowG ?hw _ _ rfl _ rfl _ _ _ _ q Try.underlying23 rfl ?hi ?_; (case hw => (first | rfl | (simp [Region.wanted, yielded]; done))); (case hi => (rw [vfn_size]; kernel_rfl)))
    | (go_at_call 16; with_reducible refine (C2.out _).mono ?_; rintro e w4 ⟨rfl, hb⟩; replace hB := hB.trans (hb.mono hB.size); replace p := p.below hb p.lt; replace q := q.below hb q.lt; replace r1 := r1.below hb r1.lt; clear hb)
    | (rw [zero_vec]; refine wpList_store_row rfl _ _ _ rfl _ rfl _ rfl _ _ (blk.new _ _ _) (by rw [vfn_size]; kernel_rfl) (by simp only [vfn_size]) (vfn_one _) ?_))
  have r2 := (blk.new w4 (vfn fun _ => 0) 23).row (vfn d)
  replace hB := Below.setRow (hB.alloc hB.size (.cells (vfn fun _ => 0) 23)) (g := w4.heap.size) hB.size (vfn d)
  have hne1 : w.heap.size ≠ w4.heap.size := by have := p.lt; omega
  have hne2 : w.heap.size + 1 ≠ w4.heap.size := by have := q.lt; omega
  replace p := (p.alloc (.cells (vfn fun _ => 0) 23)).rowOther hne1 (vfn d)
  replace q := (q.alloc (.cells (vfn fun _ => 0) 23)).rowOther hne2 (vfn d)
  have hne3 : r1_b ≠ w4.heap.size := by have := r1.lt; omega
  replace r1 := (r1.alloc (.cells (vfn fun _ => 0) 23)).rowOther hne3 (vfn d)
  clear hne3
  generalize (w4.alloc (.cells (vfn fun _ => 0) 23)).setRow w4.heap.size (vfn d) = w4x at *
  generalize w4.heap.size = r2_b at *
  clear hne1 hne2
  go_upto_region 6 with (first
    | (refine wpList_load_rowG ?hw _ _ rfl _ rfl _ _ _ _ p Try.underlying23 rfl ?hi ?_; (case hw => (first | rfl | (simp [Region.wanted, yielded]; done))); (case hi => (rw [vfn_size]; kernel_rfl)))
    | (refine wpList_load_rowG ?hw _ _ rfl _ rfl _ _ _ _ r1 Try.underlying23 rfl ?hi ?_; (case hw => (first | rfl | (simp [Region.wanted, yielded]; done))); (case hi => (rw [vfn_size]; kernel_rfl)))
    | (go_at_call 14; with_reducible refine (D1.out _).mono ?_; rintro e w5 ⟨rfl, hb⟩; replace hB := hB.trans (hb.mono hB.size); replace p := p.below hb p.lt; replace q := q.below hb q.lt; replace r1 := r1.below hb r1.lt; replace r2 := r2.below hb r2.lt; clear hb))
  go_upto_region 7 with (first
    | (refine wpList_load_rowG ?hw _ _ rfl _ rfl _ _ _ _ q Try.underlying23 rfl ?hi ?_; (case hw => (first | rfl | (simp [Region.wanted, yielded]; done))); (case hi => (rw [vfn_size]; kernel_rfl)))
    | (refine wpList_load_rowG ?hw _ _ rfl _ rfl _ _ _ _ r1 Try.underlying23 rfl ?hi ?_; (case hw => (first | rfl | (simp [Region.wanted, yielded]; done))); (case hi => (rw [vfn_size]; kernel_rfl)))
    | (go_at_call 14; with_reducible refine (D2.out _).mono ?_; rintro e w6 ⟨rfl, hb⟩; replace hB := hB.trans (hb.mono hB.size); replace p := p.below hb p.lt; replace q := q.below hb q.lt; replace r1 := r1.below hb r1.lt; replace r2 := r2.below hb r2.lt; clear hb))
  go_upto_region 8 with (first
    | (refine wpList_load_rowG ?hw _ _ rfl _ rfl _ _ _ _ r1 Try.underlying23 rfl ?hi ?_; (case hw => (first | rfl | (simp [Region.wanted, yielded]; done))); (case hi => (rw [vfn_size]; kernel_rfl)))
    | (refine wpList_load_rowG ?hw _ _ rfl _ rfl _ _ _ _ r2 Try.underlying23 rfl ?hi ?_; (case hw => (first | rfl | (simp [Region.wanted, yielded]; done))); (case hi => (rw [vfn_size]; kernel_rfl)))
    | (go_at_call 22; with_reducible refine (A1.out _).mono ?_; rintro e w7 ⟨rfl, hb⟩; replace hB := hB.trans (hb.mono hB.size); replace p := p.below hb p.lt; replace q := q.below hb q.lt; replace r1 := r1.below hb r1.lt; replace r2 := r2.below hb r2.lt; clear hb)
    | (rw [zero_vec]; refine wpList_store_row rfl _ _ _ rfl _ rfl _ rfl _ _ (blk.new _ _ _) (by rw [vfn_size]; kernel_rfl) (by simp only [vfn_size]) (vfn_one _) ?_))
  have r3 := (blk.new w7 (vfn fun _ => 0) 23).row (vfn s)
  replace hB := Below.setRow (hB.alloc hB.size (.cells (vfn fun _ => 0) 23)) (g := w7.heap.size) hB.size (vfn s)
  have hne1 : w.heap.size ≠ w7.heap.size := by have := p.lt; omega
  have hne2 : w.heap.size + 1 ≠ w7.heap.size := by have := q.lt; omega
  replace p := (p.alloc (.cells (vfn fun _ => 0) 23)).rowOther hne1 (vfn s)
  replace q := (q.alloc (.cells (vfn fun _ => 0) 23)).rowOther hne2 (vfn s)
  have hne3 : r1_b ≠ w7.heap.size := by have := r1.lt; omega
  replace r1 := (r1.alloc (.cells (vfn fun _ => 0) 23)).rowOther hne3 (vfn s)
  clear hne3
  have hne3 : r2_b ≠ w7.heap.size := by have := r2.lt; omega
  replace r2 := (r2.alloc (.cells (vfn fun _ => 0) 23)).rowOther hne3 (vfn s)
  clear hne3
  generalize (w7.alloc (.cells (vfn fun _ => 0) 23)).setRow w7.heap.size (vfn s) = w7x at *
  generalize w7.heap.size = r3_b at *
  clear hne1 hne2
  go_wp2_with (first
    | (refine wpList_load_rowG ?hw _ _ rfl _ rfl _ _ _ _ r3 Try.underlying23 rfl ?hi ?_; (case hw => (first | rfl | (simp [Region.wanted, yielded]; done))); (case hi => (rw [vfn_size]; kernel_rfl)))
    | (go_at_call 21; with_reducible refine (S3.out _).mono ?_; rintro e w8 ⟨rfl, hb⟩; replace hB := hB.trans (hb.mono hB.size); replace p := p.below hb p.lt; replace q := q.below hb q.lt; replace r3 := r3.below hb r3.lt; clear hb)
    | (go_at_call 21; with_reducible refine (S4.out _).mono ?_; rintro e w8 ⟨rfl, hb⟩; replace hB := hB.trans (hb.mono hB.size); replace p := p.below hb p.lt; replace q := q.below hb q.lt; replace r3 := r3.below hb r3.lt; clear hb)
    | (go_at_call 20; refine (awakeV_any _).mono ?_; rintro e wx ⟨rfl, hb⟩; replace hB := hB.trans (hb.mono hB.size); clear hb))
  go_ret
  exact ⟨rfl, hB⟩
theorem crossed_any (f g : Nat → Int) (w : World) : Calls Try.prog 4 #[.agg (vfn f), .agg (vfn g)] w fun e w' => e = .returned (.bool true) ∧ Below w.heap.size w w' := by
  cases h : (smallB f 2147483648 && smallB g 2147483648) with
  | false => exact crossed_out f g w h
  | true =>
    have hf : smallB f 2147483648 = true := by cases hs : smallB f 2147483648 with | true => rfl | false => rw [hs] at h; cases h
    have hg : smallB g 2147483648 = true := by cases hs : smallB g 2147483648 with | true => rfl | false => rw [hs, Bool.and_false] at h; cases h
    obtain ⟨vf, vg, vc, vd, k1, va, k2⟩ := crossed f g hf hg
    refine crossed_in f g (crossX f g) (crossX g f) (addF (crossX f g) (crossX g f)) (rnd (d3 (crossX f g) f)) (rnd (d3 (crossX f g) g)) w ?_ ?_ ?_ ?_ ?_ ?_ ?_ ?_ ?_
    · exact fun w => (small_any f 2147483648 w (by omega) (by omega)).mono fun e w' h => ⟨h.1.trans (by rw [hf]), h.2⟩
    · exact fun w => (small_any g 2147483648 w (by omega) (by omega)).mono fun e w' h => ⟨h.1.trans (by rw [hg]), h.2⟩
    · intro w
      rw [of3_cells]
      exact (small_any _ 4 w (by omega) (by omega)).mono fun e w' h => ⟨h.1.trans (by rw [k1]), h.2⟩
    · exact fun w => (small_any _ 1 w (by omega) (by omega)).mono fun e w' h => ⟨h.1.trans (by rw [k2]), h.2⟩
    · exact fun w => (vcross_any f g w).mono fun e w' h => ⟨h.1.trans (by unfold vcrossF vcrossE; rw [vf, vg, vc]; rfl), h.2⟩
    · exact fun w => (vcross_any g f w).mono fun e w' h => ⟨h.1.trans (by unfold vcrossF vcrossE; rw [vf, vg, vd]; rfl), h.2⟩
    · exact fun w => (vdot_any (crossX f g) f w).mono fun e w' h => ⟨h.1.trans (by unfold vdotV vdotE; rw [vf, vc]; rfl), h.2⟩
    · exact fun w => (vdot_any (crossX f g) g w).mono fun e w' h => ⟨h.1.trans (by unfold vdotV vdotE; rw [vg, vc]; rfl), h.2⟩
    · exact fun w => (vadd_any (crossX f g) (crossX g f) w).mono fun e w' h => ⟨h.1.trans (by unfold vaddF vaddE resF resE; rw [vc, vd, va]; rfl), h.2⟩
end Go.Proofs.Ytmanfiphdmmgdaa
