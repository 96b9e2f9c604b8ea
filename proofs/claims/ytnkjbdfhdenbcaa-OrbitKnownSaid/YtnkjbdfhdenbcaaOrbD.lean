/-
  Orbits: the shadow, in the package and in its specification.
-/
import Derived.Test.YtnkjbdfhdenbcaaOrbC
set_option linter.unusedSimpArgs false
set_option linter.unusedVariables false
namespace Go.Proofs.Ytnkjbdfhdenbcaa
open Go.RowKit PM Dt
theorem place_not {f : Nat → Int} {t : Int} (h : (okO f && okT t) = false) : placeE f t = 2 := by unfold placeE; rw [h]; rfl
theorem place_yes {f : Nat → Int} {t : Int} (h : (okO f && okT t) = true) : placeE f t = 0 := by unfold placeE; rw [h]; rfl
set_option maxRecDepth 100000 in
set_option maxHeartbeats 4000000 in
theorem dark_any (f : Nat → Int) (t : Int) (w : World) (hf : OO f) : Calls Try.prog 21 #[.agg (ofn f), .int .i64 t] w fun e w' => e = .returned (.tuple #[.bool (darkB f t), .int .i64 (placeE f t)]) ∧ Below w.heap.size w w' := by
  have PL := Lib.hid (fun w => place_any f t w hf)
  have SU := Lib.hid (fun w => sun_any f t w hf)
  have DT := Lib.hid (fun w => vdot_any (placeF f t) (sunF f t) w)
  obtain ⟨R, hR⟩ : ∃ F, darkB f t = F := ⟨_, rfl⟩
  rw [hR]
  unfold darkB dark0 at hR
  generalize placeF f t = X at *
  generalize sunF f t = Y at *
  generalize vdotV X Y = c at *
  generalize vdotE X Y = cE at *
  cases hb : okO f && okT t
  case false =>
    rw [place_not hb] at PL SU ⊢
    rw [hb] at hR
    have HR := Lib.hid hR
    clear hR hb hf DT
    go_enter Try.func21, Try.ntmps21
    go_upto_region 1 with (fail)
    have p : blk (w.alloc (.cells (ofn f) 24)) w.heap.size (ofn f) 24 := blk.new _ _ _
    have hB : Below w.heap.size w (w.alloc (.cells (ofn f) 24)) := by go_grown
    generalize (w.alloc (.cells (ofn f) 24)) = w0 at *
    go_upto_region 2 with (first
      | (refine wpList_load_rowG ?hw _ _ rfl _ rfl _ _ _ _ p Try.underlying24 rfl ?hi ?_; (case hw => (first | rfl | (simp [Region.wanted, yielded]; done))); (case hi => (first | kernel_rfl | (rw [ofn_size]; kernel_rfl))))
      | (go_at_call 19; with_reducible refine (PL.out _).mono ?_; rintro e w1 ⟨rfl, hb⟩; replace hB := hB.trans (hb.mono hB.size); replace p := p.below hb p.lt; clear hb)
      | (rw [zero_vec]; refine wpList_store_row rfl _ _ _ rfl _ rfl _ rfl _ _ (blk.new _ _ _) (by first | kernel_rfl | (rw [vfn_size]; kernel_rfl)) (by first | rfl | simp only [vfn_size]) (by first | exact vfn_one _ | rfl) ?_))
    have a := (blk.new w1 (vfn fun _ => 0) 39).row (vfn X)
    replace hB := Below.setRow (hB.alloc hB.size (.cells (vfn fun _ => 0) 39)) (g := w1.heap.size) hB.size (vfn X)
    have hne : ∀ x, x < w1.heap.size → x ≠ w1.heap.size := fun x hx => Nat.ne_of_lt hx
    replace p := (p.alloc (.cells (vfn fun _ => 0) 39)).rowOther (hne _ p.lt) (vfn X)
    clear hne
    generalize (w1.alloc (.cells (vfn fun _ => 0) 39)).setRow w1.heap.size (vfn X) = w1x at *
    generalize w1.heap.size = a_b at *
    go_wp2_with (fail)
    go_ret2
    exact ⟨by rw [← HR.out]; rfl, hB⟩
  case true =>
    rw [place_yes hb] at PL SU ⊢
    rw [hb] at hR
    have HR := Lib.hid hR
    clear hR hb hf
    go_enter Try.func21, Try.ntmps21
    go_upto_region 1 with (fail)
    have p : blk (w.alloc (.cells (ofn f) 24)) w.heap.size (ofn f) 24 := blk.new _ _ _
    have hB : Below w.heap.size w (w.alloc (.cells (ofn f) 24)) := by go_grown
    generalize (w.alloc (.cells (ofn f) 24)) = w0 at *
    go_upto_region 2 with (first
      | (refine wpList_load_rowG ?hw _ _ rfl _ rfl _ _ _ _ p Try.underlying24 rfl ?hi ?_; (case hw => (first | rfl | (simp [Region.wanted, yielded]; done))); (case hi => (first | kernel_rfl | (rw [ofn_size]; kernel_rfl))))
      | (go_at_call 19; with_reducible refine (PL.out _).mono ?_; rintro e w1 ⟨rfl, hb⟩; replace hB := hB.trans (hb.mono hB.size); replace p := p.below hb p.lt; clear hb)
      | (rw [zero_vec]; refine wpList_store_row rfl _ _ _ rfl _ rfl _ rfl _ _ (blk.new _ _ _) (by first | kernel_rfl | (rw [vfn_size]; kernel_rfl)) (by first | rfl | simp only [vfn_size]) (by first | exact vfn_one _ | rfl) ?_))
    have a := (blk.new w1 (vfn fun _ => 0) 39).row (vfn X)
    replace hB := Below.setRow (hB.alloc hB.size (.cells (vfn fun _ => 0) 39)) (g := w1.heap.size) hB.size (vfn X)
    have hne : ∀ x, x < w1.heap.size → x ≠ w1.heap.size := fun x hx => Nat.ne_of_lt hx
    replace p := (p.alloc (.cells (vfn fun _ => 0) 39)).rowOther (hne _ p.lt) (vfn X)
    clear hne
    generalize (w1.alloc (.cells (vfn fun _ => 0) 39)).setRow w1.heap.size (vfn X) = w1x at *
    generalize w1.heap.size = a_b at *
    go_upto_region 4 with (fail)
    go_upto_region 5 with (first
      | (refine wpList_load_rowG ?hw _ _ rfl _ rfl _ _ _ _ p Try.underlying24 rfl ?hi ?_; (case hw => (first | rfl | (simp [Region.wanted, yielded]; done))); (case hi => (first | kernel_rfl | (rw [ofn_size]; kernel_rfl))))
      | (refine wpList_load_rowG ?hw _ _ rfl _ rfl _ _ _ _ a Try.underlying39 rfl ?hi ?_; (case hw => (first | rfl | (simp [Region.wanted, yielded]; done))); (case hi => (first | kernel_rfl | (rw [vfn_size]; kernel_rfl))))
      | (go_at_call 20; with_reducible refine (SU.out _).mono ?_; rintro e w2 ⟨rfl, hb⟩; replace hB := hB.trans (hb.mono hB.size); replace p := p.below hb p.lt; replace a := a.below hb a.lt; clear hb)
      | (rw [zero_vec]; refine wpList_store_row rfl _ _ _ rfl _ rfl _ rfl _ _ (blk.new _ _ _) (by first | kernel_rfl | (rw [vfn_size]; kernel_rfl)) (by first | rfl | simp only [vfn_size]) (by first | exact vfn_one _ | rfl) ?_))
    have b := (blk.new w2 (vfn fun _ => 0) 39).row (vfn Y)
    replace hB := Below.setRow (hB.alloc hB.size (.cells (vfn fun _ => 0) 39)) (g := w2.heap.size) hB.size (vfn Y)
    have hne : ∀ x, x < w2.heap.size → x ≠ w2.heap.size := fun x hx => Nat.ne_of_lt hx
    replace p := (p.alloc (.cells (vfn fun _ => 0) 39)).rowOther (hne _ p.lt) (vfn Y)
    replace a := (a.alloc (.cells (vfn fun _ => 0) 39)).rowOther (hne _ a.lt) (vfn Y)
    clear hne
    generalize (w2.alloc (.cells (vfn fun _ => 0) 39)).setRow w2.heap.size (vfn Y) = w2x at *
    generalize w2.heap.size = b_b at *
    go_upto_region 6 with (first
      | (refine wpList_load_rowG ?hw _ _ rfl _ rfl _ _ _ _ p Try.underlying24 rfl ?hi ?_; (case hw => (first | rfl | (simp [Region.wanted, yielded]; done))); (case hi => (first | kernel_rfl | (rw [ofn_size]; kernel_rfl))))
      | (refine wpList_load_rowG ?hw _ _ rfl _ rfl _ _ _ _ a Try.underlying39 rfl ?hi ?_; (case hw => (first | rfl | (simp [Region.wanted, yielded]; done))); (case hi => (first | kernel_rfl | (rw [vfn_size]; kernel_rfl))))
      | (refine wpList_load_rowG ?hw _ _ rfl _ rfl _ _ _ _ b Try.underlying39 rfl ?hi ?_; (case hw => (first | rfl | (simp [Region.wanted, yielded]; done))); (case hi => (first | kernel_rfl | (rw [vfn_size]; kernel_rfl))))
      | (go_at_call 59; with_reducible refine (DT.out _).mono ?_; rintro e w3 ⟨rfl, hb⟩; replace hB := hB.trans (hb.mono hB.size); replace p := p.below hb p.lt; replace a := a.below hb a.lt; replace b := b.below hb b.lt; clear hb))
    have c7 : w3.cell? ⟨w.heap.size, 7, none⟩ = some (.int .i64 (f 7)) := p.cellIs (rfl)
    by_cases h : c < 0
    · have d1 : decide (c < 0) = true := decide_eq_true h
      rw [d1] at HR
      go_wp2_with (fail)
      go_ret2
      exact ⟨by rw [← HR.out]; rfl, hB⟩
    · have d1 : decide (c < 0) = false := decide_eq_false h
      rw [d1] at HR
      go_wp2_with (fail)
      go_ret2
      exact ⟨by rw [← HR.out]; rfl, hB⟩
theorem okS_eq (g : Nat → Int) : okS g = ((decide (g 0 ≤ 1073741824) || decide (3221225472 ≤ g 0)) && (decide (0 ≤ g 2) && decide (g 2 ≤ 1073741824))) := rfl
end Go.Proofs.Ytnkjbdfhdenbcaa
