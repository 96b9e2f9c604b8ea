/-
  OrbitPlaces returns true.
-/
import Derived.Test.YtcgpcehdeihalaaOrbW
set_option linter.unusedSimpArgs false
set_option linter.unusedVariables false
namespace Go.Proofs.Ytcgpcehdeihalaa
open Go.RowKit PM Dt
set_option maxRecDepth 100000 in
set_option maxHeartbeats 4000000 in
theorem oplaces_any (f : Nat → Int) (t : Int) (w : World) (hf : OO f) : Calls Try.prog 7 #[.agg (ofn f), .int .i64 t] w fun e w' => e = .returned (.bool true) ∧ Below w.heap.size w w' := by
  have K1 := Lib.hid (fun w => place_any f t w hf)
  have K2 := Lib.hid (fun w => rplace_any f t w hf)
  have K3 := Lib.hid (fun w => sun_any f t w hf)
  have K4 := Lib.hid (fun w => rsun_any f t w hf)
  have K5 := Lib.hid (fun w => dark_any f t w hf)
  have K6 := Lib.hid (fun w => rdark_any f t w hf)
  have C1 := Lib.hid (fun w => check_any f w)
  have C2 := Lib.hid (fun w => rcheck_any f w)
  have AW := Lib.hid awake25_any
  generalize placeF f t = X at *
  generalize sunF f t = Y at *
  generalize darkB f t = D at *
  generalize placeE f t = E at *
  generalize chkE f = C at *
  have hq1 := vec_eq_self X
  have hq2 := vec_eq_self Y
  clear hf
  go_enter Try.func7, Try.ntmps7
  go_upto_region 1 with (fail)
  have p : blk (w.alloc (.cells (ofn f) 44)) w.heap.size (ofn f) 44 := blk.new _ _ _
  have hB : Below w.heap.size w (w.alloc (.cells (ofn f) 44)) := by go_grown
  generalize (w.alloc (.cells (ofn f) 44)) = w0 at *
  go_upto_region 2 with (first
    | (refine wpList_load_rowG ?hw _ _ rfl _ rfl _ _ _ _ p Try.underlying44 rfl ?hi ?_; (case hw => (first | rfl | (simp [Region.wanted, yielded]; done))); (case hi => (first | kernel_rfl | (rw [ofn_size]; kernel_rfl))))
    | (go_at_call 24; with_reducible refine (K1.out _).mono ?_; rintro e w1 ⟨rfl, hb⟩; replace hB := hB.trans (hb.mono hB.size); replace p := p.below hb p.lt; clear hb)
    | (rw [zero_vec]; refine wpList_store_row rfl _ _ _ rfl _ rfl _ rfl _ _ (blk.new _ _ _) (by first | kernel_rfl | (rw [vfn_size]; kernel_rfl)) (by first | rfl | simp only [vfn_size]) (by first | exact vfn_one _ | rfl) ?_))
  have a := (blk.new w1 (vfn fun _ => 0) 25).row (vfn X)
  replace hB := Below.setRow (hB.alloc hB.size (.cells (vfn fun _ => 0) 25)) (g := w1.heap.size) hB.size (vfn X)
  have hne : ∀ x, x < w1.heap.size → x ≠ w1.heap.size := fun x hx => Nat.ne_of_lt hx
  replace p := (p.alloc (.cells (vfn fun _ => 0) 25)).rowOther (hne _ p.lt) (vfn X)
  clear hne
  generalize (w1.alloc (.cells (vfn fun _ => 0) 25)).setRow w1.heap.size (vfn X) = w1x at *
  generalize w1.heap.size = a_b at *
  go_upto_region 3 with (first
    | (refine wpList_load_rowG ?hw _ _ rfl _ rfl _ _ _ _ p Try.underlying44 rfl ?hi ?_; (case hw => (first | rfl | (simp [Region.wanted, yielded]; done))); (case hi => (first | kernel_rfl | (rw [ofn_size]; kernel_rfl))))
    | (go_at_call 25; with_reducible refine (K2.out _).mono ?_; rintro e w2 ⟨rfl, hb⟩; replace hB := hB.trans (hb.mono hB.size); replace p := p.below hb p.lt; replace a := a.below hb a.lt; clear hb)
    | (rw [zero_vec]; refine wpList_store_row rfl _ _ _ rfl _ rfl _ rfl _ _ (blk.new _ _ _) (by first | kernel_rfl | (rw [vfn_size]; kernel_rfl)) (by first | rfl | simp only [vfn_size]) (by first | exact vfn_one _ | rfl) ?_))
  have b := (blk.new w2 (vfn fun _ => 0) 25).row (vfn X)
  replace hB := Below.setRow (hB.alloc hB.size (.cells (vfn fun _ => 0) 25)) (g := w2.heap.size) hB.size (vfn X)
  have hne : ∀ x, x < w2.heap.size → x ≠ w2.heap.size := fun x hx => Nat.ne_of_lt hx
  replace p := (p.alloc (.cells (vfn fun _ => 0) 25)).rowOther (hne _ p.lt) (vfn X)
  replace a := (a.alloc (.cells (vfn fun _ => 0) 25)).rowOther (hne _ a.lt) (vfn X)
  clear hne
  generalize (w2.alloc (.cells (vfn fun _ => 0) 25)).setRow w2.heap.size (vfn X) = w2x at *
  generalize w2.heap.size = b_b at *
  go_upto_region 4 with (first
    | (refine wpList_load_rowG ?hw _ _ rfl _ rfl _ _ _ _ p Try.underlying44 rfl ?hi ?_; (case hw => (first | rfl | (simp [Region.wanted, yielded]; done))); (case hi => (first | kernel_rfl | (rw [ofn_size]; kernel_rfl))))
    | (go_at_call 26; with_reducible refine (K3.out _).mono ?_; rintro e w3 ⟨rfl, hb⟩; replace hB := hB.trans (hb.mono hB.size); replace p := p.below hb p.lt; replace a := a.below hb a.lt; replace b := b.below hb b.lt; clear hb)
    | (rw [zero_vec]; refine wpList_store_row rfl _ _ _ rfl _ rfl _ rfl _ _ (blk.new _ _ _) (by first | kernel_rfl | (rw [vfn_size]; kernel_rfl)) (by first | rfl | simp only [vfn_size]) (by first | exact vfn_one _ | rfl) ?_))
  have c := (blk.new w3 (vfn fun _ => 0) 25).row (vfn Y)
  replace hB := Below.setRow (hB.alloc hB.size (.cells (vfn fun _ => 0) 25)) (g := w3.heap.size) hB.size (vfn Y)
  have hne : ∀ x, x < w3.heap.size → x ≠ w3.heap.size := fun x hx => Nat.ne_of_lt hx
  replace p := (p.alloc (.cells (vfn fun _ => 0) 25)).rowOther (hne _ p.lt) (vfn Y)
  replace a := (a.alloc (.cells (vfn fun _ => 0) 25)).rowOther (hne _ a.lt) (vfn Y)
  replace b := (b.alloc (.cells (vfn fun _ => 0) 25)).rowOther (hne _ b.lt) (vfn Y)
  clear hne
  generalize (w3.alloc (.cells (vfn fun _ => 0) 25)).setRow w3.heap.size (vfn Y) = w3x at *
  generalize w3.heap.size = c_b at *
  go_upto_region 5 with (first
    | (refine wpList_load_rowG ?hw _ _ rfl _ rfl _ _ _ _ p Try.underlying44 rfl ?hi ?_; (case hw => (first | rfl | (simp [Region.wanted, yielded]; done))); (case hi => (first | kernel_rfl | (rw [ofn_size]; kernel_rfl))))
    | (go_at_call 27; with_reducible refine (K4.out _).mono ?_; rintro e w4 ⟨rfl, hb⟩; replace hB := hB.trans (hb.mono hB.size); replace p := p.below hb p.lt; replace a := a.below hb a.lt; replace b := b.below hb b.lt; replace c := c.below hb c.lt; clear hb)
    | (rw [zero_vec]; refine wpList_store_row rfl _ _ _ rfl _ rfl _ rfl _ _ (blk.new _ _ _) (by first | kernel_rfl | (rw [vfn_size]; kernel_rfl)) (by first | rfl | simp only [vfn_size]) (by first | exact vfn_one _ | rfl) ?_))
  have d := (blk.new w4 (vfn fun _ => 0) 25).row (vfn Y)
  replace hB := Below.setRow (hB.alloc hB.size (.cells (vfn fun _ => 0) 25)) (g := w4.heap.size) hB.size (vfn Y)
  have hne : ∀ x, x < w4.heap.size → x ≠ w4.heap.size := fun x hx => Nat.ne_of_lt hx
  replace p := (p.alloc (.cells (vfn fun _ => 0) 25)).rowOther (hne _ p.lt) (vfn Y)
  replace a := (a.alloc (.cells (vfn fun _ => 0) 25)).rowOther (hne _ a.lt) (vfn Y)
  replace b := (b.alloc (.cells (vfn fun _ => 0) 25)).rowOther (hne _ b.lt) (vfn Y)
  replace c := (c.alloc (.cells (vfn fun _ => 0) 25)).rowOther (hne _ c.lt) (vfn Y)
  clear hne
  generalize (w4.alloc (.cells (vfn fun _ => 0) 25)).setRow w4.heap.size (vfn Y) = w4x at *
  generalize w4.heap.size = d_b at *
  go_upto_region 6 with (first
    | (refine wpList_load_rowG ?hw _ _ rfl _ rfl _ _ _ _ p Try.underlying44 rfl ?hi ?_; (case hw => (first | rfl | (simp [Region.wanted, yielded]; done))); (case hi => (first | kernel_rfl | (rw [ofn_size]; kernel_rfl))))
    | (go_at_call 28; with_reducible refine (K5.out _).mono ?_; rintro e w5 ⟨rfl, hb⟩; replace hB := hB.trans (hb.mono hB.size); replace p := p.below hb p.lt; replace a := a.below hb a.lt; replace b := b.below hb b.lt; replace c := c.below hb c.lt; replace d := d.below hb d.lt; clear hb))
  go_upto_region 7 with (first
    | (refine wpList_load_rowG ?hw _ _ rfl _ rfl _ _ _ _ p Try.underlying44 rfl ?hi ?_; (case hw => (first | rfl | (simp [Region.wanted, yielded]; done))); (case hi => (first | kernel_rfl | (rw [ofn_size]; kernel_rfl))))
    | (go_at_call 29; with_reducible refine (K6.out _).mono ?_; rintro e w6 ⟨rfl, hb⟩; replace hB := hB.trans (hb.mono hB.size); replace p := p.below hb p.lt; replace a := a.below hb a.lt; replace b := b.below hb b.lt; replace c := c.below hb c.lt; replace d := d.below hb d.lt; clear hb))
  refine wp_region_X 38 (by kernel_rfl) (by kernel_rfl) ?_
  replace p := p.drew
  replace a := a.drew
  replace b := b.drew
  replace c := c.drew
  replace d := d.drew
  replace hB : Below w.heap.size w w6.drew := hB.drew
  generalize w6.drew = w6d at *
  apply wpX_take 0; (case ho' => exact rfl); (case hg => exact rfl); (case hB => kernel_rfl); (case h => (intro w1 h1; exact detR_row _ _ rfl _ rfl _ _ _ (a.below h1 a.lt) Try.underlying25 rfl (by first | kernel_rfl | (rw [vfn_size]; kernel_rfl)) rfl))
  simp only [Act.put, List.setIfInBounds_toArray, List.set_cons_zero, List.set_cons_succ]
  apply wpX_take 1; (case ho' => exact rfl); (case hg => exact rfl); (case hB => kernel_rfl); (case h => (intro w1 h1; exact detR_row _ _ rfl _ rfl _ _ _ (b.below h1 b.lt) Try.underlying25 rfl (by first | kernel_rfl | (rw [vfn_size]; kernel_rfl)) rfl))
  simp only [Act.put, List.setIfInBounds_toArray, List.set_cons_zero, List.set_cons_succ]
  apply wpX_take 2; (case ho' => exact rfl); (case hg => exact rfl); (case hB => kernel_rfl); (case h => (intro w1 h1; go_simp; exact ⟨rfl, Below.refl _ _⟩))
  simp only [Act.put, List.setIfInBounds_toArray, List.set_cons_zero, List.set_cons_succ]
  apply wpX_take 3; (case ho' => exact rfl); (case hg => exact rfl); (case hB => kernel_rfl); (case h => (intro w1 h1; go_simp; exact ⟨rfl, Below.refl _ _⟩))
  simp only [Act.put, List.setIfInBounds_toArray, List.set_cons_zero, List.set_cons_succ]
  apply wpX_takeG 4; (case ho' => exact rfl); (case hw => first | rfl | simp [Region.wanted, yielded]); (case hB => kernel_rfl); (case h => (intro w1 h1; go_simp; exact ⟨rfl, Below.refl _ _⟩))
  simp only [Act.put, List.setIfInBounds_toArray, List.set_cons_zero, List.set_cons_succ]
  apply wpX_takeG 5; (case ho' => exact rfl); (case hw => first | rfl | simp [Region.wanted, yielded]); (case hB => kernel_rfl); (case h => (intro w1 h1; go_simp; exact ⟨rfl, Below.refl _ _⟩))
  simp only [Act.put, List.setIfInBounds_toArray, List.set_cons_zero, List.set_cons_succ]
  apply wpX_takeG 6; (case ho' => exact rfl); (case hw => first | rfl | simp [Region.wanted, yielded]); (case hB => kernel_rfl); (case h => (intro w1 h1; go_simp; exact ⟨rfl, Below.refl _ _⟩))
  simp only [Act.put, List.setIfInBounds_toArray, List.set_cons_zero, List.set_cons_succ]
  apply wpX_take 7; (case ho' => exact rfl); (case hg => exact rfl); (case hB => kernel_rfl); (case h => (intro w1 h1; go_simp; exact ⟨rfl, Below.refl _ _⟩))
  simp only [Act.put, List.setIfInBounds_toArray, List.set_cons_zero, List.set_cons_succ]
  apply wpX_take 8; (case ho' => exact rfl); (case hg => exact rfl); (case hB => kernel_rfl); (case h => (intro w1 h1; go_simp; exact ⟨rfl, Below.refl _ _⟩))
  simp only [Act.put, List.setIfInBounds_toArray, List.set_cons_zero, List.set_cons_succ]
  apply wpX_takeG 9; (case ho' => exact rfl); (case hw => first | rfl | simp [Region.wanted, yielded]); (case hB => kernel_rfl); (case h => (intro w1 h1; exact detR_row _ _ rfl _ rfl _ _ _ (c.below h1 c.lt) Try.underlying25 rfl (by first | kernel_rfl | (rw [vfn_size]; kernel_rfl)) rfl))
  simp only [Act.put, List.setIfInBounds_toArray, List.set_cons_zero, List.set_cons_succ]
  apply wpX_takeG 10; (case ho' => exact rfl); (case hw => first | rfl | simp [Region.wanted, yielded]); (case hB => kernel_rfl); (case h => (intro w1 h1; exact detR_row _ _ rfl _ rfl _ _ _ (d.below h1 d.lt) Try.underlying25 rfl (by first | kernel_rfl | (rw [vfn_size]; kernel_rfl)) rfl))
  simp only [Act.put, List.setIfInBounds_toArray, List.set_cons_zero, List.set_cons_succ]
  apply wpX_takeG 11; (case ho' => exact rfl); (case hw => first | rfl | simp [Region.wanted, yielded]); (case hB => kernel_rfl); (case h => (intro w1 h1; go_simp; exact ⟨rfl, Below.refl _ _⟩))
  simp only [Act.put, List.setIfInBounds_toArray, List.set_cons_zero, List.set_cons_succ]
  apply wpX_take 12; (case ho' => exact rfl); (case hg => exact rfl); (case hB => kernel_rfl); (case h => (intro w1 h1; go_simp; exact ⟨rfl, Below.refl _ _⟩))
  simp only [Act.put, List.setIfInBounds_toArray, List.set_cons_zero, List.set_cons_succ]
  apply wpX_take 13; (case ho' => exact rfl); (case hg => exact rfl); (case hB => kernel_rfl); (case h => (intro w1 h1; go_simp; exact ⟨rfl, Below.refl _ _⟩))
  simp only [Act.put, List.setIfInBounds_toArray, List.set_cons_zero, List.set_cons_succ]
  apply wpX_takeG 14; (case ho' => exact rfl); (case hw => first | rfl | simp [Region.wanted, yielded]); (case hB => kernel_rfl); (case h => (intro w1 h1; go_simp; exact ⟨rfl, Below.refl _ _⟩))
  simp only [Act.put, List.setIfInBounds_toArray, List.set_cons_zero, List.set_cons_succ]
  apply wpX_takeG 15; (case ho' => exact rfl); (case hw => first | rfl | simp [Region.wanted, yielded]); (case hB => kernel_rfl); (case h => (intro w1 h1; go_simp; exact ⟨rfl, Below.refl _ _⟩))
  simp only [Act.put, List.setIfInBounds_toArray, List.set_cons_zero, List.set_cons_succ]
  apply wpX_takeG 16; (case ho' => exact rfl); (case hw => first | rfl | simp [Region.wanted, yielded]); (case hB => kernel_rfl); (case h => (intro w1 h1; go_simp; exact ⟨rfl, Below.refl _ _⟩))
  simp only [Act.put, List.setIfInBounds_toArray, List.set_cons_zero, List.set_cons_succ]
  apply wpX_take 17; (case ho' => exact rfl); (case hg => exact rfl); (case hB => kernel_rfl); (case h => (intro w1 h1; go_simp; exact ⟨rfl, Below.refl _ _⟩))
  simp only [Act.put, List.setIfInBounds_toArray, List.set_cons_zero, List.set_cons_succ]
  apply wpX_take 18; (case ho' => exact rfl); (case hg => exact rfl); (case hB => kernel_rfl); (case h => (intro w1 h1; go_simp; exact ⟨rfl, Below.refl _ _⟩))
  simp only [Act.put, List.setIfInBounds_toArray, List.set_cons_zero, List.set_cons_succ]
  apply wpX_takeG 19; (case ho' => exact rfl); (case hw => first | rfl | simp [Region.wanted, yielded]); (case hB => kernel_rfl); (case h => (intro w1 h1; go_simp; exact ⟨rfl, Below.refl _ _⟩))
  simp only [Act.put, List.setIfInBounds_toArray, List.set_cons_zero, List.set_cons_succ]
  apply wpX_takeG 20; (case ho' => exact rfl); (case hw => first | rfl | simp [Region.wanted, yielded]); (case hB => kernel_rfl); (case h => (intro w1 h1; go_simp; exact ⟨rfl, Below.refl _ _⟩))
  simp only [Act.put, List.setIfInBounds_toArray, List.set_cons_zero, List.set_cons_succ]
  apply wpX_takeG 21; (case ho' => exact rfl); (case hw => first | rfl | simp [Region.wanted, yielded]); (case hB => kernel_rfl); (case h => (intro w1 h1; go_simp; exact ⟨rfl, Below.refl _ _⟩))
  simp only [Act.put, List.setIfInBounds_toArray, List.set_cons_zero, List.set_cons_succ]
  apply wpX_take 22; (case ho' => exact rfl); (case hg => exact rfl); (case hB => kernel_rfl); (case h => (intro w1 h1; go_simp; exact ⟨rfl, Below.refl _ _⟩))
  simp only [Act.put, List.setIfInBounds_toArray, List.set_cons_zero, List.set_cons_succ]
  apply wpX_take 23; (case ho' => exact rfl); (case hg => exact rfl); (case hB => kernel_rfl); (case h => (intro w1 h1; go_simp; exact ⟨rfl, Below.refl _ _⟩))
  simp only [Act.put, List.setIfInBounds_toArray, List.set_cons_zero, List.set_cons_succ]
  apply wpX_takeG 24; (case ho' => exact rfl); (case hw => first | rfl | simp [Region.wanted, yielded]); (case hB => kernel_rfl); (case h => (intro w1 h1; go_simp; exact ⟨rfl, Below.refl _ _⟩))
  simp only [Act.put, List.setIfInBounds_toArray, List.set_cons_zero, List.set_cons_succ]
  apply wpX_takeG 25; (case ho' => exact rfl); (case hw => first | rfl | simp [Region.wanted, yielded]); (case hB => kernel_rfl); (case h => (intro w1 h1; go_simp; exact ⟨rfl, Below.refl _ _⟩))
  simp only [Act.put, List.setIfInBounds_toArray, List.set_cons_zero, List.set_cons_succ]
  apply wpX_takeG 26; (case ho' => exact rfl); (case hw => first | rfl | simp [Region.wanted, yielded]); (case hB => kernel_rfl); (case h => (intro w1 h1; go_simp; exact ⟨rfl, Below.refl _ _⟩))
  simp only [Act.put, List.setIfInBounds_toArray, List.set_cons_zero, List.set_cons_succ]
  apply wpX_take 27; (case ho' => exact rfl); (case hg => exact rfl); (case hB => kernel_rfl); (case h => (intro w1 h1; go_simp; exact ⟨rfl, Below.refl _ _⟩))
  simp only [Act.put, List.setIfInBounds_toArray, List.set_cons_zero, List.set_cons_succ]
  apply wpX_take 28; (case ho' => exact rfl); (case hg => exact rfl); (case hB => kernel_rfl); (case h => (intro w1 h1; go_simp; exact ⟨rfl, Below.refl _ _⟩))
  simp only [Act.put, List.setIfInBounds_toArray, List.set_cons_zero, List.set_cons_succ]
  apply wpX_takeG 29; (case ho' => exact rfl); (case hw => first | rfl | simp [Region.wanted, yielded]); (case hB => kernel_rfl); (case h => (intro w1 h1; exact detR_row _ _ rfl _ rfl _ _ _ (p.below h1 p.lt) Try.underlying44 rfl (by first | kernel_rfl | (rw [ofn_size]; kernel_rfl)) rfl))
  simp only [Act.put, List.setIfInBounds_toArray, List.set_cons_zero, List.set_cons_succ]
  apply wpX_takeG 30; (case ho' => exact rfl); (case hw => first | rfl | simp [Region.wanted, yielded]); (case hB => kernel_rfl); (case h => (intro w1 h1; go_simp; refine (C1.out _).mono ?_; rintro e w2 ⟨rfl, h2⟩; exact ⟨rfl, h2⟩))
  simp only [Act.put, List.setIfInBounds_toArray, List.set_cons_zero, List.set_cons_succ]
  apply wpX_takeG 31; (case ho' => exact rfl); (case hw => first | rfl | simp [Region.wanted, yielded]); (case hB => kernel_rfl); (case h => (intro w1 h1; exact detR_row _ _ rfl _ rfl _ _ _ (p.below h1 p.lt) Try.underlying44 rfl (by first | kernel_rfl | (rw [ofn_size]; kernel_rfl)) rfl))
  simp only [Act.put, List.setIfInBounds_toArray, List.set_cons_zero, List.set_cons_succ]
  apply wpX_takeG 32; (case ho' => exact rfl); (case hw => first | rfl | simp [Region.wanted, yielded]); (case hB => kernel_rfl); (case h => (intro w1 h1; go_simp; refine (C2.out _).mono ?_; rintro e w2 ⟨rfl, h2⟩; exact ⟨rfl, h2⟩))
  simp only [Act.put, List.setIfInBounds_toArray, List.set_cons_zero, List.set_cons_succ]
  apply wpX_takeG 33; (case ho' => exact rfl); (case hw => first | rfl | simp [Region.wanted, yielded]); (case hB => kernel_rfl); (case h => (intro w1 h1; go_simp; exact ⟨rfl, Below.refl _ _⟩))
  simp only [Act.put, List.setIfInBounds_toArray, List.set_cons_zero, List.set_cons_succ]
  apply wpX_take 34; (case ho' => exact rfl); (case hg => exact rfl); (case hB => kernel_rfl); (case h => (intro w1 h1; go_simp; exact ⟨rfl, Below.refl _ _⟩))
  simp only [Act.put, List.setIfInBounds_toArray, List.set_cons_zero, List.set_cons_succ]
  apply wpX_take 35; (case ho' => exact rfl); (case hg => exact rfl); (case hB => kernel_rfl); (case h => (intro w1 h1; go_simp; exact ⟨rfl, Below.refl _ _⟩))
  simp only [Act.put, List.setIfInBounds_toArray, List.set_cons_zero, List.set_cons_succ]
  apply wpX_takeG 36; (case ho' => exact rfl); (case hw => first | rfl | simp [Region.wanted, yielded]); (case hB => kernel_rfl); (case h => (intro w1 h1; go_simp; refine (AW.out _).mono ?_; rintro e w2 ⟨rfl, h2⟩; exact ⟨rfl, h2⟩))
  simp only [Act.put, List.setIfInBounds_toArray, List.set_cons_zero, List.set_cons_succ]
  apply wpX_take 37; (case ho' => exact rfl); (case hg => exact rfl); (case hB => kernel_rfl); (case h => (intro w1 h1; go_simp; exact ⟨rfl, Below.refl _ _⟩))
  simp only [Act.put, List.setIfInBounds_toArray, List.set_cons_zero, List.set_cons_succ]
  refine wpX_tail (by kernel_rfl) (fun we148 ht => ?_)
  simp only [List.drop_succ_cons, List.drop_zero]
  replace hB := hB.trans (ht.mono hB.size)
  replace p := p.below ht p.lt
  replace a := a.below ht a.lt
  replace b := b.below ht b.lt
  replace c := c.below ht c.lt
  replace d := d.below ht d.lt
  clear ht
  go_wp2_with (fail)
  go_ret
  exact ⟨rfl, hB⟩
end Go.Proofs.Ytcgpcehdeihalaa
