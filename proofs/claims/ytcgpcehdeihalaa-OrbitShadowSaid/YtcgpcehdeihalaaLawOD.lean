/-
  OrbitShadow returns true.
-/
import Derived.Test.YtcgpcehdeihalaaOrbW
import Derived.Test.YtcgpcehdeihalaaOrbS
import Derived.Test.YtcgpcehdeihalaaVecI
set_option linter.unusedSimpArgs false
set_option linter.unusedVariables false
namespace Go.Proofs.Ytcgpcehdeihalaa
open Go.RowKit PM Dt
set_option maxRecDepth 100000 in
set_option maxHeartbeats 2000000 in
theorem oshadow_out (f : Nat → Int) (t E : Int) (D : Bool) (w : World) (h : E = 2 ∨ E = 0 ∧ D = false) (D1 : Hid (∀ w, Calls Try.prog 28 #[.agg (ofn f), .int .i64 t] w fun e w' => e = .returned (.tuple #[.bool D, .int .i64 E]) ∧ Below w.heap.size w w')) : Calls Try.prog 10 #[.agg (ofn f), .int .i64 t] w fun e w' => e = .returned (.bool true) ∧ Below w.heap.size w w' := by
  have AW := Lib.hid awake25_any
  rcases h with rfl | ⟨rfl, rfl⟩
  · skip
    go_enter Try.func10, Try.ntmps10
    go_upto_region 1 with (fail)
    have p : blk (w.alloc (.cells (ofn f) 44)) w.heap.size (ofn f) 44 := blk.new _ _ _
    have hB : Below w.heap.size w (w.alloc (.cells (ofn f) 44)) := by go_grown
    generalize (w.alloc (.cells (ofn f) 44)) = w0 at *
    go_wp2_with (first
      | (refine wpList_load_rowG ?hw _ _ rfl _ rfl _ _ _ _ p Try.underlying44 rfl ?hi ?_; (case hw => (first | rfl | (simp [Region.wanted, yielded]; done))); (case hi => (first | kernel_rfl | (rw [ofn_size]; kernel_rfl))))
      | (go_at_call 28; with_reducible refine (D1.out _).mono ?_; rintro e w1 ⟨rfl, hb⟩; replace hB := hB.trans (hb.mono hB.size); replace p := p.below hb p.lt; clear hb)
      | (go_at_call 32; refine (AW.out _).mono ?_; rintro e wx ⟨rfl, hb⟩; replace hB := hB.trans (hb.mono hB.size); clear hb))
    go_ret
    exact ⟨rfl, hB⟩
  · skip
    go_enter Try.func10, Try.ntmps10
    go_upto_region 1 with (fail)
    have p : blk (w.alloc (.cells (ofn f) 44)) w.heap.size (ofn f) 44 := blk.new _ _ _
    have hB : Below w.heap.size w (w.alloc (.cells (ofn f) 44)) := by go_grown
    generalize (w.alloc (.cells (ofn f) 44)) = w0 at *
    go_wp2_with (first
      | (refine wpList_load_rowG ?hw _ _ rfl _ rfl _ _ _ _ p Try.underlying44 rfl ?hi ?_; (case hw => (first | rfl | (simp [Region.wanted, yielded]; done))); (case hi => (first | kernel_rfl | (rw [ofn_size]; kernel_rfl))))
      | (go_at_call 28; with_reducible refine (D1.out _).mono ?_; rintro e w1 ⟨rfl, hb⟩; replace hB := hB.trans (hb.mono hB.size); replace p := p.below hb p.lt; clear hb)
      | (go_at_call 32; refine (AW.out _).mono ?_; rintro e wx ⟨rfl, hb⟩; replace hB := hB.trans (hb.mono hB.size); clear hb))
    go_ret
    exact ⟨rfl, hB⟩
set_option maxRecDepth 100000 in
set_option maxHeartbeats 4000000 in
theorem oshadow_in (f X Y A B : Nat → Int) (t c n : Int) (w : World) (hc : c < 0) (hn : 0 ≤ n ∧ n ≤ f 7 + 7) (hR : f 7 < 1073741824) (D1 : Hid (∀ w, Calls Try.prog 28 #[.agg (ofn f), .int .i64 t] w fun e w' => e = .returned (.tuple #[.bool true, .int .i64 0]) ∧ Below w.heap.size w w')) (P1 : Hid (∀ w, Calls Try.prog 24 #[.agg (ofn f), .int .i64 t] w fun e w' => e = .returned (.tuple #[.agg (vfn X), .int .i64 0]) ∧ Below w.heap.size w w')) (S1 : Hid (∀ w, Calls Try.prog 26 #[.agg (ofn f), .int .i64 t] w fun e w' => e = .returned (.tuple #[.agg (vfn Y), .int .i64 0]) ∧ Below w.heap.size w w')) (O1 : Hid (∀ w, Calls Try.prog 38 #[.agg (vfn X), .agg (vfn Y)] w fun e w' => e = .returned (.tuple #[.int .i64 c, .int .i64 0]) ∧ Below w.heap.size w w')) (C1 : Hid (∀ w, Calls Try.prog 39 #[.agg (vfn Y), .int .i64 c] w fun e w' => e = .returned (.tuple #[.agg (vfn A), .int .i64 0]) ∧ Below w.heap.size w w')) (B1 : Hid (∀ w, Calls Try.prog 40 #[.agg (vfn X), .agg (vfn A)] w fun e w' => e = .returned (.tuple #[.agg (vfn B), .int .i64 0]) ∧ Below w.heap.size w w')) (N1 : Hid (∀ w, Calls Try.prog 20 #[.agg (vfn B)] w fun e w' => e = .returned (.tuple #[.int .i64 n, .int .i64 0]) ∧ Below w.heap.size w w')) : Calls Try.prog 10 #[.agg (ofn f), .int .i64 t] w fun e w' => e = .returned (.bool true) ∧ Below w.heap.size w w' := by
  have AW := Lib.hid awake25_any
  have d1 : decide (c < 0) = true := decide_eq_true hc
  have w0_ : IntKind.i64.wrap (n - 8) = n - 8 := by rw [IntKind.wrap_i64]; omega
  have d2 : decide (n - 8 ≤ f 7) = true := decide_eq_true (by omega)
  clear hc hn hR
  go_enter Try.func10, Try.ntmps10
  go_upto_region 1 with (fail)
  have p : blk (w.alloc (.cells (ofn f) 44)) w.heap.size (ofn f) 44 := blk.new _ _ _
  have hB : Below w.heap.size w (w.alloc (.cells (ofn f) 44)) := by go_grown
  generalize (w.alloc (.cells (ofn f) 44)) = w0 at *
  go_upto_region 4 with (first
    | (refine wpList_load_rowG ?hw _ _ rfl _ rfl _ _ _ _ p Try.underlying44 rfl ?hi ?_; (case hw => (first | rfl | (simp [Region.wanted, yielded]; done))); (case hi => (first | kernel_rfl | (rw [ofn_size]; kernel_rfl))))
    | (go_at_call 28; with_reducible refine (D1.out _).mono ?_; rintro e w1 ⟨rfl, hb⟩; replace hB := hB.trans (hb.mono hB.size); replace p := p.below hb p.lt; clear hb))
  go_upto_region 5 with (first
    | (refine wpList_load_rowG ?hw _ _ rfl _ rfl _ _ _ _ p Try.underlying44 rfl ?hi ?_; (case hw => (first | rfl | (simp [Region.wanted, yielded]; done))); (case hi => (first | kernel_rfl | (rw [ofn_size]; kernel_rfl))))
    | (go_at_call 24; with_reducible refine (P1.out _).mono ?_; rintro e w2 ⟨rfl, hb⟩; replace hB := hB.trans (hb.mono hB.size); replace p := p.below hb p.lt; clear hb)
    | (rw [zero_vec]; refine wpList_store_row rfl _ _ _ rfl _ rfl _ rfl _ _ (blk.new _ _ _) (by first | kernel_rfl | (rw [vfn_size]; kernel_rfl)) (by first | rfl | simp only [vfn_size]) (by first | exact vfn_one _ | rfl) ?_))
  have a := (blk.new w2 (vfn fun _ => 0) 25).row (vfn X)
  replace hB := Below.setRow (hB.alloc hB.size (.cells (vfn fun _ => 0) 25)) (g := w2.heap.size) hB.size (vfn X)
  have hne : ∀ x, x < w2.heap.size → x ≠ w2.heap.size := fun x hx => Nat.ne_of_lt hx
  replace p := (p.alloc (.cells (vfn fun _ => 0) 25)).rowOther (hne _ p.lt) (vfn X)
  clear hne
  generalize (w2.alloc (.cells (vfn fun _ => 0) 25)).setRow w2.heap.size (vfn X) = w2x at *
  generalize w2.heap.size = a_b at *
  go_upto_region 6 with (first
    | (refine wpList_load_rowG ?hw _ _ rfl _ rfl _ _ _ _ p Try.underlying44 rfl ?hi ?_; (case hw => (first | rfl | (simp [Region.wanted, yielded]; done))); (case hi => (first | kernel_rfl | (rw [ofn_size]; kernel_rfl))))
    | (go_at_call 26; with_reducible refine (S1.out _).mono ?_; rintro e w3 ⟨rfl, hb⟩; replace hB := hB.trans (hb.mono hB.size); replace p := p.below hb p.lt; replace a := a.below hb a.lt; clear hb)
    | (rw [zero_vec]; refine wpList_store_row rfl _ _ _ rfl _ rfl _ rfl _ _ (blk.new _ _ _) (by first | kernel_rfl | (rw [vfn_size]; kernel_rfl)) (by first | rfl | simp only [vfn_size]) (by first | exact vfn_one _ | rfl) ?_))
  have b := (blk.new w3 (vfn fun _ => 0) 25).row (vfn Y)
  replace hB := Below.setRow (hB.alloc hB.size (.cells (vfn fun _ => 0) 25)) (g := w3.heap.size) hB.size (vfn Y)
  have hne : ∀ x, x < w3.heap.size → x ≠ w3.heap.size := fun x hx => Nat.ne_of_lt hx
  replace p := (p.alloc (.cells (vfn fun _ => 0) 25)).rowOther (hne _ p.lt) (vfn Y)
  replace a := (a.alloc (.cells (vfn fun _ => 0) 25)).rowOther (hne _ a.lt) (vfn Y)
  clear hne
  generalize (w3.alloc (.cells (vfn fun _ => 0) 25)).setRow w3.heap.size (vfn Y) = w3x at *
  generalize w3.heap.size = b_b at *
  go_upto_region 7 with (first
    | (refine wpList_load_rowG ?hw _ _ rfl _ rfl _ _ _ _ a Try.underlying25 rfl ?hi ?_; (case hw => (first | rfl | (simp [Region.wanted, yielded]; done))); (case hi => (first | kernel_rfl | (rw [vfn_size]; kernel_rfl))))
    | (refine wpList_load_rowG ?hw _ _ rfl _ rfl _ _ _ _ b Try.underlying25 rfl ?hi ?_; (case hw => (first | rfl | (simp [Region.wanted, yielded]; done))); (case hi => (first | kernel_rfl | (rw [vfn_size]; kernel_rfl))))
    | (go_at_call 38; with_reducible refine (O1.out _).mono ?_; rintro e w4 ⟨rfl, hb⟩; replace hB := hB.trans (hb.mono hB.size); replace p := p.below hb p.lt; replace a := a.below hb a.lt; replace b := b.below hb b.lt; clear hb))
  go_upto_region 8 with (first
    | (refine wpList_load_rowG ?hw _ _ rfl _ rfl _ _ _ _ b Try.underlying25 rfl ?hi ?_; (case hw => (first | rfl | (simp [Region.wanted, yielded]; done))); (case hi => (first | kernel_rfl | (rw [vfn_size]; kernel_rfl))))
    | (go_at_call 39; with_reducible refine (C1.out _).mono ?_; rintro e w5 ⟨rfl, hb⟩; replace hB := hB.trans (hb.mono hB.size); replace p := p.below hb p.lt; replace a := a.below hb a.lt; replace b := b.below hb b.lt; clear hb)
    | (rw [zero_vec]; refine wpList_store_row rfl _ _ _ rfl _ rfl _ rfl _ _ (blk.new _ _ _) (by first | kernel_rfl | (rw [vfn_size]; kernel_rfl)) (by first | rfl | simp only [vfn_size]) (by first | exact vfn_one _ | rfl) ?_))
  have c_ := (blk.new w5 (vfn fun _ => 0) 25).row (vfn A)
  replace hB := Below.setRow (hB.alloc hB.size (.cells (vfn fun _ => 0) 25)) (g := w5.heap.size) hB.size (vfn A)
  have hne : ∀ x, x < w5.heap.size → x ≠ w5.heap.size := fun x hx => Nat.ne_of_lt hx
  replace p := (p.alloc (.cells (vfn fun _ => 0) 25)).rowOther (hne _ p.lt) (vfn A)
  replace a := (a.alloc (.cells (vfn fun _ => 0) 25)).rowOther (hne _ a.lt) (vfn A)
  replace b := (b.alloc (.cells (vfn fun _ => 0) 25)).rowOther (hne _ b.lt) (vfn A)
  clear hne
  generalize (w5.alloc (.cells (vfn fun _ => 0) 25)).setRow w5.heap.size (vfn A) = w5x at *
  generalize w5.heap.size = c__b at *
  go_upto_region 9 with (first
    | (refine wpList_load_rowG ?hw _ _ rfl _ rfl _ _ _ _ a Try.underlying25 rfl ?hi ?_; (case hw => (first | rfl | (simp [Region.wanted, yielded]; done))); (case hi => (first | kernel_rfl | (rw [vfn_size]; kernel_rfl))))
    | (refine wpList_load_rowG ?hw _ _ rfl _ rfl _ _ _ _ c_ Try.underlying25 rfl ?hi ?_; (case hw => (first | rfl | (simp [Region.wanted, yielded]; done))); (case hi => (first | kernel_rfl | (rw [vfn_size]; kernel_rfl))))
    | (go_at_call 40; with_reducible refine (B1.out _).mono ?_; rintro e w6 ⟨rfl, hb⟩; replace hB := hB.trans (hb.mono hB.size); replace p := p.below hb p.lt; replace a := a.below hb a.lt; replace b := b.below hb b.lt; replace c_ := c_.below hb c_.lt; clear hb)
    | (rw [zero_vec]; refine wpList_store_row rfl _ _ _ rfl _ rfl _ rfl _ _ (blk.new _ _ _) (by first | kernel_rfl | (rw [vfn_size]; kernel_rfl)) (by first | rfl | simp only [vfn_size]) (by first | exact vfn_one _ | rfl) ?_))
  have d := (blk.new w6 (vfn fun _ => 0) 25).row (vfn B)
  replace hB := Below.setRow (hB.alloc hB.size (.cells (vfn fun _ => 0) 25)) (g := w6.heap.size) hB.size (vfn B)
  have hne : ∀ x, x < w6.heap.size → x ≠ w6.heap.size := fun x hx => Nat.ne_of_lt hx
  replace p := (p.alloc (.cells (vfn fun _ => 0) 25)).rowOther (hne _ p.lt) (vfn B)
  replace a := (a.alloc (.cells (vfn fun _ => 0) 25)).rowOther (hne _ a.lt) (vfn B)
  replace b := (b.alloc (.cells (vfn fun _ => 0) 25)).rowOther (hne _ b.lt) (vfn B)
  replace c_ := (c_.alloc (.cells (vfn fun _ => 0) 25)).rowOther (hne _ c_.lt) (vfn B)
  clear hne
  generalize (w6.alloc (.cells (vfn fun _ => 0) 25)).setRow w6.heap.size (vfn B) = w6x at *
  generalize w6.heap.size = d_b at *
  go_upto_region 10 with (first
    | (refine wpList_load_rowG ?hw _ _ rfl _ rfl _ _ _ _ d Try.underlying25 rfl ?hi ?_; (case hw => (first | rfl | (simp [Region.wanted, yielded]; done))); (case hi => (first | kernel_rfl | (rw [vfn_size]; kernel_rfl))))
    | (go_at_call 20; with_reducible refine (N1.out _).mono ?_; rintro e w7 ⟨rfl, hb⟩; replace hB := hB.trans (hb.mono hB.size); replace p := p.below hb p.lt; replace a := a.below hb a.lt; replace b := b.below hb b.lt; replace c_ := c_.below hb c_.lt; replace d := d.below hb d.lt; clear hb))
  have c7 : w7.cell? ⟨w.heap.size, 7, none⟩ = some (.int .i64 (f 7)) := p.cellIs (rfl)
  go_wp2_with (first
    | (go_at_call 32; refine (AW.out _).mono ?_; rintro e wx ⟨rfl, hb⟩; replace hB := hB.trans (hb.mono hB.size); clear hb))
  go_ret
  exact ⟨rfl, hB⟩
theorem oshadow_any (f : Nat → Int) (t : Int) (w : World) (hf : OO f) : Calls Try.prog 10 #[.agg (ofn f), .int .i64 t] w fun e w' => e = .returned (.bool true) ∧ Below w.heap.size w w' := by
  have D1 := fun w => dark_any f t w hf
  cases ho : (okO f && okT t) with
  | false =>
    have e1 : placeE f t = 2 := place_not ho
    rw [e1] at D1
    exact oshadow_out f t 2 _ w (.inl rfl) D1
  | true =>
    have e1 : placeE f t = 0 := place_yes ho
    rw [e1] at D1
    cases hd : darkB f t with
    | false => rw [hd] at D1; exact oshadow_out f t 0 false w (.inr ⟨rfl, rfl⟩) D1
    | true =>
      rw [hd] at D1
      have hd0 : dark0 (vdotV (placeF f t) (sunF f t)) (f 7) = true := by
        unfold darkB at hd; rw [ho] at hd; exact hd
      have v1 : placeF f t = vunF (plX3 f t) := if_pos ho
      have v2 : sunF f t = vunF (suX3 f t) := if_pos ho
      obtain ⟨k1, z1⟩ := plX3_ok t hf
      obtain ⟨k2, z2⟩ := suX3_ok f t
      obtain ⟨_, u1, _, _, u2⟩ := vun_core k1 z1
      obtain ⟨_, u3, _, _, u4⟩ := vun_core k2 z2
      rw [← v1] at u1 u2
      rw [← v2] at u3 u4
      have hR := ((okO_iff f).1 (by cases h : okO f with | true => rfl | false => rw [h] at ho; cases ho)).2
      obtain ⟨a1, a2, a3, a4, a5, a6, a7, a8⟩ := shadow_all ((okV_iff _).2 u1) ((okV_iff _).2 u3) u2 u4 hR hd0
      have P1 := fun w => place_any f t w hf
      have S1 := fun w => sun_any f t w hf
      have O1 := fun w => vdot_any (placeF f t) (sunF f t) w
      have C1 := fun w => vscale_any (sunF f t) (vdotV (placeF f t) (sunF f t)) w a2
      have B1 := fun w => vsub_any (placeF f t) (vscaleF (sunF f t) (vdotV (placeF f t) (sunF f t))) w
      have N1 := fun w => vnorm_any (vsubF (placeF f t) (vscaleF (sunF f t) (vdotV (placeF f t) (sunF f t)))) w
      rw [e1] at P1 S1
      rw [a1] at O1
      rw [a3] at C1
      rw [a4] at B1
      rw [a5] at N1
      exact oshadow_in f _ _ _ _ t _ _ w a6 ⟨a7, a8⟩ hR.2 D1 P1 S1 O1 C1 B1 N1
end Go.Proofs.Ytcgpcehdeihalaa
