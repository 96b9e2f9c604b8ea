/-
  MagnetDoubles returns true: the walk.
-/
import Derived.Test.YthkklhfnmodpnaaLawMA
import Derived.Test.YthkklhfnmodpnaaDblM
set_option linter.unusedSimpArgs false
set_option linter.unusedVariables false
namespace Go.Proofs.Ythkklhfnmodpnaa
open Go.RowKit PM Dt
set_option maxRecDepth 100000 in
set_option maxHeartbeats 4000000 in
theorem doubles_any (f g : Nat → Int) (w : World) (hI : ∀ i, i < 3 → I64 (g i)) : Calls Try.prog 9 #[.agg (vfn f), .agg (vfn g)] w fun e w' => e = .returned (.bool true) ∧ Below w.heap.size w w' := by
  have A1 := Lib.hid (fun w => at_any f g w hI)
  obtain ⟨bk, hk⟩ : ∃ b, atOk f g = b := ⟨_, rfl⟩
  cases bk
  · have e1 : atF f g = fun _ => 0 := by unfold atF; rw [hk]; rfl
    have e2 : atE f g = 2 := by unfold atE; rw [hk]; rfl
    rw [e1, e2] at A1
    clear e1 e2 hk hI
    have hq0 : ∀ w, (Op.equalIn 10000 23 (.agg (vfn fun _ => 0)) (.agg #[.int .i64 0, .int .i64 0, .int .i64 0])).run Try.prog w = .ok true w := fun w => by rw [zero_vec]; exact vec_eq_self _ w
    go_enter Try.func9, Try.ntmps9
    go_upto_region 1 with (fail)
    have p : blk ((w.alloc (.cells (vfn f) 23)).alloc (.cells (vfn g) 23)) w.heap.size (vfn f) 23 := (blk.new _ _ _).alloc _
    have q : blk ((w.alloc (.cells (vfn f) 23)).alloc (.cells (vfn g) 23)) (w.heap.size + 1) (vfn g) 23 := blk.new' (by simp)
    have hB : Below w.heap.size w ((w.alloc (.cells (vfn f) 23)).alloc (.cells (vfn g) 23)) := by go_grown
    generalize (w.alloc (.cells (vfn f) 23)).alloc (.cells (vfn g) 23) = w0 at *
    go_upto_region 2 with (first
      | (refine wpList_load_rowG ?hw _ _ rfl _ rfl _ _ _ _ p Try.underlying23 rfl ?hi ?_; (case hw => (first | rfl | (simp [Region.wanted, yielded]; done))); (case hi => (rw [vfn_size]; kernel_rfl)))
      | (refine wpList_load_rowG ?hw _ _ rfl _ rfl _ _ _ _ q Try.underlying23 rfl ?hi ?_; (case hw => (first | rfl | (simp [Region.wanted, yielded]; done))); (case hi => (rw [vfn_size]; kernel_rfl)))
      | (go_at_call 42; with_reducible refine (A1.out _).mono ?_; rintro e w1 ⟨rfl, hb⟩; replace hB := hB.trans (hb.mono hB.size); replace p := p.below hb p.lt; replace q := q.below hb q.lt; clear hb)
      | (rw [zero_vec]; refine wpList_store_row rfl _ _ _ rfl _ rfl _ rfl _ _ (blk.new _ _ _) (by rw [vfn_size]; kernel_rfl) (by simp only [vfn_size]) (vfn_one _) ?_))
    have r1 := (blk.new w1 (vfn fun _ => 0) 23).row (vfn (fun _ => 0))
    replace hB := Below.setRow (hB.alloc hB.size (.cells (vfn fun _ => 0) 23)) (g := w1.heap.size) hB.size (vfn (fun _ => 0))
    have hne : ∀ x, x < w1.heap.size → x ≠ w1.heap.size := fun x hx => Nat.ne_of_lt hx
    replace p := (p.alloc (.cells (vfn fun _ => 0) 23)).rowOther (hne _ p.lt) (vfn (fun _ => 0))
    replace q := (q.alloc (.cells (vfn fun _ => 0) 23)).rowOther (hne _ q.lt) (vfn (fun _ => 0))
    clear hne
    generalize (w1.alloc (.cells (vfn fun _ => 0) 23)).setRow w1.heap.size (vfn (fun _ => 0)) = w1x at *
    generalize w1.heap.size = r1_b at *
    go_wp2_with (first | (refine wpList_load_rowG ?hw _ _ rfl _ rfl _ _ _ _ r1 Try.underlying23 rfl ?hi ?_; (case hw => (first | rfl | (simp [Region.wanted, yielded]; done))); (case hi => (rw [vfn_size]; kernel_rfl))) | (go_at_call 39; refine (awakeM_any _).mono ?_; rintro e wx ⟨rfl, hb⟩; replace hB := hB.trans (hb.mono hB.size); clear hb))
    go_ret
    exact ⟨rfl, hB⟩
  · obtain ⟨ok2, vf, vg, vX, vp, vq, bp, bq, sp, cs⟩ := doubles f g hk
    have e1 : atF f g = atX f g := by unfold atF; rw [hk]; rfl
    have e2 : atE f g = 0 := by unfold atE; rw [hk]; rfl
    rw [e1, e2] at A1
    have bg : ∀ i, i < 3 → -1073741824 ≤ g i ∧ g i ≤ 1073741824 := comp_bd (norm_up vg ((atOk_iff f g).1 hk).2.2.2.2)
    have A2 := Lib.hid (fun w => at_any f (fun i => -g i) w (fun i hi => ⟨by have := (bg i hi).2; show _ ≤ -g i; omega, by have := (bg i hi).1; show -g i ≤ _; omega⟩))
    rw [show atF f (fun i => -g i) = atX f (fun i => -g i) by unfold atF; rw [ok2]; rfl, show atE f (fun i => -g i) = 0 by unfold atE; rw [ok2]; rfl, show vfn (fun i => -g i) = #[.int .i64 (-g 0), .int .i64 (-g 1), .int .i64 (-g 2)] by unfold vfn; rfl] at A2
    have D1 := Lib.hid (fun w => vdot_any (atX f g) f w)
    have D2 := Lib.hid (fun w => vdot_any g f w)
    rw [show vdotE (atX f g) f = 0 by unfold vdotE; rw [vX, vf]; rfl] at D1
    rw [show vdotE g f = 0 by unfold vdotE; rw [vg, vf]; rfl] at D2
    have W0 := Lib.hid (fun w => lwithin_any (vdotV (atX f g) f - 2 * vdotV g f) 16 w (by omega) (by omega))
    rw [sp] at W0
    have W1 : ∀ i, i < 3 → Hid (∀ w, Calls Try.prog 45 #[.int .i64 (atX f g i + atX f (fun i => -g i) i), .int .i64 4] w fun e w' => e = .returned (.bool true) ∧ w = w') := fun i hi w => by
      have := lwithin_any (atX f g i + atX f (fun i => -g i) i) 4 w (by omega) (by omega)
      rw [(cs i hi).1] at this
      exact this
    have W2 : ∀ i, i < 3 → Hid (∀ w, Calls Try.prog 45 #[.int .i64 (atX f g i), .int .i64 2147483664] w fun e w' => e = .returned (.bool true) ∧ w = w') := fun i hi w => by
      have := lwithin_any (atX f g i) 2147483664 w (by omega) (by omega)
      rw [(cs i hi).2.1] at this
      exact this
    have ws : ∀ i, i < 3 → IntKind.i64.wrap (atX f g i + atX f (fun i => -g i) i) = atX f g i + atX f (fun i => -g i) i := fun i hi => by
      have a := (sb_iff _ _).1 (cs i hi).1
      rw [IntKind.wrap_i64]; omega
    have n0 : wrap64 (-g 0) = -g 0 := by have := bg 0 (by omega); unfold wrap64; omega
    have n1 : wrap64 (-g 1) = -g 1 := by have := bg 1 (by omega); unfold wrap64; omega
    have n2 : wrap64 (-g 2) = -g 2 := by have := bg 2 (by omega); unfold wrap64; omega
    have s0 := ws 0 (by omega)
    have s1 := ws 1 (by omega)
    have s2 := ws 2 (by omega)
    have X0 := W1 0 (by omega)
    have X1 := W1 1 (by omega)
    have X2 := W1 2 (by omega)
    have Y0 := W2 0 (by omega)
    have Y1 := W2 1 (by omega)
    have Y2 := W2 2 (by omega)
    have m1 : IntKind.i64.wrap (2 * vdotV g f) = 2 * vdotV g f := by rw [IntKind.wrap_i64]; omega
    have m2 : IntKind.i64.wrap (vdotV (atX f g) f - 2 * vdotV g f) = vdotV (atX f g) f - 2 * vdotV g f := by rw [IntKind.wrap_i64]; omega
    clear e1 e2 hk ok2 vf vg vX vp vq bp bq sp cs bg W1 W2 ws hI
    generalize vdotV (atX f g) f = pv at *
    generalize vdotV g f = qv at *
    generalize atX f (fun i => -g i) = c at *
    generalize atX f g = b at *
    go_enter Try.func9, Try.ntmps9
    go_upto_region 1 with (fail)
    have p : blk ((w.alloc (.cells (vfn f) 23)).alloc (.cells (vfn g) 23)) w.heap.size (vfn f) 23 := (blk.new _ _ _).alloc _
    have q : blk ((w.alloc (.cells (vfn f) 23)).alloc (.cells (vfn g) 23)) (w.heap.size + 1) (vfn g) 23 := blk.new' (by simp)
    have hB : Below w.heap.size w ((w.alloc (.cells (vfn f) 23)).alloc (.cells (vfn g) 23)) := by go_grown
    generalize (w.alloc (.cells (vfn f) 23)).alloc (.cells (vfn g) 23) = w0 at *
    go_upto_region 2 with (first
      | (refine wpList_load_rowG ?hw _ _ rfl _ rfl _ _ _ _ p Try.underlying23 rfl ?hi ?_; (case hw => (first | rfl | (simp [Region.wanted, yielded]; done))); (case hi => (rw [vfn_size]; kernel_rfl)))
      | (refine wpList_load_rowG ?hw _ _ rfl _ rfl _ _ _ _ q Try.underlying23 rfl ?hi ?_; (case hw => (first | rfl | (simp [Region.wanted, yielded]; done))); (case hi => (rw [vfn_size]; kernel_rfl)))
      | (go_at_call 42; with_reducible refine (A1.out _).mono ?_; rintro e w1 ⟨rfl, hb⟩; replace hB := hB.trans (hb.mono hB.size); replace p := p.below hb p.lt; replace q := q.below hb q.lt; clear hb)
      | (rw [zero_vec]; refine wpList_store_row rfl _ _ _ rfl _ rfl _ rfl _ _ (blk.new _ _ _) (by rw [vfn_size]; kernel_rfl) (by simp only [vfn_size]) (vfn_one _) ?_))
    have r1 := (blk.new w1 (vfn fun _ => 0) 23).row (vfn b)
    replace hB := Below.setRow (hB.alloc hB.size (.cells (vfn fun _ => 0) 23)) (g := w1.heap.size) hB.size (vfn b)
    have hne : ∀ x, x < w1.heap.size → x ≠ w1.heap.size := fun x hx => Nat.ne_of_lt hx
    replace p := (p.alloc (.cells (vfn fun _ => 0) 23)).rowOther (hne _ p.lt) (vfn b)
    replace q := (q.alloc (.cells (vfn fun _ => 0) 23)).rowOther (hne _ q.lt) (vfn b)
    clear hne
    generalize (w1.alloc (.cells (vfn fun _ => 0) 23)).setRow w1.heap.size (vfn b) = w1x at *
    generalize w1.heap.size = r1_b at *
    have a0 : w1x.cell? ⟨w.heap.size + 1, 0, none⟩ = some (.int .i64 (g 0)) := q.cellIs (vfn_get _ (by omega))
    have a1 : w1x.cell? ⟨w.heap.size + 1, 1, none⟩ = some (.int .i64 (g 1)) := q.cellIs (vfn_get _ (by omega))
    have a2 : w1x.cell? ⟨w.heap.size + 1, 2, none⟩ = some (.int .i64 (g 2)) := q.cellIs (vfn_get _ (by omega))
    go_upto_region 5 with (first
      | (refine wpList_load_rowG ?hw _ _ rfl _ rfl _ _ _ _ p Try.underlying23 rfl ?hi ?_; (case hw => (first | rfl | (simp [Region.wanted, yielded]; done))); (case hi => (rw [vfn_size]; kernel_rfl)))
      | (go_at_call 42; with_reducible refine (A2.out _).mono ?_; rintro e w2 ⟨rfl, hb⟩; replace hB := hB.trans (hb.mono hB.size); replace p := p.below hb p.lt; replace q := q.below hb q.lt; replace r1 := r1.below hb r1.lt; clear hb)
      | (rw [zero_vec]; refine wpList_store_row rfl _ _ _ rfl _ rfl _ rfl _ _ (blk.new _ _ _) (by rw [vfn_size]; kernel_rfl) (by simp only [vfn_size]) (vfn_one _) ?_))
    have r2 := (blk.new w2 (vfn fun _ => 0) 23).row (vfn c)
    replace hB := Below.setRow (hB.alloc hB.size (.cells (vfn fun _ => 0) 23)) (g := w2.heap.size) hB.size (vfn c)
    have hne : ∀ x, x < w2.heap.size → x ≠ w2.heap.size := fun x hx => Nat.ne_of_lt hx
    replace p := (p.alloc (.cells (vfn fun _ => 0) 23)).rowOther (hne _ p.lt) (vfn c)
    replace q := (q.alloc (.cells (vfn fun _ => 0) 23)).rowOther (hne _ q.lt) (vfn c)
    replace r1 := (r1.alloc (.cells (vfn fun _ => 0) 23)).rowOther (hne _ r1.lt) (vfn c)
    clear hne
    generalize (w2.alloc (.cells (vfn fun _ => 0) 23)).setRow w2.heap.size (vfn c) = w2x at *
    generalize w2.heap.size = r2_b at *
    clear a0 a1 a2 n0 n1 n2
    go_upto_region 9 with (first | (refine wpList_load_rowG ?hw _ _ rfl _ rfl _ _ _ _ r1 Try.underlying23 rfl ?hi ?_; (case hw => (first | rfl | (simp [Region.wanted, yielded]; done))); (case hi => (rw [vfn_size]; kernel_rfl))) | (refine wpList_load_rowG ?hw _ _ rfl _ rfl _ _ _ _ p Try.underlying23 rfl ?hi ?_; (case hw => (first | rfl | (simp [Region.wanted, yielded]; done))); (case hi => (rw [vfn_size]; kernel_rfl))) | (refine wpList_load_rowG ?hw _ _ rfl _ rfl _ _ _ _ q Try.underlying23 rfl ?hi ?_; (case hw => (first | rfl | (simp [Region.wanted, yielded]; done))); (case hi => (rw [vfn_size]; kernel_rfl))) | (go_at_call 44; with_reducible refine (D1.out _).mono ?_; rintro e w3 ⟨rfl, hb⟩; replace hB := hB.trans (hb.mono hB.size); replace p := p.below hb p.lt; replace q := q.below hb q.lt; replace r1 := r1.below hb r1.lt; replace r2 := r2.below hb r2.lt; clear hb) | (go_at_call 44; with_reducible refine (D2.out _).mono ?_; rintro e w3 ⟨rfl, hb⟩; replace hB := hB.trans (hb.mono hB.size); replace p := p.below hb p.lt; replace q := q.below hb q.lt; replace r1 := r1.below hb r1.lt; replace r2 := r2.below hb r2.lt; clear hb) | (go_at_call 45; with_reducible refine (W0.out _).mono ?_; rintro e wq ⟨rfl, rfl⟩))
    go_wp2_with (fail)
    clear p q m1 m2
    go_loopg [13] 3 (fun g_ iv wr => ∃ k : Nat, g_ + k = 3 ∧ iv = .int .i64 k ∧ blk wr r1_b (vfn b) 23 ∧ blk wr r2_b (vfn c) 23 ∧ Below w.heap.size w wr)
    case atStart => exact ⟨0, rfl, rfl, r1, r2, hB⟩
    case round =>
      clear r1 r2 hB
      obtain ⟨k, hk, rfl, r1, r2, hB⟩ := hrel
      have hcase : k = 0 ∨ k = 1 ∨ k = 2 ∨ k = 3 := by omega
      rcases hcase with rfl | rfl | rfl | rfl
      · go_upto_region 12 with (fail)
        refine wp_region_X 15 (by kernel_rfl) (by kernel_rfl) ?_
        replace r1 := r1.drew
        replace r2 := r2.drew
        replace hB : Below w.heap.size w wr.drew := hB.drew
        generalize wr.drew = wo at *
        refine wpX_takeG 0 (.int .i64 0) rfl (by first | rfl | simp [Region.wanted, yielded]) (by kernel_rfl) (fun w1 h1 => by go_simp; exact ⟨rfl, Below.refl _ _⟩) ?_
        simp only [Act.put, List.setIfInBounds_toArray, List.set_cons_zero, List.set_cons_succ]
        refine wpX_takeG 1 (.pointer (some ⟨r1_b, 0, none⟩)) rfl (by first | rfl | simp [Region.wanted, yielded]) (by kernel_rfl) (fun w1 h1 => by go_simp; exact ⟨rfl, Below.refl _ _⟩) ?_
        simp only [Act.put, List.setIfInBounds_toArray, List.set_cons_zero, List.set_cons_succ]
        refine wpX_takeG 2 (.int .i64 (b 0)) rfl (by first | rfl | simp [Region.wanted, yielded]) (by kernel_rfl) (fun w1 h1 => by have hc : w1.cell? ⟨r1_b, 0, none⟩ = some (.int .i64 (b 0)) := (r1.below h1 r1.lt).cellIs (vfn_get _ (by omega)); go_simp; exact ⟨rfl, Below.refl _ _⟩) ?_
        simp only [Act.put, List.setIfInBounds_toArray, List.set_cons_zero, List.set_cons_succ]
        refine wpX_takeG 3 (.int .i64 0) rfl (by first | rfl | simp [Region.wanted, yielded]) (by kernel_rfl) (fun w1 h1 => by go_simp; exact ⟨rfl, Below.refl _ _⟩) ?_
        simp only [Act.put, List.setIfInBounds_toArray, List.set_cons_zero, List.set_cons_succ]
        refine wpX_takeG 4 (.pointer (some ⟨r2_b, 0, none⟩)) rfl (by first | rfl | simp [Region.wanted, yielded]) (by kernel_rfl) (fun w1 h1 => by go_simp; exact ⟨rfl, Below.refl _ _⟩) ?_
        simp only [Act.put, List.setIfInBounds_toArray, List.set_cons_zero, List.set_cons_succ]
        refine wpX_takeG 5 (.int .i64 (c 0)) rfl (by first | rfl | simp [Region.wanted, yielded]) (by kernel_rfl) (fun w1 h1 => by have hc : w1.cell? ⟨r2_b, 0, none⟩ = some (.int .i64 (c 0)) := (r2.below h1 r2.lt).cellIs (vfn_get _ (by omega)); go_simp; exact ⟨rfl, Below.refl _ _⟩) ?_
        simp only [Act.put, List.setIfInBounds_toArray, List.set_cons_zero, List.set_cons_succ]
        refine wpX_takeG 6 (.int .i64 (b 0 + c 0)) rfl (by first | rfl | simp [Region.wanted, yielded]) (by kernel_rfl) (fun w1 h1 => by go_simp; exact ⟨by first | rfl | (rw [s0]; done), Below.refl _ _⟩) ?_
        simp only [Act.put, List.setIfInBounds_toArray, List.set_cons_zero, List.set_cons_succ]
        refine wpX_takeG 7 (.bool true) rfl (by first | rfl | simp [Region.wanted, yielded]) (by kernel_rfl) (fun w1 h1 => ?_) ?_
        · go_simp
          refine (X0.out _).mono ?_
          rintro e wz ⟨rfl, rfl⟩
          exact ⟨rfl, Below.refl _ _⟩
        simp only [Act.put, List.setIfInBounds_toArray, List.set_cons_zero, List.set_cons_succ]
        refine wpX_takeG 8 (.bool false) rfl (by first | rfl | simp [Region.wanted, yielded]) (by kernel_rfl) (fun w1 h1 => by go_simp; exact ⟨rfl, Below.refl _ _⟩) ?_
        simp only [Act.put, List.setIfInBounds_toArray, List.set_cons_zero, List.set_cons_succ]
        refine wpX_takeG 9 (.bool false) rfl (by first | rfl | simp [Region.wanted, yielded]) (by kernel_rfl) (fun w1 h1 => by go_simp; exact ⟨rfl, Below.refl _ _⟩) ?_
        simp only [Act.put, List.setIfInBounds_toArray, List.set_cons_zero, List.set_cons_succ]
        refine wpX_takeG 10 (.int .i64 0) rfl (by first | rfl | simp [Region.wanted, yielded]) (by kernel_rfl) (fun w1 h1 => by go_simp; exact ⟨rfl, Below.refl _ _⟩) ?_
        simp only [Act.put, List.setIfInBounds_toArray, List.set_cons_zero, List.set_cons_succ]
        refine wpX_takeG 11 (.pointer (some ⟨r1_b, 0, none⟩)) rfl (by first | rfl | simp [Region.wanted, yielded]) (by kernel_rfl) (fun w1 h1 => by go_simp; exact ⟨rfl, Below.refl _ _⟩) ?_
        simp only [Act.put, List.setIfInBounds_toArray, List.set_cons_zero, List.set_cons_succ]
        refine wpX_takeG 12 (.int .i64 (b 0)) rfl (by first | rfl | simp [Region.wanted, yielded]) (by kernel_rfl) (fun w1 h1 => by have hc : w1.cell? ⟨r1_b, 0, none⟩ = some (.int .i64 (b 0)) := (r1.below h1 r1.lt).cellIs (vfn_get _ (by omega)); go_simp; exact ⟨rfl, Below.refl _ _⟩) ?_
        simp only [Act.put, List.setIfInBounds_toArray, List.set_cons_zero, List.set_cons_succ]
        refine wpX_takeG 13 (.bool true) rfl (by first | rfl | simp [Region.wanted, yielded]) (by kernel_rfl) (fun w1 h1 => ?_) ?_
        · go_simp
          refine (Y0.out _).mono ?_
          rintro e wz ⟨rfl, rfl⟩
          exact ⟨rfl, Below.refl _ _⟩
        simp only [Act.put, List.setIfInBounds_toArray, List.set_cons_zero, List.set_cons_succ]
        refine wpX_takeG 14 (.bool false) rfl (by first | rfl | simp [Region.wanted, yielded]) (by kernel_rfl) (fun w1 h1 => by go_simp; exact ⟨rfl, Below.refl _ _⟩) ?_
        simp only [Act.put, List.setIfInBounds_toArray, List.set_cons_zero, List.set_cons_succ]
        refine wpX_tail (by kernel_rfl) (fun wt ht => ?_)
        simp only [List.drop_succ_cons, List.drop_zero]
        replace hB := hB.trans (ht.mono hB.size)
        replace r1 := r1.below ht r1.lt
        replace r2 := r2.below ht r2.lt
        clear ht
        go_wp2_with (fail)
        go_roundg 2
        case rel => exact ⟨1, by omega, rfl, r1, r2, hB⟩
        case measure => omega
      · go_upto_region 12 with (fail)
        refine wp_region_X 15 (by kernel_rfl) (by kernel_rfl) ?_
        replace r1 := r1.drew
        replace r2 := r2.drew
        replace hB : Below w.heap.size w wr.drew := hB.drew
        generalize wr.drew = wo at *
        refine wpX_takeG 0 (.int .i64 1) rfl (by first | rfl | simp [Region.wanted, yielded]) (by kernel_rfl) (fun w1 h1 => by go_simp; exact ⟨rfl, Below.refl _ _⟩) ?_
        simp only [Act.put, List.setIfInBounds_toArray, List.set_cons_zero, List.set_cons_succ]
        refine wpX_takeG 1 (.pointer (some ⟨r1_b, 1, none⟩)) rfl (by first | rfl | simp [Region.wanted, yielded]) (by kernel_rfl) (fun w1 h1 => by go_simp; exact ⟨rfl, Below.refl _ _⟩) ?_
        simp only [Act.put, List.setIfInBounds_toArray, List.set_cons_zero, List.set_cons_succ]
        refine wpX_takeG 2 (.int .i64 (b 1)) rfl (by first | rfl | simp [Region.wanted, yielded]) (by kernel_rfl) (fun w1 h1 => by have hc : w1.cell? ⟨r1_b, 1, none⟩ = some (.int .i64 (b 1)) := (r1.below h1 r1.lt).cellIs (vfn_get _ (by omega)); go_simp; exact ⟨rfl, Below.refl _ _⟩) ?_
        simp only [Act.put, List.setIfInBounds_toArray, List.set_cons_zero, List.set_cons_succ]
        refine wpX_takeG 3 (.int .i64 1) rfl (by first | rfl | simp [Region.wanted, yielded]) (by kernel_rfl) (fun w1 h1 => by go_simp; exact ⟨rfl, Below.refl _ _⟩) ?_
        simp only [Act.put, List.setIfInBounds_toArray, List.set_cons_zero, List.set_cons_succ]
        refine wpX_takeG 4 (.pointer (some ⟨r2_b, 1, none⟩)) rfl (by first | rfl | simp [Region.wanted, yielded]) (by kernel_rfl) (fun w1 h1 => by go_simp; exact ⟨rfl, Below.refl _ _⟩) ?_
        simp only [Act.put, List.setIfInBounds_toArray, List.set_cons_zero, List.set_cons_succ]
        refine wpX_takeG 5 (.int .i64 (c 1)) rfl (by first | rfl | simp [Region.wanted, yielded]) (by kernel_rfl) (fun w1 h1 => by have hc : w1.cell? ⟨r2_b, 1, none⟩ = some (.int .i64 (c 1)) := (r2.below h1 r2.lt).cellIs (vfn_get _ (by omega)); go_simp; exact ⟨rfl, Below.refl _ _⟩) ?_
        simp only [Act.put, List.setIfInBounds_toArray, List.set_cons_zero, List.set_cons_succ]
        refine wpX_takeG 6 (.int .i64 (b 1 + c 1)) rfl (by first | rfl | simp [Region.wanted, yielded]) (by kernel_rfl) (fun w1 h1 => by go_simp; exact ⟨by first | rfl | (rw [s1]; done), Below.refl _ _⟩) ?_
        simp only [Act.put, List.setIfInBounds_toArray, List.set_cons_zero, List.set_cons_succ]
        refine wpX_takeG 7 (.bool true) rfl (by first | rfl | simp [Region.wanted, yielded]) (by kernel_rfl) (fun w1 h1 => ?_) ?_
        · go_simp
          refine (X1.out _).mono ?_
          rintro e wz ⟨rfl, rfl⟩
          exact ⟨rfl, Below.refl _ _⟩
        simp only [Act.put, List.setIfInBounds_toArray, List.set_cons_zero, List.set_cons_succ]
        refine wpX_takeG 8 (.bool false) rfl (by first | rfl | simp [Region.wanted, yielded]) (by kernel_rfl) (fun w1 h1 => by go_simp; exact ⟨rfl, Below.refl _ _⟩) ?_
        simp only [Act.put, List.setIfInBounds_toArray, List.set_cons_zero, List.set_cons_succ]
        refine wpX_takeG 9 (.bool false) rfl (by first | rfl | simp [Region.wanted, yielded]) (by kernel_rfl) (fun w1 h1 => by go_simp; exact ⟨rfl, Below.refl _ _⟩) ?_
        simp only [Act.put, List.setIfInBounds_toArray, List.set_cons_zero, List.set_cons_succ]
        refine wpX_takeG 10 (.int .i64 1) rfl (by first | rfl | simp [Region.wanted, yielded]) (by kernel_rfl) (fun w1 h1 => by go_simp; exact ⟨rfl, Below.refl _ _⟩) ?_
        simp only [Act.put, List.setIfInBounds_toArray, List.set_cons_zero, List.set_cons_succ]
        refine wpX_takeG 11 (.pointer (some ⟨r1_b, 1, none⟩)) rfl (by first | rfl | simp [Region.wanted, yielded]) (by kernel_rfl) (fun w1 h1 => by go_simp; exact ⟨rfl, Below.refl _ _⟩) ?_
        simp only [Act.put, List.setIfInBounds_toArray, List.set_cons_zero, List.set_cons_succ]
        refine wpX_takeG 12 (.int .i64 (b 1)) rfl (by first | rfl | simp [Region.wanted, yielded]) (by kernel_rfl) (fun w1 h1 => by have hc : w1.cell? ⟨r1_b, 1, none⟩ = some (.int .i64 (b 1)) := (r1.below h1 r1.lt).cellIs (vfn_get _ (by omega)); go_simp; exact ⟨rfl, Below.refl _ _⟩) ?_
        simp only [Act.put, List.setIfInBounds_toArray, List.set_cons_zero, List.set_cons_succ]
        refine wpX_takeG 13 (.bool true) rfl (by first | rfl | simp [Region.wanted, yielded]) (by kernel_rfl) (fun w1 h1 => ?_) ?_
        · go_simp
          refine (Y1.out _).mono ?_
          rintro e wz ⟨rfl, rfl⟩
          exact ⟨rfl, Below.refl _ _⟩
        simp only [Act.put, List.setIfInBounds_toArray, List.set_cons_zero, List.set_cons_succ]
        refine wpX_takeG 14 (.bool false) rfl (by first | rfl | simp [Region.wanted, yielded]) (by kernel_rfl) (fun w1 h1 => by go_simp; exact ⟨rfl, Below.refl _ _⟩) ?_
        simp only [Act.put, List.setIfInBounds_toArray, List.set_cons_zero, List.set_cons_succ]
        refine wpX_tail (by kernel_rfl) (fun wt ht => ?_)
        simp only [List.drop_succ_cons, List.drop_zero]
        replace hB := hB.trans (ht.mono hB.size)
        replace r1 := r1.below ht r1.lt
        replace r2 := r2.below ht r2.lt
        clear ht
        go_wp2_with (fail)
        go_roundg 1
        case rel => exact ⟨2, by omega, rfl, r1, r2, hB⟩
        case measure => omega
      · go_upto_region 12 with (fail)
        refine wp_region_X 15 (by kernel_rfl) (by kernel_rfl) ?_
        replace r1 := r1.drew
        replace r2 := r2.drew
        replace hB : Below w.heap.size w wr.drew := hB.drew
        generalize wr.drew = wo at *
        refine wpX_takeG 0 (.int .i64 2) rfl (by first | rfl | simp [Region.wanted, yielded]) (by kernel_rfl) (fun w1 h1 => by go_simp; exact ⟨rfl, Below.refl _ _⟩) ?_
        simp only [Act.put, List.setIfInBounds_toArray, List.set_cons_zero, List.set_cons_succ]
        refine wpX_takeG 1 (.pointer (some ⟨r1_b, 2, none⟩)) rfl (by first | rfl | simp [Region.wanted, yielded]) (by kernel_rfl) (fun w1 h1 => by go_simp; exact ⟨rfl, Below.refl _ _⟩) ?_
        simp only [Act.put, List.setIfInBounds_toArray, List.set_cons_zero, List.set_cons_succ]
        refine wpX_takeG 2 (.int .i64 (b 2)) rfl (by first | rfl | simp [Region.wanted, yielded]) (by kernel_rfl) (fun w1 h1 => by have hc : w1.cell? ⟨r1_b, 2, none⟩ = some (.int .i64 (b 2)) := (r1.below h1 r1.lt).cellIs (vfn_get _ (by omega)); go_simp; exact ⟨rfl, Below.refl _ _⟩) ?_
        simp only [Act.put, List.setIfInBounds_toArray, List.set_cons_zero, List.set_cons_succ]
        refine wpX_takeG 3 (.int .i64 2) rfl (by first | rfl | simp [Region.wanted, yielded]) (by kernel_rfl) (fun w1 h1 => by go_simp; exact ⟨rfl, Below.refl _ _⟩) ?_
        simp only [Act.put, List.setIfInBounds_toArray, List.set_cons_zero, List.set_cons_succ]
        refine wpX_takeG 4 (.pointer (some ⟨r2_b, 2, none⟩)) rfl (by first | rfl | simp [Region.wanted, yielded]) (by kernel_rfl) (fun w1 h1 => by go_simp; exact ⟨rfl, Below.refl _ _⟩) ?_
        simp only [Act.put, List.setIfInBounds_toArray, List.set_cons_zero, List.set_cons_succ]
        refine wpX_takeG 5 (.int .i64 (c 2)) rfl (by first | rfl | simp [Region.wanted, yielded]) (by kernel_rfl) (fun w1 h1 => by have hc : w1.cell? ⟨r2_b, 2, none⟩ = some (.int .i64 (c 2)) := (r2.below h1 r2.lt).cellIs (vfn_get _ (by omega)); go_simp; exact ⟨rfl, Below.refl _ _⟩) ?_
        simp only [Act.put, List.setIfInBounds_toArray, List.set_cons_zero, List.set_cons_succ]
        refine wpX_takeG 6 (.int .i64 (b 2 + c 2)) rfl (by first | rfl | simp [Region.wanted, yielded]) (by kernel_rfl) (fun w1 h1 => by go_simp; exact ⟨by first | rfl | (rw [s2]; done), Below.refl _ _⟩) ?_
        simp only [Act.put, List.setIfInBounds_toArray, List.set_cons_zero, List.set_cons_succ]
        refine wpX_takeG 7 (.bool true) rfl (by first | rfl | simp [Region.wanted, yielded]) (by kernel_rfl) (fun w1 h1 => ?_) ?_
        · go_simp
          refine (X2.out _).mono ?_
          rintro e wz ⟨rfl, rfl⟩
          exact ⟨rfl, Below.refl _ _⟩
        simp only [Act.put, List.setIfInBounds_toArray, List.set_cons_zero, List.set_cons_succ]
        refine wpX_takeG 8 (.bool false) rfl (by first | rfl | simp [Region.wanted, yielded]) (by kernel_rfl) (fun w1 h1 => by go_simp; exact ⟨rfl, Below.refl _ _⟩) ?_
        simp only [Act.put, List.setIfInBounds_toArray, List.set_cons_zero, List.set_cons_succ]
        refine wpX_takeG 9 (.bool false) rfl (by first | rfl | simp [Region.wanted, yielded]) (by kernel_rfl) (fun w1 h1 => by go_simp; exact ⟨rfl, Below.refl _ _⟩) ?_
        simp only [Act.put, List.setIfInBounds_toArray, List.set_cons_zero, List.set_cons_succ]
        refine wpX_takeG 10 (.int .i64 2) rfl (by first | rfl | simp [Region.wanted, yielded]) (by kernel_rfl) (fun w1 h1 => by go_simp; exact ⟨rfl, Below.refl _ _⟩) ?_
        simp only [Act.put, List.setIfInBounds_toArray, List.set_cons_zero, List.set_cons_succ]
        refine wpX_takeG 11 (.pointer (some ⟨r1_b, 2, none⟩)) rfl (by first | rfl | simp [Region.wanted, yielded]) (by kernel_rfl) (fun w1 h1 => by go_simp; exact ⟨rfl, Below.refl _ _⟩) ?_
        simp only [Act.put, List.setIfInBounds_toArray, List.set_cons_zero, List.set_cons_succ]
        refine wpX_takeG 12 (.int .i64 (b 2)) rfl (by first | rfl | simp [Region.wanted, yielded]) (by kernel_rfl) (fun w1 h1 => by have hc : w1.cell? ⟨r1_b, 2, none⟩ = some (.int .i64 (b 2)) := (r1.below h1 r1.lt).cellIs (vfn_get _ (by omega)); go_simp; exact ⟨rfl, Below.refl _ _⟩) ?_
        simp only [Act.put, List.setIfInBounds_toArray, List.set_cons_zero, List.set_cons_succ]
        refine wpX_takeG 13 (.bool true) rfl (by first | rfl | simp [Region.wanted, yielded]) (by kernel_rfl) (fun w1 h1 => ?_) ?_
        · go_simp
          refine (Y2.out _).mono ?_
          rintro e wz ⟨rfl, rfl⟩
          exact ⟨rfl, Below.refl _ _⟩
        simp only [Act.put, List.setIfInBounds_toArray, List.set_cons_zero, List.set_cons_succ]
        refine wpX_takeG 14 (.bool false) rfl (by first | rfl | simp [Region.wanted, yielded]) (by kernel_rfl) (fun w1 h1 => by go_simp; exact ⟨rfl, Below.refl _ _⟩) ?_
        simp only [Act.put, List.setIfInBounds_toArray, List.set_cons_zero, List.set_cons_succ]
        refine wpX_tail (by kernel_rfl) (fun wt ht => ?_)
        simp only [List.drop_succ_cons, List.drop_zero]
        replace hB := hB.trans (ht.mono hB.size)
        replace r1 := r1.below ht r1.lt
        replace r2 := r2.below ht r2.lt
        clear ht
        go_wp2_with (fail)
        go_roundg 0
        case rel => exact ⟨3, by omega, rfl, r1, r2, hB⟩
        case measure => omega
      · go_wp2_with ((go_at_call 39; refine (awakeM_any _).mono ?_; rintro e wx ⟨rfl, hb⟩; replace hB := hB.trans (hb.mono hB.size); clear hb))
        go_ret
        exact ⟨rfl, hB⟩
end Go.Proofs.Ythkklhfnmodpnaa
