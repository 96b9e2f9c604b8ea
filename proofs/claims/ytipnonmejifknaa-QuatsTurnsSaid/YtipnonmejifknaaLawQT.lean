/-
  QuatsTurns returns true: Turn of the specification, and the walk.
-/
import Derived.Test.YtipnonmejifknaaBet
set_option linter.unusedSimpArgs false
set_option linter.unusedVariables false
namespace Go.Proofs.Ytipnonmejifknaa
open Go.RowKit PM Dt
set_option maxRecDepth 100000 in
set_option maxHeartbeats 2000000 in
theorem rturn_any (f g : Nat → Int) (w : World) (hf : ∀ i, i < 4 → I64 (f i)) : Calls Try.prog 15 #[.agg (qfn f), .agg (vfn g)] w fun e w' => e = .returned (.tuple #[.agg (qfn (turnF f g)), .int .i64 (turnE f g)]) ∧ Below w.heap.size w w' := by
  have V := Lib.hid (fun w => rqvalid_any f w hf)
  have PR := Lib.hid (fun w => rqprod_any f (rq g) w)
  have UN := Lib.hid (fun w => rqunit_any (qprodF f (rq g)) w)
  obtain ⟨F, hF⟩ : ∃ F, turnF f g = F := ⟨_, rfl⟩
  obtain ⟨E, hE⟩ : ∃ E, turnE f g = E := ⟨_, rfl⟩
  rw [hF, hE]
  unfold turnF turnOk at hF
  unfold turnE turnOk at hE
  have HF := Lib.hid hF
  have HE := Lib.hid hE
  have rc := Lib.hid (rq_cells g)
  clear hF hE hf
  generalize qunF (qprodF f (rq g)) = X at *
  generalize qunE (qprodF f (rq g)) = XE at *
  generalize qprodF f (rq g) = Y at *
  generalize qprodE f (rq g) = YE at *
  generalize validQ f = b1 at *
  obtain ⟨R, hR⟩ : ∃ R, rq g = R := ⟨_, rfl⟩
  rw [hR] at PR rc
  clear hR
  go_enter Try.func15, Try.ntmps15
  go_upto_region 1 with (fail)
  simp only [zero_quat]
  have p : blk (((w.alloc (.cells (qfn f) 23)).alloc (.cells (vfn g) 25)).alloc (.cells (qfn fun _ => 0) 23)) w.heap.size (qfn f) 23 := ((blk.new _ _ _).alloc _).alloc _
  have q : blk (((w.alloc (.cells (qfn f) 23)).alloc (.cells (vfn g) 25)).alloc (.cells (qfn fun _ => 0) 23)) (w.heap.size + 1) (vfn g) 25 := (blk.new' (by simp)).alloc _
  have r : blk (((w.alloc (.cells (qfn f) 23)).alloc (.cells (vfn g) 25)).alloc (.cells (qfn fun _ => 0) 23)) (w.heap.size + 2) (qfn fun _ => 0) 23 := blk.new' (by simp)
  have hB : Below w.heap.size w (((w.alloc (.cells (qfn f) 23)).alloc (.cells (vfn g) 25)).alloc (.cells (qfn fun _ => 0) 23)) := by go_grown
  generalize (((w.alloc (.cells (qfn f) 23)).alloc (.cells (vfn g) 25)).alloc (.cells (qfn fun _ => 0) 23)) = w0 at *
  go_wp2_with (fail)
  go_loopg [6] 3 (fun g_ iv wr => ∃ k : Nat, g_ + k = 3 ∧ iv = .int .i64 k ∧ Hid (∀ j, j < k → sb 1073741824 (g j) = true) ∧ blk wr w.heap.size (qfn f) 23 ∧ blk wr (w.heap.size + 1) (vfn g) 25 ∧ blk wr (w.heap.size + 2) (qfn fun _ => 0) 23 ∧ Below w.heap.size w wr)
  case atStart => exact ⟨0, rfl, rfl, fun j hj => by omega, p, q, r, hB⟩
  case round =>
    clear p q r hB
    obtain ⟨k, hk, rfl, hall, p, q, r, hB⟩ := hrel
    by_cases hkn : k < 3
    · have hdk : decide ((k : Int) < 3) = true := decide_eq_true (by omega)
      have hdk' : decide (k < 3) = true := decide_eq_true (by omega)
      have hk3 : (k : Int) < 3 := by omega
      have hw3 : IntKind.i64.wrap ((k : Int) + 1) = ((k + 1 : Nat) : Int) := by rw [IntKind.wrap_i64]; omega
      have ck : wr.cell? ⟨w.heap.size + 1, k, none⟩ = some (.int .i64 (g k)) := q.cellIs (vfn_get g hkn)
      by_cases h1 : -1073741824 ≤ g k
      · have d1 : decide (g k < -1073741824) = false := decide_eq_false (by omega)
        by_cases h2 : g k ≤ 1073741824
        · have d2 : decide (1073741824 < g k) = false := decide_eq_false (by omega)
          have HV := Lib.hid ((sb_iff _ _).2 ⟨h1, h2⟩)
          clear h1 h2
          go_wp2_with (fail)
          go_roundg (3 - (k + 1))
          case rel =>
            refine ⟨k + 1, by omega, rfl, fun j hj => ?_, p, q, r, hB⟩
            by_cases e : j = k
            · subst e; exact HV.out
            · exact hall.out j (by omega)
          case measure => omega
        · have d2 : decide (1073741824 < g k) = true := decide_eq_true (by omega)
          have HV := Lib.hid (show smallB g 1073741824 = false from smallB_no hkn (by omega))
          clear h1 h2
          go_wp2_with (first
            | (rw [zero_quat]; refine wpList_store_row rfl _ _ _ rfl _ rfl _ rfl _ _ r (by first | kernel_rfl | (rw [qfn_size]; kernel_rfl)) (by first | rfl | simp only [qfn_size]) (by first | exact qfn_one _ | rfl) ?_))
          refine bodyPost_ret (results_vec rfl _ _ _ _ _ _ _ rfl (r.row (qfn fun _ => 0)) Try.underlying23 rfl (by first | kernel_rfl | (rw [qfn_size]; kernel_rfl))) rfl ?_
          refine ⟨?_, Below.setRow hB (by omega) _⟩
          rw [← HF.out, ← HE.out]
          have hs : smallB g 1073741824 = false := HV.out
          rw [hs, Bool.and_false]; rfl
      · have d1 : decide (g k < -1073741824) = true := decide_eq_true (by omega)
        have HV := Lib.hid (show smallB g 1073741824 = false from smallB_no hkn (by omega))
        clear h1
        go_wp2_with (first
          | (rw [zero_quat]; refine wpList_store_row rfl _ _ _ rfl _ rfl _ rfl _ _ r (by first | kernel_rfl | (rw [qfn_size]; kernel_rfl)) (by first | rfl | simp only [qfn_size]) (by first | exact qfn_one _ | rfl) ?_))
        refine bodyPost_ret (results_vec rfl _ _ _ _ _ _ _ rfl (r.row (qfn fun _ => 0)) Try.underlying23 rfl (by first | kernel_rfl | (rw [qfn_size]; kernel_rfl))) rfl ?_
        refine ⟨?_, Below.setRow hB (by omega) _⟩
        rw [← HF.out, ← HE.out]
        have hs : smallB g 1073741824 = false := HV.out
        rw [hs, Bool.and_false]; rfl
    · obtain rfl : k = 3 := by omega
      have HV := Lib.hid ((smallB_iff g 1073741824).2 hall.out)
      have c0 : wr.cell? ⟨(w.heap.size + 1), 0, none⟩ = some (.int .i64 (g 0)) := q.cellIs (vfn_get _ (by omega))
      have c1 : wr.cell? ⟨(w.heap.size + 1), 1, none⟩ = some (.int .i64 (g 1)) := q.cellIs (vfn_get _ (by omega))
      have c2 : wr.cell? ⟨(w.heap.size + 1), 2, none⟩ = some (.int .i64 (g 2)) := q.cellIs (vfn_get _ (by omega))
      cases b1
      case false =>
        go_wp2_with (first
          | (refine wpList_load_rowG ?hw _ _ rfl _ rfl _ _ _ _ p Try.underlying23 rfl ?hi ?_; (case hw => (first | rfl | (simp [Region.wanted, yielded]; done))); (case hi => (first | kernel_rfl | (rw [qfn_size]; kernel_rfl))))
          | (refine wpList_load_rowG ?hw _ _ rfl _ rfl _ _ _ _ q Try.underlying25 rfl ?hi ?_; (case hw => (first | rfl | (simp [Region.wanted, yielded]; done))); (case hi => (first | kernel_rfl | (rw [vfn_size]; kernel_rfl))))
          | (refine wpList_load_rowG ?hw _ _ rfl _ rfl _ _ _ _ r Try.underlying23 rfl ?hi ?_; (case hw => (first | rfl | (simp [Region.wanted, yielded]; done))); (case hi => (first | kernel_rfl | (rw [qfn_size]; kernel_rfl))))
          | (go_at_call 49; with_reducible refine (V.out _).mono ?_; rintro e w1 ⟨rfl, hb⟩; replace hB := hB.trans (hb.mono hB.size); replace p := p.below hb p.lt; replace q := q.below hb q.lt; replace r := r.below hb r.lt; clear hb)
          | (rw [zero_quat]; refine wpList_store_row rfl _ _ _ rfl _ rfl _ rfl _ _ r (by first | kernel_rfl | (rw [qfn_size]; kernel_rfl)) (by first | rfl | simp only [qfn_size]) (by first | exact qfn_one _ | rfl) ?_))
        refine bodyPost_ret (results_vec rfl _ _ _ _ _ _ _ rfl (r.row (qfn fun _ => 0)) Try.underlying23 rfl (by first | kernel_rfl | (rw [qfn_size]; kernel_rfl))) rfl ?_
        refine ⟨?_, Below.setRow hB (by omega) _⟩
        rw [← HF.out, ← HE.out]; rfl
      case true =>
        rw [← rc.out] at PR
        clear c0 c1 c2
        go_upto_region 8 with (first
          | (refine wpList_load_rowG ?hw _ _ rfl _ rfl _ _ _ _ p Try.underlying23 rfl ?hi ?_; (case hw => (first | rfl | (simp [Region.wanted, yielded]; done))); (case hi => (first | kernel_rfl | (rw [qfn_size]; kernel_rfl))))
          | (refine wpList_load_rowG ?hw _ _ rfl _ rfl _ _ _ _ q Try.underlying25 rfl ?hi ?_; (case hw => (first | rfl | (simp [Region.wanted, yielded]; done))); (case hi => (first | kernel_rfl | (rw [vfn_size]; kernel_rfl))))
          | (refine wpList_load_rowG ?hw _ _ rfl _ rfl _ _ _ _ r Try.underlying23 rfl ?hi ?_; (case hw => (first | rfl | (simp [Region.wanted, yielded]; done))); (case hi => (first | kernel_rfl | (rw [qfn_size]; kernel_rfl))))
          | (go_at_call 49; with_reducible refine (V.out _).mono ?_; rintro e w1 ⟨rfl, hb⟩; replace hB := hB.trans (hb.mono hB.size); replace p := p.below hb p.lt; replace q := q.below hb q.lt; replace r := r.below hb r.lt; clear hb))
        have c0 : w1.cell? ⟨(w.heap.size + 1), 0, none⟩ = some (.int .i64 (g 0)) := q.cellIs (vfn_get _ (by omega))
        have c1 : w1.cell? ⟨(w.heap.size + 1), 1, none⟩ = some (.int .i64 (g 1)) := q.cellIs (vfn_get _ (by omega))
        have c2 : w1.cell? ⟨(w.heap.size + 1), 2, none⟩ = some (.int .i64 (g 2)) := q.cellIs (vfn_get _ (by omega))
        go_upto_region 9 with (first
          | (refine wpList_load_rowG ?hw _ _ rfl _ rfl _ _ _ _ p Try.underlying23 rfl ?hi ?_; (case hw => (first | rfl | (simp [Region.wanted, yielded]; done))); (case hi => (first | kernel_rfl | (rw [qfn_size]; kernel_rfl))))
          | (refine wpList_load_rowG ?hw _ _ rfl _ rfl _ _ _ _ q Try.underlying25 rfl ?hi ?_; (case hw => (first | rfl | (simp [Region.wanted, yielded]; done))); (case hi => (first | kernel_rfl | (rw [vfn_size]; kernel_rfl))))
          | (refine wpList_load_rowG ?hw _ _ rfl _ rfl _ _ _ _ r Try.underlying23 rfl ?hi ?_; (case hw => (first | rfl | (simp [Region.wanted, yielded]; done))); (case hi => (first | kernel_rfl | (rw [qfn_size]; kernel_rfl))))
          | (go_at_call 50; with_reducible refine (PR.out _).mono ?_; rintro e w2 ⟨rfl, hb⟩; replace hB := hB.trans (hb.mono hB.size); replace p := p.below hb p.lt; replace q := q.below hb q.lt; replace r := r.below hb r.lt; clear hb)
          | (rw [zero_quat]; refine wpList_store_row rfl _ _ _ rfl _ rfl _ rfl _ _ (blk.new _ _ _) (by first | kernel_rfl | (rw [qfn_size]; kernel_rfl)) (by first | rfl | simp only [qfn_size]) (by first | exact qfn_one _ | rfl) ?_))
        have m := (blk.new w2 (qfn fun _ => 0) 23).row (qfn Y)
        replace hB := Below.setRow (hB.alloc hB.size (.cells (qfn fun _ => 0) 23)) (g := w2.heap.size) hB.size (qfn Y)
        have hne : ∀ x, x < w2.heap.size → x ≠ w2.heap.size := fun x hx => Nat.ne_of_lt hx
        replace p := (p.alloc (.cells (qfn fun _ => 0) 23)).rowOther (hne _ p.lt) (qfn Y)
        replace q := (q.alloc (.cells (qfn fun _ => 0) 23)).rowOther (hne _ q.lt) (qfn Y)
        replace r := (r.alloc (.cells (qfn fun _ => 0) 23)).rowOther (hne _ r.lt) (qfn Y)
        clear hne
        generalize (w2.alloc (.cells (qfn fun _ => 0) 23)).setRow w2.heap.size (qfn Y) = w2x at *
        generalize w2.heap.size = m_b at *
        go_wp2_with (first
          | (refine wpList_load_rowG ?hw _ _ rfl _ rfl _ _ _ _ p Try.underlying23 rfl ?hi ?_; (case hw => (first | rfl | (simp [Region.wanted, yielded]; done))); (case hi => (first | kernel_rfl | (rw [qfn_size]; kernel_rfl))))
          | (refine wpList_load_rowG ?hw _ _ rfl _ rfl _ _ _ _ q Try.underlying25 rfl ?hi ?_; (case hw => (first | rfl | (simp [Region.wanted, yielded]; done))); (case hi => (first | kernel_rfl | (rw [vfn_size]; kernel_rfl))))
          | (refine wpList_load_rowG ?hw _ _ rfl _ rfl _ _ _ _ r Try.underlying23 rfl ?hi ?_; (case hw => (first | rfl | (simp [Region.wanted, yielded]; done))); (case hi => (first | kernel_rfl | (rw [qfn_size]; kernel_rfl))))
          | (refine wpList_load_rowG ?hw _ _ rfl _ rfl _ _ _ _ m Try.underlying23 rfl ?hi ?_; (case hw => (first | rfl | (simp [Region.wanted, yielded]; done))); (case hi => (first | kernel_rfl | (rw [qfn_size]; kernel_rfl))))
          | (go_at_call 51; with_reducible refine (UN.out _).mono ?_; rintro e w3 ⟨rfl, hb⟩; replace hB := hB.trans (hb.mono hB.size); replace p := p.below hb p.lt; replace q := q.below hb q.lt; replace r := r.below hb r.lt; replace m := m.below hb m.lt; clear hb)
          | (refine wpList_store_row rfl _ _ _ rfl _ rfl _ rfl _ _ r (by first | kernel_rfl | (rw [qfn_size]; kernel_rfl)) (by first | rfl | simp only [qfn_size]) (by first | exact qfn_one _ | rfl) ?_))
        refine bodyPost_ret (results_vec rfl _ _ _ _ _ _ _ rfl (r.row (qfn X)) Try.underlying23 rfl (by first | kernel_rfl | (rw [qfn_size]; kernel_rfl))) rfl ?_
        refine ⟨?_, Below.setRow hB (by omega) _⟩
        rw [← HF.out, ← HE.out, HV.out]; rfl
set_option maxRecDepth 100000 in
set_option maxHeartbeats 4000000 in
theorem qturns_any (f g h : Nat → Int) (w : World) (hf : ∀ i, i < 4 → I64 (f i)) (hg : ∀ i, i < 4 → I64 (g i)) (hh : ∀ i, i < 3 → I64 (h i)) : Calls Try.prog 3 #[.agg (qfn f), .agg (qfn g), .agg (vfn h)] w fun e w' => e = .returned (.bool true) ∧ Below w.heap.size w w' := by
  have A1 := Lib.hid (fun w => turn_any f h w hf hh)
  have A2 := Lib.hid (fun w => rturn_any f h w hf)
  have A3 := Lib.hid (fun w => between_any f g w hf hg)
  have A4 := Lib.hid (fun w => rbetween_any f g w hf hg)
  generalize turnF f h = FA at *
  generalize turnE f h = EA at *
  generalize betF f g = FB at *
  generalize betE f g = EB at *
  have hqA := quat_eq_self FA
  have hqB := quat_eq_self FB
  clear hf hg hh
  go_enter Try.func3, Try.ntmps3
  go_upto_region 1 with (fail)
  have p : blk (((w.alloc (.cells (qfn f) 23)).alloc (.cells (qfn g) 23)).alloc (.cells (vfn h) 25)) w.heap.size (qfn f) 23 := ((blk.new _ _ _).alloc _).alloc _
  have q : blk (((w.alloc (.cells (qfn f) 23)).alloc (.cells (qfn g) 23)).alloc (.cells (vfn h) 25)) (w.heap.size + 1) (qfn g) 23 := (blk.new' (by simp)).alloc _
  have r : blk (((w.alloc (.cells (qfn f) 23)).alloc (.cells (qfn g) 23)).alloc (.cells (vfn h) 25)) (w.heap.size + 2) (vfn h) 25 := blk.new' (by simp)
  have hB : Below w.heap.size w (((w.alloc (.cells (qfn f) 23)).alloc (.cells (qfn g) 23)).alloc (.cells (vfn h) 25)) := by go_grown
  generalize (((w.alloc (.cells (qfn f) 23)).alloc (.cells (qfn g) 23)).alloc (.cells (vfn h) 25)) = w0 at *
  go_upto_region 2 with (first
    | (refine wpList_load_rowG ?hw _ _ rfl _ rfl _ _ _ _ p Try.underlying23 rfl ?hi ?_; (case hw => (first | rfl | (simp [Region.wanted, yielded]; done))); (case hi => (first | kernel_rfl | (rw [qfn_size]; kernel_rfl))))
    | (refine wpList_load_rowG ?hw _ _ rfl _ rfl _ _ _ _ q Try.underlying23 rfl ?hi ?_; (case hw => (first | rfl | (simp [Region.wanted, yielded]; done))); (case hi => (first | kernel_rfl | (rw [qfn_size]; kernel_rfl))))
    | (refine wpList_load_rowG ?hw _ _ rfl _ rfl _ _ _ _ r Try.underlying25 rfl ?hi ?_; (case hw => (first | rfl | (simp [Region.wanted, yielded]; done))); (case hi => (first | kernel_rfl | (rw [vfn_size]; kernel_rfl))))
    | (go_at_call 14; with_reducible refine (A1.out _).mono ?_; rintro e w1 ⟨rfl, hb⟩; replace hB := hB.trans (hb.mono hB.size); replace p := p.below hb p.lt; replace q := q.below hb q.lt; replace r := r.below hb r.lt; clear hb)
    | (rw [zero_quat]; refine wpList_store_row rfl _ _ _ rfl _ rfl _ rfl _ _ (blk.new _ _ _) (by first | kernel_rfl | (rw [qfn_size]; kernel_rfl)) (by first | rfl | simp only [qfn_size]) (by first | exact qfn_one _ | rfl) ?_))
  have r1 := (blk.new w1 (qfn fun _ => 0) 23).row (qfn FA)
  replace hB := Below.setRow (hB.alloc hB.size (.cells (qfn fun _ => 0) 23)) (g := w1.heap.size) hB.size (qfn FA)
  have hne : ∀ x, x < w1.heap.size → x ≠ w1.heap.size := fun x hx => Nat.ne_of_lt hx
  replace p := (p.alloc (.cells (qfn fun _ => 0) 23)).rowOther (hne _ p.lt) (qfn FA)
  replace q := (q.alloc (.cells (qfn fun _ => 0) 23)).rowOther (hne _ q.lt) (qfn FA)
  replace r := (r.alloc (.cells (qfn fun _ => 0) 23)).rowOther (hne _ r.lt) (qfn FA)
  clear hne
  generalize (w1.alloc (.cells (qfn fun _ => 0) 23)).setRow w1.heap.size (qfn FA) = w1x at *
  generalize w1.heap.size = r1_b at *
  go_upto_region 3 with (first
    | (refine wpList_load_rowG ?hw _ _ rfl _ rfl _ _ _ _ p Try.underlying23 rfl ?hi ?_; (case hw => (first | rfl | (simp [Region.wanted, yielded]; done))); (case hi => (first | kernel_rfl | (rw [qfn_size]; kernel_rfl))))
    | (refine wpList_load_rowG ?hw _ _ rfl _ rfl _ _ _ _ q Try.underlying23 rfl ?hi ?_; (case hw => (first | rfl | (simp [Region.wanted, yielded]; done))); (case hi => (first | kernel_rfl | (rw [qfn_size]; kernel_rfl))))
    | (refine wpList_load_rowG ?hw _ _ rfl _ rfl _ _ _ _ r Try.underlying25 rfl ?hi ?_; (case hw => (first | rfl | (simp [Region.wanted, yielded]; done))); (case hi => (first | kernel_rfl | (rw [vfn_size]; kernel_rfl))))
    | (refine wpList_load_rowG ?hw _ _ rfl _ rfl _ _ _ _ r1 Try.underlying23 rfl ?hi ?_; (case hw => (first | rfl | (simp [Region.wanted, yielded]; done))); (case hi => (first | kernel_rfl | (rw [qfn_size]; kernel_rfl))))
    | (go_at_call 15; with_reducible refine (A2.out _).mono ?_; rintro e w2 ⟨rfl, hb⟩; replace hB := hB.trans (hb.mono hB.size); replace p := p.below hb p.lt; replace q := q.below hb q.lt; replace r := r.below hb r.lt; replace r1 := r1.below hb r1.lt; clear hb)
    | (rw [zero_quat]; refine wpList_store_row rfl _ _ _ rfl _ rfl _ rfl _ _ (blk.new _ _ _) (by first | kernel_rfl | (rw [qfn_size]; kernel_rfl)) (by first | rfl | simp only [qfn_size]) (by first | exact qfn_one _ | rfl) ?_))
  have r2 := (blk.new w2 (qfn fun _ => 0) 23).row (qfn FA)
  replace hB := Below.setRow (hB.alloc hB.size (.cells (qfn fun _ => 0) 23)) (g := w2.heap.size) hB.size (qfn FA)
  have hne : ∀ x, x < w2.heap.size → x ≠ w2.heap.size := fun x hx => Nat.ne_of_lt hx
  replace p := (p.alloc (.cells (qfn fun _ => 0) 23)).rowOther (hne _ p.lt) (qfn FA)
  replace q := (q.alloc (.cells (qfn fun _ => 0) 23)).rowOther (hne _ q.lt) (qfn FA)
  replace r := (r.alloc (.cells (qfn fun _ => 0) 23)).rowOther (hne _ r.lt) (qfn FA)
  replace r1 := (r1.alloc (.cells (qfn fun _ => 0) 23)).rowOther (hne _ r1.lt) (qfn FA)
  clear hne
  generalize (w2.alloc (.cells (qfn fun _ => 0) 23)).setRow w2.heap.size (qfn FA) = w2x at *
  generalize w2.heap.size = r2_b at *
  go_upto_region 4 with (first
    | (refine wpList_load_rowG ?hw _ _ rfl _ rfl _ _ _ _ p Try.underlying23 rfl ?hi ?_; (case hw => (first | rfl | (simp [Region.wanted, yielded]; done))); (case hi => (first | kernel_rfl | (rw [qfn_size]; kernel_rfl))))
    | (refine wpList_load_rowG ?hw _ _ rfl _ rfl _ _ _ _ q Try.underlying23 rfl ?hi ?_; (case hw => (first | rfl | (simp [Region.wanted, yielded]; done))); (case hi => (first | kernel_rfl | (rw [qfn_size]; kernel_rfl))))
    | (refine wpList_load_rowG ?hw _ _ rfl _ rfl _ _ _ _ r Try.underlying25 rfl ?hi ?_; (case hw => (first | rfl | (simp [Region.wanted, yielded]; done))); (case hi => (first | kernel_rfl | (rw [vfn_size]; kernel_rfl))))
    | (refine wpList_load_rowG ?hw _ _ rfl _ rfl _ _ _ _ r1 Try.underlying23 rfl ?hi ?_; (case hw => (first | rfl | (simp [Region.wanted, yielded]; done))); (case hi => (first | kernel_rfl | (rw [qfn_size]; kernel_rfl))))
    | (refine wpList_load_rowG ?hw _ _ rfl _ rfl _ _ _ _ r2 Try.underlying23 rfl ?hi ?_; (case hw => (first | rfl | (simp [Region.wanted, yielded]; done))); (case hi => (first | kernel_rfl | (rw [qfn_size]; kernel_rfl))))
    | (go_at_call 16; with_reducible refine (A3.out _).mono ?_; rintro e w3 ⟨rfl, hb⟩; replace hB := hB.trans (hb.mono hB.size); replace p := p.below hb p.lt; replace q := q.below hb q.lt; replace r := r.below hb r.lt; replace r1 := r1.below hb r1.lt; replace r2 := r2.below hb r2.lt; clear hb)
    | (rw [zero_quat]; refine wpList_store_row rfl _ _ _ rfl _ rfl _ rfl _ _ (blk.new _ _ _) (by first | kernel_rfl | (rw [qfn_size]; kernel_rfl)) (by first | rfl | simp only [qfn_size]) (by first | exact qfn_one _ | rfl) ?_))
  have r3 := (blk.new w3 (qfn fun _ => 0) 23).row (qfn FB)
  replace hB := Below.setRow (hB.alloc hB.size (.cells (qfn fun _ => 0) 23)) (g := w3.heap.size) hB.size (qfn FB)
  have hne : ∀ x, x < w3.heap.size → x ≠ w3.heap.size := fun x hx => Nat.ne_of_lt hx
  replace p := (p.alloc (.cells (qfn fun _ => 0) 23)).rowOther (hne _ p.lt) (qfn FB)
  replace q := (q.alloc (.cells (qfn fun _ => 0) 23)).rowOther (hne _ q.lt) (qfn FB)
  replace r := (r.alloc (.cells (qfn fun _ => 0) 23)).rowOther (hne _ r.lt) (qfn FB)
  replace r1 := (r1.alloc (.cells (qfn fun _ => 0) 23)).rowOther (hne _ r1.lt) (qfn FB)
  replace r2 := (r2.alloc (.cells (qfn fun _ => 0) 23)).rowOther (hne _ r2.lt) (qfn FB)
  clear hne
  generalize (w3.alloc (.cells (qfn fun _ => 0) 23)).setRow w3.heap.size (qfn FB) = w3x at *
  generalize w3.heap.size = r3_b at *
  go_upto_region 5 with (first
    | (refine wpList_load_rowG ?hw _ _ rfl _ rfl _ _ _ _ p Try.underlying23 rfl ?hi ?_; (case hw => (first | rfl | (simp [Region.wanted, yielded]; done))); (case hi => (first | kernel_rfl | (rw [qfn_size]; kernel_rfl))))
    | (refine wpList_load_rowG ?hw _ _ rfl _ rfl _ _ _ _ q Try.underlying23 rfl ?hi ?_; (case hw => (first | rfl | (simp [Region.wanted, yielded]; done))); (case hi => (first | kernel_rfl | (rw [qfn_size]; kernel_rfl))))
    | (refine wpList_load_rowG ?hw _ _ rfl _ rfl _ _ _ _ r Try.underlying25 rfl ?hi ?_; (case hw => (first | rfl | (simp [Region.wanted, yielded]; done))); (case hi => (first | kernel_rfl | (rw [vfn_size]; kernel_rfl))))
    | (refine wpList_load_rowG ?hw _ _ rfl _ rfl _ _ _ _ r1 Try.underlying23 rfl ?hi ?_; (case hw => (first | rfl | (simp [Region.wanted, yielded]; done))); (case hi => (first | kernel_rfl | (rw [qfn_size]; kernel_rfl))))
    | (refine wpList_load_rowG ?hw _ _ rfl _ rfl _ _ _ _ r2 Try.underlying23 rfl ?hi ?_; (case hw => (first | rfl | (simp [Region.wanted, yielded]; done))); (case hi => (first | kernel_rfl | (rw [qfn_size]; kernel_rfl))))
    | (refine wpList_load_rowG ?hw _ _ rfl _ rfl _ _ _ _ r3 Try.underlying23 rfl ?hi ?_; (case hw => (first | rfl | (simp [Region.wanted, yielded]; done))); (case hi => (first | kernel_rfl | (rw [qfn_size]; kernel_rfl))))
    | (go_at_call 17; with_reducible refine (A4.out _).mono ?_; rintro e w4 ⟨rfl, hb⟩; replace hB := hB.trans (hb.mono hB.size); replace p := p.below hb p.lt; replace q := q.below hb q.lt; replace r := r.below hb r.lt; replace r1 := r1.below hb r1.lt; replace r2 := r2.below hb r2.lt; replace r3 := r3.below hb r3.lt; clear hb)
    | (rw [zero_quat]; refine wpList_store_row rfl _ _ _ rfl _ rfl _ rfl _ _ (blk.new _ _ _) (by first | kernel_rfl | (rw [qfn_size]; kernel_rfl)) (by first | rfl | simp only [qfn_size]) (by first | exact qfn_one _ | rfl) ?_))
  have r4 := (blk.new w4 (qfn fun _ => 0) 23).row (qfn FB)
  replace hB := Below.setRow (hB.alloc hB.size (.cells (qfn fun _ => 0) 23)) (g := w4.heap.size) hB.size (qfn FB)
  have hne : ∀ x, x < w4.heap.size → x ≠ w4.heap.size := fun x hx => Nat.ne_of_lt hx
  replace p := (p.alloc (.cells (qfn fun _ => 0) 23)).rowOther (hne _ p.lt) (qfn FB)
  replace q := (q.alloc (.cells (qfn fun _ => 0) 23)).rowOther (hne _ q.lt) (qfn FB)
  replace r := (r.alloc (.cells (qfn fun _ => 0) 23)).rowOther (hne _ r.lt) (qfn FB)
  replace r1 := (r1.alloc (.cells (qfn fun _ => 0) 23)).rowOther (hne _ r1.lt) (qfn FB)
  replace r2 := (r2.alloc (.cells (qfn fun _ => 0) 23)).rowOther (hne _ r2.lt) (qfn FB)
  replace r3 := (r3.alloc (.cells (qfn fun _ => 0) 23)).rowOther (hne _ r3.lt) (qfn FB)
  clear hne
  generalize (w4.alloc (.cells (qfn fun _ => 0) 23)).setRow w4.heap.size (qfn FB) = w4x at *
  generalize w4.heap.size = r4_b at *
  go_wp2_with (first
    | (refine wpList_load_rowG ?hw _ _ rfl _ rfl _ _ _ _ r1 Try.underlying23 rfl ?hi ?_; (case hw => (first | rfl | (simp [Region.wanted, yielded]; done))); (case hi => (first | kernel_rfl | (rw [qfn_size]; kernel_rfl))))
    | (refine wpList_load_rowG ?hw _ _ rfl _ rfl _ _ _ _ r2 Try.underlying23 rfl ?hi ?_; (case hw => (first | rfl | (simp [Region.wanted, yielded]; done))); (case hi => (first | kernel_rfl | (rw [qfn_size]; kernel_rfl))))
    | (refine wpList_load_rowG ?hw _ _ rfl _ rfl _ _ _ _ r3 Try.underlying23 rfl ?hi ?_; (case hw => (first | rfl | (simp [Region.wanted, yielded]; done))); (case hi => (first | kernel_rfl | (rw [qfn_size]; kernel_rfl))))
    | (refine wpList_load_rowG ?hw _ _ rfl _ rfl _ _ _ _ r4 Try.underlying23 rfl ?hi ?_; (case hw => (first | rfl | (simp [Region.wanted, yielded]; done))); (case hi => (first | kernel_rfl | (rw [qfn_size]; kernel_rfl))))
    | (go_at_call 18; refine (awakeQ_any _).mono ?_; rintro e wx ⟨rfl, hb⟩; replace hB := hB.trans (hb.mono hB.size); clear hb))
  go_ret
  exact ⟨rfl, hB⟩
end Go.Proofs.Ytipnonmejifknaa
