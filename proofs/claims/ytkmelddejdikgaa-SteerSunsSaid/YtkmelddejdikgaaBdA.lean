/-
  Bodies: New.
-/
import Derived.Test.YtkmelddejdikgaaWhC
set_option linter.unusedSimpArgs false
set_option linter.unusedVariables false
namespace Go.Proofs.Ytkmelddejdikgaa
open Go.RowKit PM Dt
theorem vidx3 (f : Nat → Int) {k : Nat} (h : k < 3) (w : World) : (Instr.index 31 (.agg (vfn f)) (.int .i64 k)).run Try.prog w = .ok (.int .i64 (f k)) w := by
  obtain ⟨i, hi⟩ : ∃ i, Try.prog.info? 2 = some i := Option.isSome_iff_exists.1 (by kernel_rfl)
  exact run_index_cell (P := Try.prog) (n := 3) Try.underlying31 Try.underlying2 rfl hi (by kernel_rfl) h (vfn_get f h) w
set_option maxRecDepth 100000 in
set_option maxHeartbeats 2000000 in
theorem allowed_any (f : Nat → Int) (w : World) : Calls Try.prog 141 #[.agg (vfn f)] w fun e w' => e = .returned (.bool (allB f)) ∧ Below w.heap.size w w' := by
  go_enter Try.func141, Try.ntmps141
  go_upto_region 1 with (fail)
  have v : blk (w.alloc (.cells (vfn f) 31)) w.heap.size (vfn f) 31 := blk.new _ _ _
  have hB : Below w.heap.size w (w.alloc (.cells (vfn f) 31)) := by go_grown
  generalize (w.alloc (.cells (vfn f) 31)) = w0 at *
  go_wp2_with ((refine wpList_load_rowG ?hw _ _ rfl _ rfl _ _ _ _ v Try.underlying31 rfl ?hi ?_; (case hw => (first | rfl | (simp [Region.wanted, yielded]; done))); (case hi => (first | kernel_rfl | (rw [vfn_size]; kernel_rfl)))))
  go_loopg [6] 3 (fun g iv wr => ∃ k : Nat, g + k = 3 ∧ iv = .int .i64 k ∧ Hid (∀ j, j < k → sb 1048576 (f j) = true) ∧ blk wr w.heap.size (vfn f) 31 ∧ Below w.heap.size w wr)
  case atStart => exact ⟨0, rfl, rfl, fun j hj => by omega, v, hB⟩
  case round =>
    clear hB v
    obtain ⟨k, hk, rfl, hall, v, hB⟩ := hrel
    by_cases hkn : k < 3
    · have hdk : decide ((k : Int) < 3) = true := decide_eq_true (by omega)
      have hdk' : decide (k < 3) = true := decide_eq_true (by omega)
      have hw3 : IntKind.i64.wrap ((k : Int) + 1) = ((k + 1 : Nat) : Int) := by rw [IntKind.wrap_i64]; omega
      have hix : Hid (∀ w, (Instr.index 31 (.agg (vfn f)) (.int .i64 k)).run Try.prog w = .ok (.int .i64 (f k)) w) := fun w => vidx3 f hkn w
      by_cases h1 : -1048576 ≤ f k
      · have d1 : decide (f k < -1048576) = false := decide_eq_false (by omega)
        by_cases h2 : f k ≤ 1048576
        · have d2 : decide (1048576 < f k) = false := decide_eq_false (by omega)
          have HV := Lib.hid ((sb_iff _ _).2 ⟨h1, h2⟩)
          clear h1 h2
          go_wp2_with ((refine wpList_index ?hw _ _ _ rfl _ rfl k _ rfl rfl _ hix.out ?_; (case hw => (first | rfl | (simp [Region.wanted, yielded]; done)))))
          go_roundg (3 - (k + 1))
          case rel =>
            refine ⟨k + 1, by omega, rfl, fun j hj => ?_, v, hB⟩
            by_cases e : j = k
            · subst e; exact HV.out
            · exact hall.out j (by omega)
          case measure => omega
        · have d2 : decide (1048576 < f k) = true := decide_eq_true (by omega)
          have HV := Lib.hid (show allB f = false from by unfold allB; rw [smallB_no hkn (by omega)]; rfl)
          clear h1 h2
          go_wp2_with ((refine wpList_index ?hw _ _ _ rfl _ rfl k _ rfl rfl _ hix.out ?_; (case hw => (first | rfl | (simp [Region.wanted, yielded]; done)))))
          go_ret
          exact ⟨by rw [HV.out]; rfl, hB⟩
      · have d1 : decide (f k < -1048576) = true := decide_eq_true (by omega)
        have HV := Lib.hid (show allB f = false from by unfold allB; rw [smallB_no hkn (by omega)]; rfl)
        clear h1
        go_wp2_with ((refine wpList_index ?hw _ _ _ rfl _ rfl k _ rfl rfl _ hix.out ?_; (case hw => (first | rfl | (simp [Region.wanted, yielded]; done)))))
        go_ret
        exact ⟨by rw [HV.out]; rfl, hB⟩
    · obtain rfl : k = 3 := by omega
      have hsm := (smallB_iff f 1048576).2 hall.out
      have b0 := (sb_iff _ _).1 (hall.out 0 (by omega))
      have b1 := (sb_iff _ _).1 (hall.out 1 (by omega))
      have b2 := (sb_iff _ _).1 (hall.out 2 (by omega))
      have q0 := (bmul (P := 1048576) (R := 1048576) b0.1 b0.2 b0.1 b0.2)
      have q1 := (bmul (P := 1048576) (R := 1048576) b1.1 b1.2 b1.1 b1.2)
      have q2 := (bmul (P := 1048576) (R := 1048576) b2.1 b2.2 b2.1 b2.2)
      have e0 : IntKind.i64.wrap (f 0 * f 0) = f 0 * f 0 := by rw [IntKind.wrap_i64]; omega
      have e1 : IntKind.i64.wrap (f 1 * f 1) = f 1 * f 1 := by rw [IntKind.wrap_i64]; omega
      have e2 : IntKind.i64.wrap (f 2 * f 2) = f 2 * f 2 := by rw [IntKind.wrap_i64]; omega
      have e3 : IntKind.i64.wrap (f 0 * f 0 + f 1 * f 1) = f 0 * f 0 + f 1 * f 1 := by rw [IntKind.wrap_i64]; omega
      have e4 : IntKind.i64.wrap (f 0 * f 0 + f 1 * f 1 + f 2 * f 2) = sqV f := by rw [IntKind.wrap_i64]; unfold sqV; omega
      have HV := Lib.hid (show allB f = decide (sqV f ≤ 1099511627776) from by unfold allB; rw [hsm, Bool.true_and])
      have c0 : wr.cell? ⟨w.heap.size, 0, none⟩ = some (.int .i64 (f 0)) := v.cellIs (vfn_get _ (by omega))
      have c1 : wr.cell? ⟨w.heap.size, 1, none⟩ = some (.int .i64 (f 1)) := v.cellIs (vfn_get _ (by omega))
      have c2 : wr.cell? ⟨w.heap.size, 2, none⟩ = some (.int .i64 (f 2)) := v.cellIs (vfn_get _ (by omega))
      clear hsm b0 b1 b2 q0 q1 q2 hall
      go_wp2_with (fail)
      go_ret
      exact ⟨by rw [HV.out]; rfl, hB⟩
set_option maxRecDepth 100000 in
set_option maxHeartbeats 2000000 in
theorem bnone_any (Q T : Nat → Int) (s b : Nat) (w : World) (hg : blk w b (bdc (Q, T, s)) 158) : Calls Try.prog 98 #[.pointer (some ⟨b, 0, none⟩)] w fun e w' => e = .returned (.bool false) ∧ w = w' := by
  have hc : w.cell? ⟨b, 7, none⟩ = some (.pointer (some ⟨s, 0, none⟩)) := hg.cellIs rfl
  clear hg
  go_enter Try.func98, Try.ntmps98
  go_wp2_with (fail)
  go_ret
  exact ⟨rfl, rfl⟩
set_option maxRecDepth 100000 in
set_option maxHeartbeats 2000000 in
theorem bnew_no1 (Q T h : Nat → Int) (f : Int) (w : World) (hQ : ∀ i, i < 4 → I64 (Q i)) (hn : newB h f = false) (hv : validQ Q = false) : Calls Try.prog 83 #[.agg (qfn Q), .agg (vfn T), .agg (qfn h), .int .i64 f] w fun e w' => e = .returned (.tuple #[.pointer none, .int .i64 2]) ∧ Below w.heap.size w w' := by
  have VA := Lib.hid (fun w => qvalid_any Q w hQ)
  clear hQ
  rw [hv] at VA
  have AL := Lib.hid (fun w => allowed_any T w)
  have WN := Lib.hid (fun w => wnew_no h f w hn)
  go_enter Try.func83, Try.ntmps83
  go_upto_region 1 with (fail)
  have q : blk (((w.alloc (.cells (qfn Q) 23)).alloc (.cells (vfn T) 31)).alloc (.cells (qfn h) 22)) w.heap.size (qfn Q) 23 := ((blk.new _ _ _).alloc _).alloc _
  have t : blk (((w.alloc (.cells (qfn Q) 23)).alloc (.cells (vfn T) 31)).alloc (.cells (qfn h) 22)) (w.heap.size + 1) (vfn T) 31 := (blk.new' (by simp)).alloc _
  have u : blk (((w.alloc (.cells (qfn Q) 23)).alloc (.cells (vfn T) 31)).alloc (.cells (qfn h) 22)) (w.heap.size + 2) (qfn h) 22 := blk.new' (by simp)
  have hB : Below w.heap.size w (((w.alloc (.cells (qfn Q) 23)).alloc (.cells (vfn T) 31)).alloc (.cells (qfn h) 22)) := by go_grown
  generalize (((w.alloc (.cells (qfn Q) 23)).alloc (.cells (vfn T) 31)).alloc (.cells (qfn h) 22)) = w0 at *
  go_wp2_with (first
    | (refine wpList_load_rowG ?hw _ _ rfl _ rfl _ _ _ _ q Try.underlying23 rfl ?hi ?_; (case hw => (first | rfl | (simp [Region.wanted, yielded]; done))); (case hi => (first | kernel_rfl | (rw [qfn_size]; kernel_rfl))))
    | (refine wpList_load_rowG ?hw _ _ rfl _ rfl _ _ _ _ t Try.underlying31 rfl ?hi ?_; (case hw => (first | rfl | (simp [Region.wanted, yielded]; done))); (case hi => (first | kernel_rfl | (rw [vfn_size]; kernel_rfl))))
    | (refine wpList_load_rowG ?hw _ _ rfl _ rfl _ _ _ _ u Try.underlying22 rfl ?hi ?_; (case hw => (first | rfl | (simp [Region.wanted, yielded]; done))); (case hi => (first | kernel_rfl | (rw [qfn_size]; kernel_rfl))))
    | (go_at_call 140; with_reducible refine (WN.out _).mono ?_; rintro e w1 ⟨rfl, hb⟩; replace hB := hB.trans (hb.mono hB.size); replace q := q.below hb q.lt; replace t := t.below hb t.lt; replace u := u.below hb u.lt; clear hb)
    | (go_at_call 33; with_reducible refine (VA.out _).mono ?_; rintro e w2 ⟨rfl, hb⟩; replace hB := hB.trans (hb.mono hB.size); replace q := q.below hb q.lt; replace t := t.below hb t.lt; replace u := u.below hb u.lt; clear hb)
    | (go_at_call 141; with_reducible refine (AL.out _).mono ?_; rintro e w3 ⟨rfl, hb⟩; replace hB := hB.trans (hb.mono hB.size); replace q := q.below hb q.lt; replace t := t.below hb t.lt; replace u := u.below hb u.lt; clear hb))
  go_ret2
  exact ⟨rfl, hB⟩
set_option maxRecDepth 100000 in
set_option maxHeartbeats 2000000 in
theorem bnew_no2 (Q T h : Nat → Int) (f : Int) (w : World) (hQ : ∀ i, i < 4 → I64 (Q i)) (hn : newB h f = false) (hv : validQ Q = true) (ha : allB T = false) : Calls Try.prog 83 #[.agg (qfn Q), .agg (vfn T), .agg (qfn h), .int .i64 f] w fun e w' => e = .returned (.tuple #[.pointer none, .int .i64 2]) ∧ Below w.heap.size w w' := by
  have VA := Lib.hid (fun w => qvalid_any Q w hQ)
  clear hQ
  rw [hv] at VA
  have AL := Lib.hid (fun w => allowed_any T w)
  rw [ha] at AL
  have WN := Lib.hid (fun w => wnew_no h f w hn)
  go_enter Try.func83, Try.ntmps83
  go_upto_region 1 with (fail)
  have q : blk (((w.alloc (.cells (qfn Q) 23)).alloc (.cells (vfn T) 31)).alloc (.cells (qfn h) 22)) w.heap.size (qfn Q) 23 := ((blk.new _ _ _).alloc _).alloc _
  have t : blk (((w.alloc (.cells (qfn Q) 23)).alloc (.cells (vfn T) 31)).alloc (.cells (qfn h) 22)) (w.heap.size + 1) (vfn T) 31 := (blk.new' (by simp)).alloc _
  have u : blk (((w.alloc (.cells (qfn Q) 23)).alloc (.cells (vfn T) 31)).alloc (.cells (qfn h) 22)) (w.heap.size + 2) (qfn h) 22 := blk.new' (by simp)
  have hB : Below w.heap.size w (((w.alloc (.cells (qfn Q) 23)).alloc (.cells (vfn T) 31)).alloc (.cells (qfn h) 22)) := by go_grown
  generalize (((w.alloc (.cells (qfn Q) 23)).alloc (.cells (vfn T) 31)).alloc (.cells (qfn h) 22)) = w0 at *
  go_wp2_with (first
    | (refine wpList_load_rowG ?hw _ _ rfl _ rfl _ _ _ _ q Try.underlying23 rfl ?hi ?_; (case hw => (first | rfl | (simp [Region.wanted, yielded]; done))); (case hi => (first | kernel_rfl | (rw [qfn_size]; kernel_rfl))))
    | (refine wpList_load_rowG ?hw _ _ rfl _ rfl _ _ _ _ t Try.underlying31 rfl ?hi ?_; (case hw => (first | rfl | (simp [Region.wanted, yielded]; done))); (case hi => (first | kernel_rfl | (rw [vfn_size]; kernel_rfl))))
    | (refine wpList_load_rowG ?hw _ _ rfl _ rfl _ _ _ _ u Try.underlying22 rfl ?hi ?_; (case hw => (first | rfl | (simp [Region.wanted, yielded]; done))); (case hi => (first | kernel_rfl | (rw [qfn_size]; kernel_rfl))))
    | (go_at_call 140; with_reducible refine (WN.out _).mono ?_; rintro e w1 ⟨rfl, hb⟩; replace hB := hB.trans (hb.mono hB.size); replace q := q.below hb q.lt; replace t := t.below hb t.lt; replace u := u.below hb u.lt; clear hb)
    | (go_at_call 33; with_reducible refine (VA.out _).mono ?_; rintro e w2 ⟨rfl, hb⟩; replace hB := hB.trans (hb.mono hB.size); replace q := q.below hb q.lt; replace t := t.below hb t.lt; replace u := u.below hb u.lt; clear hb)
    | (go_at_call 141; with_reducible refine (AL.out _).mono ?_; rintro e w3 ⟨rfl, hb⟩; replace hB := hB.trans (hb.mono hB.size); replace q := q.below hb q.lt; replace t := t.below hb t.lt; replace u := u.below hb u.lt; clear hb))
  go_ret2
  exact ⟨rfl, hB⟩
set_option maxRecDepth 100000 in
set_option maxHeartbeats 2000000 in
theorem bnew_no3 (Q T h : Nat → Int) (f : Int) (w : World) (hQ : ∀ i, i < 4 → I64 (Q i)) (hn : newB h f = false) (hv : validQ Q = true) (ha : allB T = true) : Calls Try.prog 83 #[.agg (qfn Q), .agg (vfn T), .agg (qfn h), .int .i64 f] w fun e w' => e = .returned (.tuple #[.pointer none, .int .i64 2]) ∧ Below w.heap.size w w' := by
  have VA := Lib.hid (fun w => qvalid_any Q w hQ)
  clear hQ
  rw [hv] at VA
  have AL := Lib.hid (fun w => allowed_any T w)
  rw [ha] at AL
  have WN := Lib.hid (fun w => wnew_no h f w hn)
  go_enter Try.func83, Try.ntmps83
  go_upto_region 1 with (fail)
  have q : blk (((w.alloc (.cells (qfn Q) 23)).alloc (.cells (vfn T) 31)).alloc (.cells (qfn h) 22)) w.heap.size (qfn Q) 23 := ((blk.new _ _ _).alloc _).alloc _
  have t : blk (((w.alloc (.cells (qfn Q) 23)).alloc (.cells (vfn T) 31)).alloc (.cells (qfn h) 22)) (w.heap.size + 1) (vfn T) 31 := (blk.new' (by simp)).alloc _
  have u : blk (((w.alloc (.cells (qfn Q) 23)).alloc (.cells (vfn T) 31)).alloc (.cells (qfn h) 22)) (w.heap.size + 2) (qfn h) 22 := blk.new' (by simp)
  have hB : Below w.heap.size w (((w.alloc (.cells (qfn Q) 23)).alloc (.cells (vfn T) 31)).alloc (.cells (qfn h) 22)) := by go_grown
  generalize (((w.alloc (.cells (qfn Q) 23)).alloc (.cells (vfn T) 31)).alloc (.cells (qfn h) 22)) = w0 at *
  go_wp2_with (first
    | (refine wpList_load_rowG ?hw _ _ rfl _ rfl _ _ _ _ q Try.underlying23 rfl ?hi ?_; (case hw => (first | rfl | (simp [Region.wanted, yielded]; done))); (case hi => (first | kernel_rfl | (rw [qfn_size]; kernel_rfl))))
    | (refine wpList_load_rowG ?hw _ _ rfl _ rfl _ _ _ _ t Try.underlying31 rfl ?hi ?_; (case hw => (first | rfl | (simp [Region.wanted, yielded]; done))); (case hi => (first | kernel_rfl | (rw [vfn_size]; kernel_rfl))))
    | (refine wpList_load_rowG ?hw _ _ rfl _ rfl _ _ _ _ u Try.underlying22 rfl ?hi ?_; (case hw => (first | rfl | (simp [Region.wanted, yielded]; done))); (case hi => (first | kernel_rfl | (rw [qfn_size]; kernel_rfl))))
    | (go_at_call 140; with_reducible refine (WN.out _).mono ?_; rintro e w1 ⟨rfl, hb⟩; replace hB := hB.trans (hb.mono hB.size); replace q := q.below hb q.lt; replace t := t.below hb t.lt; replace u := u.below hb u.lt; clear hb)
    | (go_at_call 33; with_reducible refine (VA.out _).mono ?_; rintro e w2 ⟨rfl, hb⟩; replace hB := hB.trans (hb.mono hB.size); replace q := q.below hb q.lt; replace t := t.below hb t.lt; replace u := u.below hb u.lt; clear hb)
    | (go_at_call 141; with_reducible refine (AL.out _).mono ?_; rintro e w3 ⟨rfl, hb⟩; replace hB := hB.trans (hb.mono hB.size); replace q := q.below hb q.lt; replace t := t.below hb t.lt; replace u := u.below hb u.lt; clear hb))
  go_ret2
  exact ⟨rfl, hB⟩
set_option maxRecDepth 100000 in
set_option maxHeartbeats 2000000 in
theorem bnew_ok1 (Q T h : Nat → Int) (f : Int) (w : World) (hQ : ∀ i, i < 4 → I64 (Q i)) (hn : newB h f = true) (hv : validQ Q = false) : Calls Try.prog 83 #[.agg (qfn Q), .agg (vfn T), .agg (qfn h), .int .i64 f] w fun e w' => e = .returned (.tuple #[.pointer none, .int .i64 2]) ∧ Below w.heap.size w w' := by
  have VA := Lib.hid (fun w => qvalid_any Q w hQ)
  clear hQ
  rw [hv] at VA
  have AL := Lib.hid (fun w => allowed_any T w)
  have WN := Lib.hid (fun w => wnew_ok h f w hn)
  go_enter Try.func83, Try.ntmps83
  go_upto_region 1 with (fail)
  have q : blk (((w.alloc (.cells (qfn Q) 23)).alloc (.cells (vfn T) 31)).alloc (.cells (qfn h) 22)) w.heap.size (qfn Q) 23 := ((blk.new _ _ _).alloc _).alloc _
  have t : blk (((w.alloc (.cells (qfn Q) 23)).alloc (.cells (vfn T) 31)).alloc (.cells (qfn h) 22)) (w.heap.size + 1) (vfn T) 31 := (blk.new' (by simp)).alloc _
  have u : blk (((w.alloc (.cells (qfn Q) 23)).alloc (.cells (vfn T) 31)).alloc (.cells (qfn h) 22)) (w.heap.size + 2) (qfn h) 22 := blk.new' (by simp)
  have hB : Below w.heap.size w (((w.alloc (.cells (qfn Q) 23)).alloc (.cells (vfn T) 31)).alloc (.cells (qfn h) 22)) := by go_grown
  generalize (((w.alloc (.cells (qfn Q) 23)).alloc (.cells (vfn T) 31)).alloc (.cells (qfn h) 22)) = w0 at *
  go_wp2_with (first
    | (refine wpList_load_rowG ?hw _ _ rfl _ rfl _ _ _ _ q Try.underlying23 rfl ?hi ?_; (case hw => (first | rfl | (simp [Region.wanted, yielded]; done))); (case hi => (first | kernel_rfl | (rw [qfn_size]; kernel_rfl))))
    | (refine wpList_load_rowG ?hw _ _ rfl _ rfl _ _ _ _ t Try.underlying31 rfl ?hi ?_; (case hw => (first | rfl | (simp [Region.wanted, yielded]; done))); (case hi => (first | kernel_rfl | (rw [vfn_size]; kernel_rfl))))
    | (refine wpList_load_rowG ?hw _ _ rfl _ rfl _ _ _ _ u Try.underlying22 rfl ?hi ?_; (case hw => (first | rfl | (simp [Region.wanted, yielded]; done))); (case hi => (first | kernel_rfl | (rw [qfn_size]; kernel_rfl))))
    | (go_at_call 33; with_reducible refine (VA.out _).mono ?_; rintro e w2 ⟨rfl, hb⟩; replace hB := hB.trans (hb.mono hB.size); replace q := q.below hb q.lt; replace t := t.below hb t.lt; replace u := u.below hb u.lt; clear hb)
    | (go_at_call 141; with_reducible refine (AL.out _).mono ?_; rintro e w3 ⟨rfl, hb⟩; replace hB := hB.trans (hb.mono hB.size); replace q := q.below hb q.lt; replace t := t.below hb t.lt; replace u := u.below hb u.lt; clear hb)
    | (go_at_call 140; with_reducible refine (WN.out _).mono ?_; rintro e w1 ⟨sb, rfl, g, hle, hb⟩; replace hB := hB.trans (hb.mono hB.size); replace q := q.below hb q.lt; replace t := t.below hb t.lt; replace u := u.below hb u.lt; clear hb))
  go_ret2
  exact ⟨rfl, hB⟩
set_option maxRecDepth 100000 in
set_option maxHeartbeats 2000000 in
theorem bnew_ok2 (Q T h : Nat → Int) (f : Int) (w : World) (hQ : ∀ i, i < 4 → I64 (Q i)) (hn : newB h f = true) (hv : validQ Q = true) (ha : allB T = false) : Calls Try.prog 83 #[.agg (qfn Q), .agg (vfn T), .agg (qfn h), .int .i64 f] w fun e w' => e = .returned (.tuple #[.pointer none, .int .i64 2]) ∧ Below w.heap.size w w' := by
  have VA := Lib.hid (fun w => qvalid_any Q w hQ)
  clear hQ
  rw [hv] at VA
  have AL := Lib.hid (fun w => allowed_any T w)
  rw [ha] at AL
  have WN := Lib.hid (fun w => wnew_ok h f w hn)
  go_enter Try.func83, Try.ntmps83
  go_upto_region 1 with (fail)
  have q : blk (((w.alloc (.cells (qfn Q) 23)).alloc (.cells (vfn T) 31)).alloc (.cells (qfn h) 22)) w.heap.size (qfn Q) 23 := ((blk.new _ _ _).alloc _).alloc _
  have t : blk (((w.alloc (.cells (qfn Q) 23)).alloc (.cells (vfn T) 31)).alloc (.cells (qfn h) 22)) (w.heap.size + 1) (vfn T) 31 := (blk.new' (by simp)).alloc _
  have u : blk (((w.alloc (.cells (qfn Q) 23)).alloc (.cells (vfn T) 31)).alloc (.cells (qfn h) 22)) (w.heap.size + 2) (qfn h) 22 := blk.new' (by simp)
  have hB : Below w.heap.size w (((w.alloc (.cells (qfn Q) 23)).alloc (.cells (vfn T) 31)).alloc (.cells (qfn h) 22)) := by go_grown
  generalize (((w.alloc (.cells (qfn Q) 23)).alloc (.cells (vfn T) 31)).alloc (.cells (qfn h) 22)) = w0 at *
  go_wp2_with (first
    | (refine wpList_load_rowG ?hw _ _ rfl _ rfl _ _ _ _ q Try.underlying23 rfl ?hi ?_; (case hw => (first | rfl | (simp [Region.wanted, yielded]; done))); (case hi => (first | kernel_rfl | (rw [qfn_size]; kernel_rfl))))
    | (refine wpList_load_rowG ?hw _ _ rfl _ rfl _ _ _ _ t Try.underlying31 rfl ?hi ?_; (case hw => (first | rfl | (simp [Region.wanted, yielded]; done))); (case hi => (first | kernel_rfl | (rw [vfn_size]; kernel_rfl))))
    | (refine wpList_load_rowG ?hw _ _ rfl _ rfl _ _ _ _ u Try.underlying22 rfl ?hi ?_; (case hw => (first | rfl | (simp [Region.wanted, yielded]; done))); (case hi => (first | kernel_rfl | (rw [qfn_size]; kernel_rfl))))
    | (go_at_call 33; with_reducible refine (VA.out _).mono ?_; rintro e w2 ⟨rfl, hb⟩; replace hB := hB.trans (hb.mono hB.size); replace q := q.below hb q.lt; replace t := t.below hb t.lt; replace u := u.below hb u.lt; clear hb)
    | (go_at_call 141; with_reducible refine (AL.out _).mono ?_; rintro e w3 ⟨rfl, hb⟩; replace hB := hB.trans (hb.mono hB.size); replace q := q.below hb q.lt; replace t := t.below hb t.lt; replace u := u.below hb u.lt; clear hb)
    | (go_at_call 140; with_reducible refine (WN.out _).mono ?_; rintro e w1 ⟨sb, rfl, g, hle, hb⟩; replace hB := hB.trans (hb.mono hB.size); replace q := q.below hb q.lt; replace t := t.below hb t.lt; replace u := u.below hb u.lt; clear hb))
  go_ret2
  exact ⟨rfl, hB⟩
set_option maxRecDepth 100000 in
set_option maxHeartbeats 2000000 in
theorem bnew_ok (Q T h : Nat → Int) (f : Int) (w : World) (hQ : ∀ i, i < 4 → I64 (Q i)) (hn : newB h f = true) (hv : validQ Q = true) (ha : allB T = true) : Calls Try.prog 83 #[.agg (qfn Q), .agg (vfn T), .agg (qfn h), .int .i64 f] w fun e w' => ∃ b, e = .returned (.tuple #[.pointer (some ⟨b, 0, none⟩), .int .i64 0]) ∧ bod w.heap.size b w' ⟨Q, T, h, f⟩ ∧ Below w.heap.size w w' := by
  have VA := Lib.hid (fun w => qvalid_any Q w hQ)
  clear hQ
  rw [hv] at VA
  have AL := Lib.hid (fun w => allowed_any T w)
  rw [ha] at AL
  have WN := Lib.hid (fun w => wnew_ok h f w hn)
  go_enter Try.func83, Try.ntmps83
  go_upto_region 1 with (fail)
  have q : blk (((w.alloc (.cells (qfn Q) 23)).alloc (.cells (vfn T) 31)).alloc (.cells (qfn h) 22)) w.heap.size (qfn Q) 23 := ((blk.new _ _ _).alloc _).alloc _
  have t : blk (((w.alloc (.cells (qfn Q) 23)).alloc (.cells (vfn T) 31)).alloc (.cells (qfn h) 22)) (w.heap.size + 1) (vfn T) 31 := (blk.new' (by simp)).alloc _
  have u : blk (((w.alloc (.cells (qfn Q) 23)).alloc (.cells (vfn T) 31)).alloc (.cells (qfn h) 22)) (w.heap.size + 2) (qfn h) 22 := blk.new' (by simp)
  have hB : Below w.heap.size w (((w.alloc (.cells (qfn Q) 23)).alloc (.cells (vfn T) 31)).alloc (.cells (qfn h) 22)) := by go_grown
  generalize (((w.alloc (.cells (qfn Q) 23)).alloc (.cells (vfn T) 31)).alloc (.cells (qfn h) 22)) = w0 at *
  have hl0 := hB.size
  go_upto_region 2 with (first
    | (refine wpList_load_rowG ?hw _ _ rfl _ rfl _ _ _ _ q Try.underlying23 rfl ?hi ?_; (case hw => (first | rfl | (simp [Region.wanted, yielded]; done))); (case hi => (first | kernel_rfl | (rw [qfn_size]; kernel_rfl))))
    | (refine wpList_load_rowG ?hw _ _ rfl _ rfl _ _ _ _ t Try.underlying31 rfl ?hi ?_; (case hw => (first | rfl | (simp [Region.wanted, yielded]; done))); (case hi => (first | kernel_rfl | (rw [vfn_size]; kernel_rfl))))
    | (refine wpList_load_rowG ?hw _ _ rfl _ rfl _ _ _ _ u Try.underlying22 rfl ?hi ?_; (case hw => (first | rfl | (simp [Region.wanted, yielded]; done))); (case hi => (first | kernel_rfl | (rw [qfn_size]; kernel_rfl))))
    | (go_at_call 140; with_reducible refine (WN.out _).mono ?_; rintro e w1 ⟨sb, rfl, g, hle, hb⟩; replace hB := hB.trans (hb.mono hB.size); replace q := q.below hb q.lt; replace t := t.below hb t.lt; replace u := u.below hb u.lt; clear hb; have hlo := Nat.le_trans hB.size (Nat.le_refl _); replace hle : w.heap.size ≤ sb := Nat.le_trans (Nat.le_trans hl0 (Nat.le_refl _)) hle))
  go_upto_region 4 with (first
    | (refine wpList_load_rowG ?hw _ _ rfl _ rfl _ _ _ _ q Try.underlying23 rfl ?hi ?_; (case hw => (first | rfl | (simp [Region.wanted, yielded]; done))); (case hi => (first | kernel_rfl | (rw [qfn_size]; kernel_rfl))))
    | (refine wpList_load_rowG ?hw _ _ rfl _ rfl _ _ _ _ t Try.underlying31 rfl ?hi ?_; (case hw => (first | rfl | (simp [Region.wanted, yielded]; done))); (case hi => (first | kernel_rfl | (rw [vfn_size]; kernel_rfl))))
    | (refine wpList_load_rowG ?hw _ _ rfl _ rfl _ _ _ _ u Try.underlying22 rfl ?hi ?_; (case hw => (first | rfl | (simp [Region.wanted, yielded]; done))); (case hi => (first | kernel_rfl | (rw [qfn_size]; kernel_rfl))))
    | (go_at_call 33; with_reducible refine (VA.out _).mono ?_; rintro e w2 ⟨rfl, hb⟩; replace hB := hB.trans (hb.mono hB.size); replace q := q.below hb q.lt; replace t := t.below hb t.lt; replace u := u.below hb u.lt; replace g := g.below hb g.lt; clear hb)
    | (go_at_call 141; with_reducible refine (AL.out _).mono ?_; rintro e w3 ⟨rfl, hb⟩; replace hB := hB.trans (hb.mono hB.size); replace q := q.below hb q.lt; replace t := t.below hb t.lt; replace u := u.below hb u.lt; replace g := g.below hb g.lt; clear hb))
  have gl := g.lt
  unfold qfn at q
  unfold vfn at t
  go_wp2_with (first
    | (refine wpList_load_rowG ?hw _ _ rfl _ rfl _ _ _ _ q Try.underlying23 rfl ?hi ?_; (case hw => (first | rfl | (simp [Region.wanted, yielded]; done))); (case hi => (first | kernel_rfl | (rw [qfn_size]; kernel_rfl))))
    | (refine wpList_load_rowG ?hw _ _ rfl _ rfl _ _ _ _ t Try.underlying31 rfl ?hi ?_; (case hw => (first | rfl | (simp [Region.wanted, yielded]; done))); (case hi => (first | kernel_rfl | (rw [vfn_size]; kernel_rfl)))))
  rw [show #[Value.int .i64 (Q 0), .int .i64 (Q 1), .int .i64 (Q 2), .int .i64 (Q 3), .int .i64 (T 0), .int .i64 (T 1), .int .i64 (T 2), .pointer (some ⟨sb, 0, none⟩)] = bdc (Q, T, sb) from rfl]
  go_ret2
  exact ⟨w3.heap.size, rfl, ⟨sb, hle, gl, blk.new _ _ _, g.alloc _⟩, hB.alloc hB.size _⟩
def newOk (X : BSt) : Bool := newB X.h X.f && (validQ X.Q && allB X.T)
theorem bnew_no (X : BSt) (w : World) (hQ : ∀ i, i < 4 → I64 (X.Q i)) (h : newOk X = false) : Calls Try.prog 83 #[.agg (qfn X.Q), .agg (vfn X.T), .agg (qfn X.h), .int .i64 X.f] w fun e w' => e = .returned (.tuple #[.pointer none, .int .i64 2]) ∧ Below w.heap.size w w' := by
  unfold newOk at h
  cases hn : newB X.h X.f <;> cases hv : validQ X.Q <;> cases ha : allB X.T
  case true.true.true => rw [hn, hv, ha] at h; cases h
  all_goals first | exact bnew_no1 _ _ _ _ w hQ hn hv | exact bnew_ok1 _ _ _ _ w hQ hn hv | exact bnew_no2 _ _ _ _ w hQ hn hv ha | exact bnew_ok2 _ _ _ _ w hQ hn hv ha | exact bnew_no3 _ _ _ _ w hQ hn hv ha
theorem bnew_yes (X : BSt) (w : World) (hQ : ∀ i, i < 4 → I64 (X.Q i)) (h : newOk X = true) : Calls Try.prog 83 #[.agg (qfn X.Q), .agg (vfn X.T), .agg (qfn X.h), .int .i64 X.f] w fun e w' => ∃ b, e = .returned (.tuple #[.pointer (some ⟨b, 0, none⟩), .int .i64 0]) ∧ bod w.heap.size b w' X ∧ Below w.heap.size w w' := by
  simp only [newOk, Bool.and_eq_true] at h
  exact bnew_ok X.Q X.T X.h X.f w hQ h.1 h.2.1 h.2.2
theorem newOk_BI {X : BSt} (hQ : ∀ i, i < 4 → I64 (X.Q i)) (h : newOk X = true) : BI X := by
  simp only [newOk, Bool.and_eq_true] at h
  exact ⟨hQ, h.2.1, h.2.2, (newB_SI h.1).1⟩
end Go.Proofs.Ytkmelddejdikgaa
