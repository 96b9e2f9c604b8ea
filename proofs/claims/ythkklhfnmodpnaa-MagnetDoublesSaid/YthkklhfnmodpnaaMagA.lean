/-
  Vectors within a bound, and what it is that one is a field, in the package and in its specification; torques.
-/
import Derived.Test.YthkklhfnmodpnaaVecG
import Derived.Test.YthkklhfnmodpnaaIdx
set_option linter.unusedSimpArgs false
set_option linter.unusedVariables false
namespace Go.Proofs.Ythkklhfnmodpnaa
open Go.RowKit PM Dt
theorem vidx (f : Nat → Int) {k : Nat} (h : k < 3) (w : World) : (Instr.index 23 (.agg (vfn f)) (.int .i64 k)).run Try.prog w = .ok (.int .i64 (f k)) w := by
  obtain ⟨i, hi⟩ : ∃ i, Try.prog.info? 2 = some i := Option.isSome_iff_exists.1 (by kernel_rfl)
  exact run_index_cell (P := Try.prog) (n := 3) Try.underlying23 Try.underlying2 rfl hi (by kernel_rfl) h (vfn_get f h) w
set_option maxRecDepth 100000 in
set_option maxHeartbeats 2000000 in
theorem mwithin_any (f : Nat → Int) (m : Int) (w : World) (h0 : 0 ≤ m) (hm : m ≤ 4398046511104) : Calls Try.prog 77 #[.agg (vfn f), .int .i64 m] w fun e w' => e = .returned (.bool (smallB f m)) ∧ Below w.heap.size w w' := by
  have hwm : wrap64 (-m) = -m := by unfold wrap64; omega
  clear h0 hm
  go_enter Try.func77, Try.ntmps77
  have p0 := blk.new w (vfn f) 23
  go_wp2_with ((refine wpList_load_rowG ?hw _ _ rfl _ rfl _ _ _ _ p0 Try.underlying23 rfl ?hi ?_; (case hw => (first | rfl | (simp [Region.wanted, yielded]; done))); (case hi => (rw [vfn_size]; kernel_rfl))))
  have hB0 : Below w.heap.size w (w.alloc (.cells (vfn f) 23)) := by go_grown
  clear p0
  generalize w.alloc (.cells (vfn f) 23) = w0 at *
  go_loopg [8] 3 (fun g iv wr => ∃ k : Nat, g + k = 3 ∧ iv = .int .i64 k ∧ Hid (∀ j, j < k → sb m (f j) = true) ∧ Below w.heap.size w wr)
  case atStart => exact ⟨0, rfl, rfl, fun j hj => by omega, hB0⟩
  case round =>
    clear hB0
    obtain ⟨k, hk, rfl, hall, hB⟩ := hrel
    by_cases hkn : k < 3
    · have hdk : decide ((k : Int) < 3) = true := decide_eq_true (by omega)
      have hdk' : decide (k < 3) = true := decide_eq_true (by omega)
      have hw3 : IntKind.i64.wrap ((k : Int) + 1) = ((k + 1 : Nat) : Int) := by rw [IntKind.wrap_i64]; omega
      have hix : Hid (∀ w, (Instr.index 23 (.agg (vfn f)) (.int .i64 k)).run Try.prog w = .ok (.int .i64 (f k)) w) := fun w => vidx f hkn w
      by_cases h1 : -m ≤ f k
      · have d1 : decide (f k < -m) = false := decide_eq_false (by omega)
        by_cases h2 : f k ≤ m
        · have d2 : decide (m < f k) = false := decide_eq_false (by omega)
          have HV := Lib.hid ((sb_iff _ _).2 ⟨h1, h2⟩)
          clear h1 h2
          go_wp2_with ((refine wpList_index ?hw _ _ _ rfl _ rfl k _ rfl rfl _ hix.out ?_; (case hw => (first | rfl | (simp [Region.wanted, yielded]; done)))))
          go_roundg (3 - (k + 1))
          case rel =>
            refine ⟨k + 1, by omega, rfl, fun j hj => ?_, hB⟩
            by_cases e : j = k
            · subst e; exact HV.out
            · exact hall.out j (by omega)
          case measure => omega
        · have d2 : decide (m < f k) = true := decide_eq_true (by omega)
          have HV := Lib.hid (show smallB f m = false from smallB_no hkn (by omega))
          clear h1 h2
          go_wp2_with ((refine wpList_index ?hw _ _ _ rfl _ rfl k _ rfl rfl _ hix.out ?_; (case hw => (first | rfl | (simp [Region.wanted, yielded]; done)))))
          go_ret
          exact ⟨by rw [HV.out]; rfl, hB⟩
      · have d1 : decide (f k < -m) = true := decide_eq_true (by omega)
        have HV := Lib.hid (show smallB f m = false from smallB_no hkn (by omega))
        clear h1
        go_wp2_with ((refine wpList_index ?hw _ _ _ rfl _ rfl k _ rfl rfl _ hix.out ?_; (case hw => (first | rfl | (simp [Region.wanted, yielded]; done)))))
        go_ret
        exact ⟨by rw [HV.out]; rfl, hB⟩
    · obtain rfl : k = 3 := by omega
      have HV := Lib.hid ((smallB_iff f m).2 hall.out)
      go_wp2_with (fail)
      go_ret
      exact ⟨by rw [HV.out]; rfl, hB⟩
set_option maxRecDepth 100000 in
set_option maxHeartbeats 1000000 in
theorem isField_any (f : Nat → Int) (w : World) : Calls Try.prog 78 #[.agg (vfn f)] w fun e w' => e = .returned (.bool (smallB f 4294967296)) ∧ Below w.heap.size w w' := by
  have V := Lib.hid (fun w => mwithin_any f 4294967296 w (by omega) (by omega))
  generalize smallB f 4294967296 = bf at *
  go_enter Try.func78, Try.ntmps78
  go_upto_region 1 with (fail)
  have p : blk (w.alloc (.cells (vfn f) 23)) w.heap.size (vfn f) 23 := blk.new _ _ _
  have hB : Below w.heap.size w (w.alloc (.cells (vfn f) 23)) := by go_grown
  generalize w.alloc (.cells (vfn f) 23) = w0 at *
  go_wp2_with (first | (refine wpList_load_rowG ?hw _ _ rfl _ rfl _ _ _ _ p Try.underlying23 rfl ?hi ?_; (case hw => (first | rfl | (simp [Region.wanted, yielded]; done))); (case hi => (rw [vfn_size]; kernel_rfl))) | (go_at_call 77; refine (V.out _).mono ?_; rintro e w1 ⟨rfl, hb⟩; replace hB := hB.trans (hb.mono hB.size); clear hb))
  go_ret
  exact ⟨rfl, hB⟩
set_option maxRecDepth 100000 in
set_option maxHeartbeats 2000000 in
theorem rmwithin_any (f : Nat → Int) (m : Int) (w : World) (h0 : 0 ≤ m) (hm : m ≤ 4398046511104) : Calls Try.prog 79 #[.agg (vfn f), .int .i64 m] w fun e w' => e = .returned (.bool (smallB f m)) ∧ Below w.heap.size w w' := by
  have hwm : wrap64 (-m) = -m := by unfold wrap64; omega
  clear h0 hm
  go_enter Try.func79, Try.ntmps79
  go_wp2_with (fail)
  go_loopg [5] 3 (fun g iv wr => ∃ k : Nat, g + k = 3 ∧ iv = .int .i64 k ∧ Hid (∀ j, j < k → sb m (f j) = true) ∧ blk wr w.heap.size (vfn f) 23 ∧ Below w.heap.size w wr)
  case atStart => exact ⟨0, rfl, rfl, fun j hj => by omega, blk.new _ _ _, by go_grown⟩
  case round =>
    obtain ⟨k, hk, rfl, hall, p, hB⟩ := hrel
    by_cases hkn : k < 3
    · have hdk : decide ((k : Int) < 3) = true := decide_eq_true (by omega)
      have hdk' : decide (k < 3) = true := decide_eq_true (by omega)
      have hw3 : IntKind.i64.wrap ((k : Int) + 1) = ((k + 1 : Nat) : Int) := by rw [IntKind.wrap_i64]; omega
      have ck : wr.cell? ⟨w.heap.size, k, none⟩ = some (.int .i64 (f k)) := p.cellIs (vfn_get f hkn)
      by_cases h1 : -m ≤ f k
      · have d1 : decide (f k < -m) = false := decide_eq_false (by omega)
        by_cases h2 : f k ≤ m
        · have d2 : decide (m < f k) = false := decide_eq_false (by omega)
          have HV := Lib.hid ((sb_iff _ _).2 ⟨h1, h2⟩)
          clear h1 h2
          go_wp2_with (fail)
          go_roundg (3 - (k + 1))
          case rel =>
            refine ⟨k + 1, by omega, rfl, fun j hj => ?_, p, hB⟩
            by_cases e : j = k
            · subst e; exact HV.out
            · exact hall.out j (by omega)
          case measure => omega
        · have d2 : decide (m < f k) = true := decide_eq_true (by omega)
          have HV := Lib.hid (show smallB f m = false from smallB_no hkn (by omega))
          clear h1 h2
          go_wp2_with (fail)
          go_ret
          exact ⟨by rw [HV.out]; rfl, hB⟩
      · have d1 : decide (f k < -m) = true := decide_eq_true (by omega)
        have HV := Lib.hid (show smallB f m = false from smallB_no hkn (by omega))
        clear h1
        go_wp2_with (fail)
        go_ret
        exact ⟨by rw [HV.out]; rfl, hB⟩
    · obtain rfl : k = 3 := by omega
      have HV := Lib.hid ((smallB_iff f m).2 hall.out)
      go_wp2_with (fail)
      go_ret
      exact ⟨by rw [HV.out]; rfl, hB⟩
def torqOk (f g : Nat → Int) : Bool := smallB f 65536 && smallB g 4294967296
def torqF (f g : Nat → Int) : Nat → Int := if torqOk f g then vcrossF f g else fun _ => 0
def torqE (f g : Nat → Int) : Int := if torqOk f g then vcrossE f g else 2
set_option maxRecDepth 100000 in
set_option maxHeartbeats 2000000 in
theorem torq_any (f g : Nat → Int) (w : World) : Calls Try.prog 37 #[.agg (vfn f), .agg (vfn g)] w fun e w' => e = .returned (.tuple #[.agg (vfn (torqF f g)), .int .i64 (torqE f g)]) ∧ Below w.heap.size w w' := by
  have V1 := Lib.hid (fun w => mwithin_any f 65536 w (by omega) (by omega))
  have V2 := Lib.hid (fun w => isField_any g w)
  have C := Lib.hid (fun w => vcross_any f g w)
  unfold torqF torqE torqOk
  generalize smallB f 65536 = bf at *
  generalize smallB g 4294967296 = bg at *
  generalize vcrossF f g = F at *
  generalize vcrossE f g = E at *
  go_enter Try.func37, Try.ntmps37
  go_upto_region 1 with (fail)
  rw [zero_vec]
  have p : blk (((w.alloc (.cells (vfn f) 23)).alloc (.cells (vfn g) 23)).alloc (.cells (vfn fun _ => 0) 23)) w.heap.size (vfn f) 23 := ((blk.new _ _ _).alloc _).alloc _
  have q : blk (((w.alloc (.cells (vfn f) 23)).alloc (.cells (vfn g) 23)).alloc (.cells (vfn fun _ => 0) 23)) (w.heap.size + 1) (vfn g) 23 := (blk.new' (by simp)).alloc _
  have r : blk (((w.alloc (.cells (vfn f) 23)).alloc (.cells (vfn g) 23)).alloc (.cells (vfn fun _ => 0) 23)) (w.heap.size + 1 + 1) (vfn fun _ => 0) 23 := blk.new' (by simp)
  have hB : Below w.heap.size w (((w.alloc (.cells (vfn f) 23)).alloc (.cells (vfn g) 23)).alloc (.cells (vfn fun _ => 0) 23)) := by go_grown
  generalize ((w.alloc (.cells (vfn f) 23)).alloc (.cells (vfn g) 23)).alloc (.cells (vfn fun _ => 0) 23) = w0 at *
  cases bf
  · go_wp2_with (first | (refine wpList_load_rowG ?hw _ _ rfl _ rfl _ _ _ _ p Try.underlying23 rfl ?hi ?_; (case hw => (first | rfl | (simp [Region.wanted, yielded]; done))); (case hi => (rw [vfn_size]; kernel_rfl))) | (refine wpList_load_rowG ?hw _ _ rfl _ rfl _ _ _ _ q Try.underlying23 rfl ?hi ?_; (case hw => (first | rfl | (simp [Region.wanted, yielded]; done))); (case hi => (rw [vfn_size]; kernel_rfl))) | (go_at_call 77; with_reducible refine (V1.out _).mono ?_; rintro e w1 ⟨rfl, hb⟩; replace hB := hB.trans (hb.mono hB.size); replace p := p.below hb p.lt; replace q := q.below hb q.lt; replace r := r.below hb r.lt; clear hb) | (go_at_call 78; with_reducible refine (V2.out _).mono ?_; rintro e w1 ⟨rfl, hb⟩; replace hB := hB.trans (hb.mono hB.size); replace p := p.below hb p.lt; replace q := q.below hb q.lt; replace r := r.below hb r.lt; clear hb) | (rw [zero_vec]; refine wpList_store_row rfl _ _ _ rfl _ rfl _ rfl _ _ r (by rw [vfn_size]; kernel_rfl) (by simp only [vfn_size]) (vfn_one _) ?_))
    refine bodyPost_ret (results_vec rfl _ _ _ _ _ _ _ rfl (r.row (vfn (fun _ => 0))) Try.underlying23 rfl (by rw [vfn_size]; kernel_rfl)) rfl ?_; refine ⟨?_, Below.setRow hB (by omega) _⟩
    rfl
  cases bg
  · go_wp2_with (first | (refine wpList_load_rowG ?hw _ _ rfl _ rfl _ _ _ _ p Try.underlying23 rfl ?hi ?_; (case hw => (first | rfl | (simp [Region.wanted, yielded]; done))); (case hi => (rw [vfn_size]; kernel_rfl))) | (refine wpList_load_rowG ?hw _ _ rfl _ rfl _ _ _ _ q Try.underlying23 rfl ?hi ?_; (case hw => (first | rfl | (simp [Region.wanted, yielded]; done))); (case hi => (rw [vfn_size]; kernel_rfl))) | (go_at_call 77; with_reducible refine (V1.out _).mono ?_; rintro e w1 ⟨rfl, hb⟩; replace hB := hB.trans (hb.mono hB.size); replace p := p.below hb p.lt; replace q := q.below hb q.lt; replace r := r.below hb r.lt; clear hb) | (go_at_call 78; with_reducible refine (V2.out _).mono ?_; rintro e w1 ⟨rfl, hb⟩; replace hB := hB.trans (hb.mono hB.size); replace p := p.below hb p.lt; replace q := q.below hb q.lt; replace r := r.below hb r.lt; clear hb) | (rw [zero_vec]; refine wpList_store_row rfl _ _ _ rfl _ rfl _ rfl _ _ r (by rw [vfn_size]; kernel_rfl) (by simp only [vfn_size]) (vfn_one _) ?_))
    refine bodyPost_ret (results_vec rfl _ _ _ _ _ _ _ rfl (r.row (vfn (fun _ => 0))) Try.underlying23 rfl (by rw [vfn_size]; kernel_rfl)) rfl ?_; refine ⟨?_, Below.setRow hB (by omega) _⟩
    rfl
  go_wp2_with (first | (refine wpList_load_rowG ?hw _ _ rfl _ rfl _ _ _ _ p Try.underlying23 rfl ?hi ?_; (case hw => (first | rfl | (simp [Region.wanted, yielded]; done))); (case hi => (rw [vfn_size]; kernel_rfl))) | (refine wpList_load_rowG ?hw _ _ rfl _ rfl _ _ _ _ q Try.underlying23 rfl ?hi ?_; (case hw => (first | rfl | (simp [Region.wanted, yielded]; done))); (case hi => (rw [vfn_size]; kernel_rfl))) | (go_at_call 77; with_reducible refine (V1.out _).mono ?_; rintro e w1 ⟨rfl, hb⟩; replace hB := hB.trans (hb.mono hB.size); replace p := p.below hb p.lt; replace q := q.below hb q.lt; replace r := r.below hb r.lt; clear hb) | (go_at_call 78; with_reducible refine (V2.out _).mono ?_; rintro e w1 ⟨rfl, hb⟩; replace hB := hB.trans (hb.mono hB.size); replace p := p.below hb p.lt; replace q := q.below hb q.lt; replace r := r.below hb r.lt; clear hb) | (go_at_call 52; with_reducible refine (C.out _).mono ?_; rintro e w1 ⟨rfl, hb⟩; replace hB := hB.trans (hb.mono hB.size); replace p := p.below hb p.lt; replace q := q.below hb q.lt; replace r := r.below hb r.lt; clear hb) | (refine wpList_store_row rfl _ _ _ rfl _ rfl _ rfl _ _ r (by rw [vfn_size]; kernel_rfl) (by simp only [vfn_size]) (vfn_one _) ?_))
  refine bodyPost_ret (results_vec rfl _ _ _ _ _ _ _ rfl (r.row (vfn F)) Try.underlying23 rfl (by rw [vfn_size]; kernel_rfl)) rfl ?_; refine ⟨?_, Below.setRow hB (by omega) _⟩
  rfl
set_option maxRecDepth 100000 in
set_option maxHeartbeats 2000000 in
theorem rtorq_any (f g : Nat → Int) (w : World) : Calls Try.prog 38 #[.agg (vfn f), .agg (vfn g)] w fun e w' => e = .returned (.tuple #[.agg (vfn (torqF f g)), .int .i64 (torqE f g)]) ∧ Below w.heap.size w w' := by
  have V1 := Lib.hid (fun w => rmwithin_any f 65536 w (by omega) (by omega))
  have V2 := Lib.hid (fun w => rmwithin_any g 4294967296 w (by omega) (by omega))
  have C := Lib.hid (fun w => rvcross_any f g w)
  unfold torqF torqE torqOk
  generalize smallB f 65536 = bf at *
  generalize smallB g 4294967296 = bg at *
  generalize vcrossF f g = F at *
  generalize vcrossE f g = E at *
  go_enter Try.func38, Try.ntmps38
  go_upto_region 1 with (fail)
  rw [zero_vec]
  have p : blk (((w.alloc (.cells (vfn f) 23)).alloc (.cells (vfn g) 23)).alloc (.cells (vfn fun _ => 0) 23)) w.heap.size (vfn f) 23 := ((blk.new _ _ _).alloc _).alloc _
  have q : blk (((w.alloc (.cells (vfn f) 23)).alloc (.cells (vfn g) 23)).alloc (.cells (vfn fun _ => 0) 23)) (w.heap.size + 1) (vfn g) 23 := (blk.new' (by simp)).alloc _
  have r : blk (((w.alloc (.cells (vfn f) 23)).alloc (.cells (vfn g) 23)).alloc (.cells (vfn fun _ => 0) 23)) (w.heap.size + 1 + 1) (vfn fun _ => 0) 23 := blk.new' (by simp)
  have hB : Below w.heap.size w (((w.alloc (.cells (vfn f) 23)).alloc (.cells (vfn g) 23)).alloc (.cells (vfn fun _ => 0) 23)) := by go_grown
  generalize ((w.alloc (.cells (vfn f) 23)).alloc (.cells (vfn g) 23)).alloc (.cells (vfn fun _ => 0) 23) = w0 at *
  cases bf
  · go_wp2_with (first | (refine wpList_load_rowG ?hw _ _ rfl _ rfl _ _ _ _ p Try.underlying23 rfl ?hi ?_; (case hw => (first | rfl | (simp [Region.wanted, yielded]; done))); (case hi => (rw [vfn_size]; kernel_rfl))) | (refine wpList_load_rowG ?hw _ _ rfl _ rfl _ _ _ _ q Try.underlying23 rfl ?hi ?_; (case hw => (first | rfl | (simp [Region.wanted, yielded]; done))); (case hi => (rw [vfn_size]; kernel_rfl))) | (go_at_call 79; with_reducible refine (V1.out _).mono ?_; rintro e w1 ⟨rfl, hb⟩; replace hB := hB.trans (hb.mono hB.size); replace p := p.below hb p.lt; replace q := q.below hb q.lt; replace r := r.below hb r.lt; clear hb) | (go_at_call 79; with_reducible refine (V2.out _).mono ?_; rintro e w1 ⟨rfl, hb⟩; replace hB := hB.trans (hb.mono hB.size); replace p := p.below hb p.lt; replace q := q.below hb q.lt; replace r := r.below hb r.lt; clear hb) | (rw [zero_vec]; refine wpList_store_row rfl _ _ _ rfl _ rfl _ rfl _ _ r (by rw [vfn_size]; kernel_rfl) (by simp only [vfn_size]) (vfn_one _) ?_))
    refine bodyPost_ret (results_vec rfl _ _ _ _ _ _ _ rfl (r.row (vfn (fun _ => 0))) Try.underlying23 rfl (by rw [vfn_size]; kernel_rfl)) rfl ?_; refine ⟨?_, Below.setRow hB (by omega) _⟩
    rfl
  cases bg
  · go_wp2_with (first | (refine wpList_load_rowG ?hw _ _ rfl _ rfl _ _ _ _ p Try.underlying23 rfl ?hi ?_; (case hw => (first | rfl | (simp [Region.wanted, yielded]; done))); (case hi => (rw [vfn_size]; kernel_rfl))) | (refine wpList_load_rowG ?hw _ _ rfl _ rfl _ _ _ _ q Try.underlying23 rfl ?hi ?_; (case hw => (first | rfl | (simp [Region.wanted, yielded]; done))); (case hi => (rw [vfn_size]; kernel_rfl))) | (go_at_call 79; with_reducible refine (V1.out _).mono ?_; rintro e w1 ⟨rfl, hb⟩; replace hB := hB.trans (hb.mono hB.size); replace p := p.below hb p.lt; replace q := q.below hb q.lt; replace r := r.below hb r.lt; clear hb) | (go_at_call 79; with_reducible refine (V2.out _).mono ?_; rintro e w1 ⟨rfl, hb⟩; replace hB := hB.trans (hb.mono hB.size); replace p := p.below hb p.lt; replace q := q.below hb q.lt; replace r := r.below hb r.lt; clear hb) | (rw [zero_vec]; refine wpList_store_row rfl _ _ _ rfl _ rfl _ rfl _ _ r (by rw [vfn_size]; kernel_rfl) (by simp only [vfn_size]) (vfn_one _) ?_))
    refine bodyPost_ret (results_vec rfl _ _ _ _ _ _ _ rfl (r.row (vfn (fun _ => 0))) Try.underlying23 rfl (by rw [vfn_size]; kernel_rfl)) rfl ?_; refine ⟨?_, Below.setRow hB (by omega) _⟩
    rfl
  go_wp2_with (first | (refine wpList_load_rowG ?hw _ _ rfl _ rfl _ _ _ _ p Try.underlying23 rfl ?hi ?_; (case hw => (first | rfl | (simp [Region.wanted, yielded]; done))); (case hi => (rw [vfn_size]; kernel_rfl))) | (refine wpList_load_rowG ?hw _ _ rfl _ rfl _ _ _ _ q Try.underlying23 rfl ?hi ?_; (case hw => (first | rfl | (simp [Region.wanted, yielded]; done))); (case hi => (rw [vfn_size]; kernel_rfl))) | (go_at_call 79; with_reducible refine (V1.out _).mono ?_; rintro e w1 ⟨rfl, hb⟩; replace hB := hB.trans (hb.mono hB.size); replace p := p.below hb p.lt; replace q := q.below hb q.lt; replace r := r.below hb r.lt; clear hb) | (go_at_call 79; with_reducible refine (V2.out _).mono ?_; rintro e w1 ⟨rfl, hb⟩; replace hB := hB.trans (hb.mono hB.size); replace p := p.below hb p.lt; replace q := q.below hb q.lt; replace r := r.below hb r.lt; clear hb) | (go_at_call 80; with_reducible refine (C.out _).mono ?_; rintro e w1 ⟨rfl, hb⟩; replace hB := hB.trans (hb.mono hB.size); replace p := p.below hb p.lt; replace q := q.below hb q.lt; replace r := r.below hb r.lt; clear hb) | (refine wpList_store_row rfl _ _ _ rfl _ rfl _ rfl _ _ r (by rw [vfn_size]; kernel_rfl) (by simp only [vfn_size]) (vfn_one _) ?_))
  refine bodyPost_ret (results_vec rfl _ _ _ _ _ _ _ rfl (r.row (vfn F)) Try.underlying23 rfl (by rw [vfn_size]; kernel_rfl)) rfl ?_; refine ⟨?_, Below.setRow hB (by omega) _⟩
  rfl
end Go.Proofs.Ythkklhfnmodpnaa
