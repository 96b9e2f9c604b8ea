/-
  QuatsLengths returns true.
-/
import Derived.Test.YtcgpcehdeihalaaLenQ
import Derived.Test.YtcgpcehdeihalaaLawQ
set_option linter.unusedSimpArgs false
set_option linter.unusedVariables false
namespace Go.Proofs.Ytcgpcehdeihalaa
open Go.RowKit PM Dt
theorem quat_cells (f : Nat → Int) : #[Value.int .i64 (f 0), .int .i64 (f 1), .int .i64 (f 2), .int .i64 (f 3)] = qfn f := by unfold qfn; rfl
/-- What the statements' own 'unit' answers. -/
def lunF (f : Nat → Int) : Nat → Int := if okQ f then qunF f else f
def lunB (f : Nat → Int) : Bool := okQ f && (qunE f == 0)
set_option maxRecDepth 100000 in
set_option maxHeartbeats 2000000 in
theorem lunit_any (f : Nat → Int) (w : World) : Calls Try.prog 13 #[.agg (qfn f)] w fun e w' => e = .returned (.tuple #[.agg (qfn (lunF f)), .bool (lunB f)]) ∧ Below w.heap.size w w' := by
  have UN := Lib.hid (fun w => qunit_any f w)
  obtain ⟨F, hF⟩ : ∃ F, lunF f = F := ⟨_, rfl⟩
  obtain ⟨E, hE⟩ : ∃ E, lunB f = E := ⟨_, rfl⟩
  rw [hF, hE]
  unfold lunF at hF
  unfold lunB at hE
  have HF := Lib.hid hF
  have HE := Lib.hid hE
  clear hF hE
  generalize qunF f = X at *
  generalize qunE f = XE at *
  go_enter Try.func13, Try.ntmps13
  go_upto_region 1 with (fail)
  simp only [zero_quat]
  have p : blk ((w.alloc (.cells (qfn f) 23)).alloc (.cells (qfn fun _ => 0) 23)) w.heap.size (qfn f) 23 := (blk.new _ _ _).alloc _
  have r : blk ((w.alloc (.cells (qfn f) 23)).alloc (.cells (qfn fun _ => 0) 23)) (w.heap.size + 1) (qfn fun _ => 0) 23 := blk.new' (by simp)
  have hB : Below w.heap.size w ((w.alloc (.cells (qfn f) 23)).alloc (.cells (qfn fun _ => 0) 23)) := by go_grown
  generalize ((w.alloc (.cells (qfn f) 23)).alloc (.cells (qfn fun _ => 0) 23)) = w0 at *
  go_wp2_with (fail)
  go_loopg [4] 4 (fun g_ iv wr => ∃ k : Nat, g_ + k = 4 ∧ iv = .int .i64 k ∧ Hid (∀ j, j < k → vb (f j) = true) ∧ blk wr w.heap.size (qfn f) 23 ∧ blk wr (w.heap.size + 1) (qfn fun _ => 0) 23 ∧ Below w.heap.size w wr)
  case atStart => exact ⟨0, rfl, rfl, fun j hj => by omega, p, r, hB⟩
  case round =>
    clear p r hB
    obtain ⟨k, hk, rfl, hall, p, r, hB⟩ := hrel
    by_cases hkn : k < 4
    · have hdk : decide ((k : Int) < 4) = true := decide_eq_true (by omega)
      have hdk' : decide (k < 4) = true := decide_eq_true (by omega)
      have hk3 : (k : Int) < 4 := by omega
      have hw3 : IntKind.i64.wrap ((k : Int) + 1) = ((k + 1 : Nat) : Int) := by rw [IntKind.wrap_i64]; omega
      have ck : wr.cell? ⟨w.heap.size, k, none⟩ = some (.int .i64 (f k)) := p.cellIs (qfn_get _ (hkn))
      by_cases h1 : -1099511627776 ≤ f k
      · have d1 : decide (f k < -1099511627776) = false := decide_eq_false (by omega)
        by_cases h2 : f k ≤ 1099511627776
        · have d2 : decide (1099511627776 < f k) = false := decide_eq_false (by omega)
          have HV := Lib.hid ((vb_iff _).2 ⟨h1, h2⟩)
          clear h1 h2
          go_wp2_with (fail)
          go_roundg (4 - (k + 1))
          case rel =>
            refine ⟨k + 1, by omega, rfl, fun j hj => ?_, p, r, hB⟩
            by_cases e : j = k
            · subst e; exact HV.out
            · exact hall.out j (by omega)
          case measure => omega
        · have d2 : decide (1099511627776 < f k) = true := decide_eq_true (by omega)
          have HV := Lib.hid (show okQ f = false from okQ_no hkn (by omega))
          clear h1 h2
          go_wp2_with (first
            | (refine wpList_load_rowG ?hw _ _ rfl _ rfl _ _ _ _ p Try.underlying23 rfl ?hi ?_; (case hw => (first | rfl | (simp [Region.wanted, yielded]; done))); (case hi => (first | kernel_rfl | (rw [qfn_size]; kernel_rfl))))
            | (refine wpList_store_row rfl _ _ _ rfl _ rfl _ rfl _ _ r (by first | kernel_rfl | (rw [qfn_size]; kernel_rfl)) (by first | rfl | simp only [qfn_size]) (by first | exact qfn_one _ | rfl) ?_))
          refine bodyPost_ret (results_vec rfl _ _ _ _ _ _ _ rfl (r.row (qfn f)) Try.underlying23 rfl (by first | kernel_rfl | (rw [qfn_size]; kernel_rfl))) rfl ?_
          refine ⟨?_, Below.setRow hB (by omega) _⟩
          rw [← HF.out, ← HE.out, HV.out]; rfl
      · have d1 : decide (f k < -1099511627776) = true := decide_eq_true (by omega)
        have HV := Lib.hid (show okQ f = false from okQ_no hkn (by omega))
        clear h1
        go_wp2_with (first
          | (refine wpList_load_rowG ?hw _ _ rfl _ rfl _ _ _ _ p Try.underlying23 rfl ?hi ?_; (case hw => (first | rfl | (simp [Region.wanted, yielded]; done))); (case hi => (first | kernel_rfl | (rw [qfn_size]; kernel_rfl))))
          | (refine wpList_store_row rfl _ _ _ rfl _ rfl _ rfl _ _ r (by first | kernel_rfl | (rw [qfn_size]; kernel_rfl)) (by first | rfl | simp only [qfn_size]) (by first | exact qfn_one _ | rfl) ?_))
        refine bodyPost_ret (results_vec rfl _ _ _ _ _ _ _ rfl (r.row (qfn f)) Try.underlying23 rfl (by first | kernel_rfl | (rw [qfn_size]; kernel_rfl))) rfl ?_
        refine ⟨?_, Below.setRow hB (by omega) _⟩
        rw [← HF.out, ← HE.out, HV.out]; rfl
    · obtain rfl : k = 4 := by omega
      have HV := Lib.hid ((okQ_iff f).2 hall.out)
      go_upto_region 7 with (first
        | (refine wpList_load_rowG ?hw _ _ rfl _ rfl _ _ _ _ p Try.underlying23 rfl ?hi ?_; (case hw => (first | rfl | (simp [Region.wanted, yielded]; done))); (case hi => (first | kernel_rfl | (rw [qfn_size]; kernel_rfl))))
        | (refine wpList_load_rowG ?hw _ _ rfl _ rfl _ _ _ _ r Try.underlying23 rfl ?hi ?_; (case hw => (first | rfl | (simp [Region.wanted, yielded]; done))); (case hi => (first | kernel_rfl | (rw [qfn_size]; kernel_rfl))))
        | (go_at_call 23; with_reducible refine (UN.out _).mono ?_; rintro e w1 ⟨rfl, hb⟩; replace hB := hB.trans (hb.mono hB.size); replace p := p.below hb p.lt; replace r := r.below hb r.lt; clear hb)
        | (rw [zero_quat]; refine wpList_store_row rfl _ _ _ rfl _ rfl _ rfl _ _ (blk.new _ _ _) (by first | kernel_rfl | (rw [qfn_size]; kernel_rfl)) (by first | rfl | simp only [qfn_size]) (by first | exact qfn_one _ | rfl) ?_))
      have m := (blk.new w1 (qfn fun _ => 0) 23).row (qfn X)
      replace hB := Below.setRow (hB.alloc hB.size (.cells (qfn fun _ => 0) 23)) (g := w1.heap.size) hB.size (qfn X)
      have hne : ∀ x, x < w1.heap.size → x ≠ w1.heap.size := fun x hx => Nat.ne_of_lt hx
      replace p := (p.alloc (.cells (qfn fun _ => 0) 23)).rowOther (hne _ p.lt) (qfn X)
      replace r := (r.alloc (.cells (qfn fun _ => 0) 23)).rowOther (hne _ r.lt) (qfn X)
      clear hne
      generalize (w1.alloc (.cells (qfn fun _ => 0) 23)).setRow w1.heap.size (qfn X) = w1x at *
      generalize w1.heap.size = m_b at *
      go_wp2_with (first
        | (refine wpList_load_rowG ?hw _ _ rfl _ rfl _ _ _ _ m Try.underlying23 rfl ?hi ?_; (case hw => (first | rfl | (simp [Region.wanted, yielded]; done))); (case hi => (first | kernel_rfl | (rw [qfn_size]; kernel_rfl))))
        | (refine wpList_store_row rfl _ _ _ rfl _ rfl _ rfl _ _ r (by first | kernel_rfl | (rw [qfn_size]; kernel_rfl)) (by first | rfl | simp only [qfn_size]) (by first | exact qfn_one _ | rfl) ?_))
      refine bodyPost_ret (results_vec rfl _ _ _ _ _ _ _ rfl (r.row (qfn X)) Try.underlying23 rfl (by first | kernel_rfl | (rw [qfn_size]; kernel_rfl))) rfl ?_
      refine ⟨?_, Below.setRow hB (by omega) _⟩
      rw [← HF.out, ← HE.out, HV.out]; rfl
set_option maxRecDepth 100000 in
set_option maxHeartbeats 2000000 in
theorem qlen_out (f g F : Nat → Int) (w : World) (U1 : Hid (∀ w, Calls Try.prog 13 #[.agg (qfn f)] w fun e w' => e = .returned (.tuple #[.agg (qfn F), .bool false]) ∧ Below w.heap.size w w')) : Calls Try.prog 3 #[.agg (qfn f), .agg (vfn g)] w fun e w' => e = .returned (.bool true) ∧ Below w.heap.size w w' := by
  go_enter Try.func3, Try.ntmps3
  go_upto_region 1 with (fail)
  have p : blk ((w.alloc (.cells (qfn f) 23)).alloc (.cells (vfn g) 25)) w.heap.size (qfn f) 23 := (blk.new _ _ _).alloc _
  have q : blk ((w.alloc (.cells (qfn f) 23)).alloc (.cells (vfn g) 25)) (w.heap.size + 1) (vfn g) 25 := blk.new' (by simp)
  have hB : Below w.heap.size w ((w.alloc (.cells (qfn f) 23)).alloc (.cells (vfn g) 25)) := by go_grown
  generalize ((w.alloc (.cells (qfn f) 23)).alloc (.cells (vfn g) 25)) = w0 at *
  go_upto_region 2 with (first
    | (refine wpList_load_rowG ?hw _ _ rfl _ rfl _ _ _ _ p Try.underlying23 rfl ?hi ?_; (case hw => (first | rfl | (simp [Region.wanted, yielded]; done))); (case hi => (first | kernel_rfl | (rw [qfn_size]; kernel_rfl))))
    | (refine wpList_load_rowG ?hw _ _ rfl _ rfl _ _ _ _ q Try.underlying25 rfl ?hi ?_; (case hw => (first | rfl | (simp [Region.wanted, yielded]; done))); (case hi => (first | kernel_rfl | (rw [vfn_size]; kernel_rfl))))
    | (go_at_call 13; with_reducible refine (U1.out _).mono ?_; rintro e w1 ⟨rfl, hb⟩; replace hB := hB.trans (hb.mono hB.size); replace p := p.below hb p.lt; replace q := q.below hb q.lt; clear hb)
    | (rw [zero_quat]; refine wpList_store_row rfl _ _ _ rfl _ rfl _ rfl _ _ (blk.new _ _ _) (by first | kernel_rfl | (rw [qfn_size]; kernel_rfl)) (by first | rfl | simp only [qfn_size]) (by first | exact qfn_one _ | rfl) ?_))
  have m := (blk.new w1 (qfn fun _ => 0) 23).row (qfn F)
  replace hB := Below.setRow (hB.alloc hB.size (.cells (qfn fun _ => 0) 23)) (g := w1.heap.size) hB.size (qfn F)
  have hne : ∀ x, x < w1.heap.size → x ≠ w1.heap.size := fun x hx => Nat.ne_of_lt hx
  replace p := (p.alloc (.cells (qfn fun _ => 0) 23)).rowOther (hne _ p.lt) (qfn F)
  replace q := (q.alloc (.cells (qfn fun _ => 0) 23)).rowOther (hne _ q.lt) (qfn F)
  clear hne
  generalize (w1.alloc (.cells (qfn fun _ => 0) 23)).setRow w1.heap.size (qfn F) = w1x at *
  generalize w1.heap.size = m_b at *
  go_wp2_with (first
    | (refine wpList_load_rowG ?hw _ _ rfl _ rfl _ _ _ _ p Try.underlying23 rfl ?hi ?_; (case hw => (first | rfl | (simp [Region.wanted, yielded]; done))); (case hi => (first | kernel_rfl | (rw [qfn_size]; kernel_rfl))))
    | (refine wpList_load_rowG ?hw _ _ rfl _ rfl _ _ _ _ q Try.underlying25 rfl ?hi ?_; (case hw => (first | rfl | (simp [Region.wanted, yielded]; done))); (case hi => (first | kernel_rfl | (rw [vfn_size]; kernel_rfl))))
    | (refine wpList_load_rowG ?hw _ _ rfl _ rfl _ _ _ _ m Try.underlying23 rfl ?hi ?_; (case hw => (first | rfl | (simp [Region.wanted, yielded]; done))); (case hi => (first | kernel_rfl | (rw [qfn_size]; kernel_rfl))))
    | (go_at_call 14; refine (awakeQ_any _).mono ?_; rintro e wx ⟨rfl, hb⟩; replace hB := hB.trans (hb.mono hB.size); clear hb))
  go_ret
  exact ⟨rfl, hB⟩
set_option maxRecDepth 100000 in
set_option maxHeartbeats 4000000 in
theorem qlen_in (f g u t : Nat → Int) (n m E : Int) (w : World) (U1 : Hid (∀ w, Calls Try.prog 13 #[.agg (qfn f)] w fun e w' => e = .returned (.tuple #[.agg (qfn u), .bool true]) ∧ Below w.heap.size w w')) (N1 : Hid (∀ b w ty, blk w b (qfn u) ty → Calls Try.prog 15 #[.slice (some ⟨b, 0, none⟩) 4 4] w fun e w' => e = .returned (.tuple #[.int .i64 n, .int .i64 0]) ∧ w = w')) (V1 : Hid (∀ w, Calls Try.prog 16 #[.agg (qfn u)] w fun e w' => e = .returned (.bool true) ∧ Below w.heap.size w w')) (T1 : Hid (∀ w, Calls Try.prog 17 #[.agg (qfn u), .agg (vfn g)] w fun e w' => e = .returned (.tuple #[.agg (qfn t), .int .i64 E]) ∧ Below w.heap.size w w'))
    (hn : 1073741822 ≤ n ∧ n ≤ 1073741825) (hm : 1073741822 ≤ m ∧ m ≤ 1073741825) (hE : (E = 0 ∧ Hid (∀ b w ty, blk w b (qfn t) ty → Calls Try.prog 15 #[.slice (some ⟨b, 0, none⟩) 4 4] w fun e w' => e = .returned (.tuple #[.int .i64 m, .int .i64 0]) ∧ w = w') ∧ Hid (∀ w, Calls Try.prog 16 #[.agg (qfn t)] w fun e w' => e = .returned (.bool true) ∧ Below w.heap.size w w')) ∨ (E = 2 ∧ t = fun _ => 0)) : Calls Try.prog 3 #[.agg (qfn f), .agg (vfn g)] w fun e w' => e = .returned (.bool true) ∧ Below w.heap.size w w' := by
  have n1 : decide (n < 1073741822) = false := decide_eq_false (by omega)
  have n2 : decide (1073741825 < n) = false := decide_eq_false (by omega)
  have m1 : decide (1073741822 ≤ m) = true := decide_eq_true (by omega)
  have m2 : decide (m ≤ 1073741825) = true := decide_eq_true (by omega)
  clear hn hm
  go_enter Try.func3, Try.ntmps3
  go_upto_region 1 with (fail)
  have p : blk ((w.alloc (.cells (qfn f) 23)).alloc (.cells (vfn g) 25)) w.heap.size (qfn f) 23 := (blk.new _ _ _).alloc _
  have q : blk ((w.alloc (.cells (qfn f) 23)).alloc (.cells (vfn g) 25)) (w.heap.size + 1) (vfn g) 25 := blk.new' (by simp)
  have hB : Below w.heap.size w ((w.alloc (.cells (qfn f) 23)).alloc (.cells (vfn g) 25)) := by go_grown
  generalize ((w.alloc (.cells (qfn f) 23)).alloc (.cells (vfn g) 25)) = w0 at *
  go_upto_region 2 with (first
    | (refine wpList_load_rowG ?hw _ _ rfl _ rfl _ _ _ _ p Try.underlying23 rfl ?hi ?_; (case hw => (first | rfl | (simp [Region.wanted, yielded]; done))); (case hi => (first | kernel_rfl | (rw [qfn_size]; kernel_rfl))))
    | (refine wpList_load_rowG ?hw _ _ rfl _ rfl _ _ _ _ q Try.underlying25 rfl ?hi ?_; (case hw => (first | rfl | (simp [Region.wanted, yielded]; done))); (case hi => (first | kernel_rfl | (rw [vfn_size]; kernel_rfl))))
    | (go_at_call 13; with_reducible refine (U1.out _).mono ?_; rintro e w1 ⟨rfl, hb⟩; replace hB := hB.trans (hb.mono hB.size); replace p := p.below hb p.lt; replace q := q.below hb q.lt; clear hb)
    | (rw [zero_quat]; refine wpList_store_row rfl _ _ _ rfl _ rfl _ rfl _ _ (blk.new _ _ _) (by first | kernel_rfl | (rw [qfn_size]; kernel_rfl)) (by first | rfl | simp only [qfn_size]) (by first | exact qfn_one _ | rfl) ?_))
  have a := (blk.new w1 (qfn fun _ => 0) 23).row (qfn u)
  replace hB := Below.setRow (hB.alloc hB.size (.cells (qfn fun _ => 0) 23)) (g := w1.heap.size) hB.size (qfn u)
  have hne : ∀ x, x < w1.heap.size → x ≠ w1.heap.size := fun x hx => Nat.ne_of_lt hx
  replace p := (p.alloc (.cells (qfn fun _ => 0) 23)).rowOther (hne _ p.lt) (qfn u)
  replace q := (q.alloc (.cells (qfn fun _ => 0) 23)).rowOther (hne _ q.lt) (qfn u)
  clear hne
  generalize (w1.alloc (.cells (qfn fun _ => 0) 23)).setRow w1.heap.size (qfn u) = w1x at *
  generalize w1.heap.size = a_b at *
  go_upto_region 4 with (first
    | (refine wpList_load_rowG ?hw _ _ rfl _ rfl _ _ _ _ p Try.underlying23 rfl ?hi ?_; (case hw => (first | rfl | (simp [Region.wanted, yielded]; done))); (case hi => (first | kernel_rfl | (rw [qfn_size]; kernel_rfl))))
    | (refine wpList_load_rowG ?hw _ _ rfl _ rfl _ _ _ _ q Try.underlying25 rfl ?hi ?_; (case hw => (first | rfl | (simp [Region.wanted, yielded]; done))); (case hi => (first | kernel_rfl | (rw [vfn_size]; kernel_rfl))))
    | (refine wpList_load_rowG ?hw _ _ rfl _ rfl _ _ _ _ a Try.underlying23 rfl ?hi ?_; (case hw => (first | rfl | (simp [Region.wanted, yielded]; done))); (case hi => (first | kernel_rfl | (rw [qfn_size]; kernel_rfl)))))
  have c0 : w1x.cell? ⟨a_b, 0, none⟩ = some (.int .i64 (u 0)) := a.cellIs (qfn_get _ (by omega))
  have c1 : w1x.cell? ⟨a_b, 1, none⟩ = some (.int .i64 (u 1)) := a.cellIs (qfn_get _ (by omega))
  have c2 : w1x.cell? ⟨a_b, 2, none⟩ = some (.int .i64 (u 2)) := a.cellIs (qfn_get _ (by omega))
  have c3 : w1x.cell? ⟨a_b, 3, none⟩ = some (.int .i64 (u 3)) := a.cellIs (qfn_get _ (by omega))
  go_upto_region 5 with (first
    | (refine wpList_build4 rfl rfl rfl rfl rfl rfl Try.underlying66 (by kernel_rfl) (by kernel_rfl) (fun sl_b w2 hb sl => ?_); simp only [Act.put, List.setIfInBounds_toArray, List.set_cons_zero, List.set_cons_succ]; replace hB := hB.trans (hb.mono hB.size); replace p := p.below hb p.lt; replace q := q.below hb q.lt; replace a := a.below hb a.lt; clear hb)
    | (go_at_call 15; rw [quat_cells] at sl; refine (N1.out _ _ _ sl).mono ?_; rintro e wh ⟨rfl, rfl⟩))
  clear c0 c1 c2 c3 sl
  go_upto_region 7 with (first
    | (refine wpList_load_rowG ?hw _ _ rfl _ rfl _ _ _ _ p Try.underlying23 rfl ?hi ?_; (case hw => (first | rfl | (simp [Region.wanted, yielded]; done))); (case hi => (first | kernel_rfl | (rw [qfn_size]; kernel_rfl))))
    | (refine wpList_load_rowG ?hw _ _ rfl _ rfl _ _ _ _ q Try.underlying25 rfl ?hi ?_; (case hw => (first | rfl | (simp [Region.wanted, yielded]; done))); (case hi => (first | kernel_rfl | (rw [vfn_size]; kernel_rfl))))
    | (refine wpList_load_rowG ?hw _ _ rfl _ rfl _ _ _ _ a Try.underlying23 rfl ?hi ?_; (case hw => (first | rfl | (simp [Region.wanted, yielded]; done))); (case hi => (first | kernel_rfl | (rw [qfn_size]; kernel_rfl))))
    | (go_at_call 16; with_reducible refine (V1.out _).mono ?_; rintro e w3 ⟨rfl, hb⟩; replace hB := hB.trans (hb.mono hB.size); replace p := p.below hb p.lt; replace q := q.below hb q.lt; replace a := a.below hb a.lt; clear hb))
  go_upto_region 8 with (first
    | (refine wpList_load_rowG ?hw _ _ rfl _ rfl _ _ _ _ p Try.underlying23 rfl ?hi ?_; (case hw => (first | rfl | (simp [Region.wanted, yielded]; done))); (case hi => (first | kernel_rfl | (rw [qfn_size]; kernel_rfl))))
    | (refine wpList_load_rowG ?hw _ _ rfl _ rfl _ _ _ _ q Try.underlying25 rfl ?hi ?_; (case hw => (first | rfl | (simp [Region.wanted, yielded]; done))); (case hi => (first | kernel_rfl | (rw [vfn_size]; kernel_rfl))))
    | (refine wpList_load_rowG ?hw _ _ rfl _ rfl _ _ _ _ a Try.underlying23 rfl ?hi ?_; (case hw => (first | rfl | (simp [Region.wanted, yielded]; done))); (case hi => (first | kernel_rfl | (rw [qfn_size]; kernel_rfl))))
    | (go_at_call 17; with_reducible refine (T1.out _).mono ?_; rintro e w4 ⟨rfl, hb⟩; replace hB := hB.trans (hb.mono hB.size); replace p := p.below hb p.lt; replace q := q.below hb q.lt; replace a := a.below hb a.lt; clear hb)
    | (rw [zero_quat]; refine wpList_store_row rfl _ _ _ rfl _ rfl _ rfl _ _ (blk.new _ _ _) (by first | kernel_rfl | (rw [qfn_size]; kernel_rfl)) (by first | rfl | simp only [qfn_size]) (by first | exact qfn_one _ | rfl) ?_))
  have b := (blk.new w4 (qfn fun _ => 0) 23).row (qfn t)
  replace hB := Below.setRow (hB.alloc hB.size (.cells (qfn fun _ => 0) 23)) (g := w4.heap.size) hB.size (qfn t)
  have hne : ∀ x, x < w4.heap.size → x ≠ w4.heap.size := fun x hx => Nat.ne_of_lt hx
  replace p := (p.alloc (.cells (qfn fun _ => 0) 23)).rowOther (hne _ p.lt) (qfn t)
  replace q := (q.alloc (.cells (qfn fun _ => 0) 23)).rowOther (hne _ q.lt) (qfn t)
  replace a := (a.alloc (.cells (qfn fun _ => 0) 23)).rowOther (hne _ a.lt) (qfn t)
  clear hne
  generalize (w4.alloc (.cells (qfn fun _ => 0) 23)).setRow w4.heap.size (qfn t) = w4x at *
  generalize w4.heap.size = b_b at *
  rcases hE with ⟨rfl, N2, V2⟩ | ⟨rfl, rfl⟩
  · skip
    go_upto_region 10 with (first
      | (refine wpList_load_rowG ?hw _ _ rfl _ rfl _ _ _ _ p Try.underlying23 rfl ?hi ?_; (case hw => (first | rfl | (simp [Region.wanted, yielded]; done))); (case hi => (first | kernel_rfl | (rw [qfn_size]; kernel_rfl))))
      | (refine wpList_load_rowG ?hw _ _ rfl _ rfl _ _ _ _ q Try.underlying25 rfl ?hi ?_; (case hw => (first | rfl | (simp [Region.wanted, yielded]; done))); (case hi => (first | kernel_rfl | (rw [vfn_size]; kernel_rfl))))
      | (refine wpList_load_rowG ?hw _ _ rfl _ rfl _ _ _ _ a Try.underlying23 rfl ?hi ?_; (case hw => (first | rfl | (simp [Region.wanted, yielded]; done))); (case hi => (first | kernel_rfl | (rw [qfn_size]; kernel_rfl))))
      | (refine wpList_load_rowG ?hw _ _ rfl _ rfl _ _ _ _ b Try.underlying23 rfl ?hi ?_; (case hw => (first | rfl | (simp [Region.wanted, yielded]; done))); (case hi => (first | kernel_rfl | (rw [qfn_size]; kernel_rfl)))))
    have c0 : w4x.cell? ⟨b_b, 0, none⟩ = some (.int .i64 (t 0)) := b.cellIs (qfn_get _ (by omega))
    have c1 : w4x.cell? ⟨b_b, 1, none⟩ = some (.int .i64 (t 1)) := b.cellIs (qfn_get _ (by omega))
    have c2 : w4x.cell? ⟨b_b, 2, none⟩ = some (.int .i64 (t 2)) := b.cellIs (qfn_get _ (by omega))
    have c3 : w4x.cell? ⟨b_b, 3, none⟩ = some (.int .i64 (t 3)) := b.cellIs (qfn_get _ (by omega))
    go_upto_region 11 with (first
      | (refine wpList_build4 rfl rfl rfl rfl rfl rfl Try.underlying66 (by kernel_rfl) (by kernel_rfl) (fun sl_b w5 hb sl => ?_); simp only [Act.put, List.setIfInBounds_toArray, List.set_cons_zero, List.set_cons_succ]; replace hB := hB.trans (hb.mono hB.size); replace p := p.below hb p.lt; replace q := q.below hb q.lt; replace a := a.below hb a.lt; replace b := b.below hb b.lt; clear hb)
      | (go_at_call 15; rw [quat_cells] at sl; refine (N2.out _ _ _ sl).mono ?_; rintro e wh ⟨rfl, rfl⟩))
    clear c0 c1 c2 c3 sl
    go_wp2_with (first
      | (refine wpList_load_rowG ?hw _ _ rfl _ rfl _ _ _ _ p Try.underlying23 rfl ?hi ?_; (case hw => (first | rfl | (simp [Region.wanted, yielded]; done))); (case hi => (first | kernel_rfl | (rw [qfn_size]; kernel_rfl))))
      | (refine wpList_load_rowG ?hw _ _ rfl _ rfl _ _ _ _ q Try.underlying25 rfl ?hi ?_; (case hw => (first | rfl | (simp [Region.wanted, yielded]; done))); (case hi => (first | kernel_rfl | (rw [vfn_size]; kernel_rfl))))
      | (refine wpList_load_rowG ?hw _ _ rfl _ rfl _ _ _ _ a Try.underlying23 rfl ?hi ?_; (case hw => (first | rfl | (simp [Region.wanted, yielded]; done))); (case hi => (first | kernel_rfl | (rw [qfn_size]; kernel_rfl))))
      | (refine wpList_load_rowG ?hw _ _ rfl _ rfl _ _ _ _ b Try.underlying23 rfl ?hi ?_; (case hw => (first | rfl | (simp [Region.wanted, yielded]; done))); (case hi => (first | kernel_rfl | (rw [qfn_size]; kernel_rfl))))
      | (go_at_call 16; with_reducible refine (V2.out _).mono ?_; rintro e w6 ⟨rfl, hb⟩; replace hB := hB.trans (hb.mono hB.size); replace p := p.below hb p.lt; replace q := q.below hb q.lt; replace a := a.below hb a.lt; replace b := b.below hb b.lt; clear hb)
      | (go_at_call 14; refine (awakeQ_any _).mono ?_; rintro e wx ⟨rfl, hb⟩; replace hB := hB.trans (hb.mono hB.size); clear hb))
    go_ret
    exact ⟨rfl, hB⟩
  · have hq0 : ∀ w, (Op.equalIn 10000 23 (.agg (qfn fun _ => 0)) (.agg #[.int .i64 0, .int .i64 0, .int .i64 0, .int .i64 0])).run Try.prog w = .ok true w := fun w => by rw [zero_quat]; exact quat_eq_self _ w
    go_wp2_with (first
      | (refine wpList_load_rowG ?hw _ _ rfl _ rfl _ _ _ _ p Try.underlying23 rfl ?hi ?_; (case hw => (first | rfl | (simp [Region.wanted, yielded]; done))); (case hi => (first | kernel_rfl | (rw [qfn_size]; kernel_rfl))))
      | (refine wpList_load_rowG ?hw _ _ rfl _ rfl _ _ _ _ q Try.underlying25 rfl ?hi ?_; (case hw => (first | rfl | (simp [Region.wanted, yielded]; done))); (case hi => (first | kernel_rfl | (rw [vfn_size]; kernel_rfl))))
      | (refine wpList_load_rowG ?hw _ _ rfl _ rfl _ _ _ _ a Try.underlying23 rfl ?hi ?_; (case hw => (first | rfl | (simp [Region.wanted, yielded]; done))); (case hi => (first | kernel_rfl | (rw [qfn_size]; kernel_rfl))))
      | (refine wpList_load_rowG ?hw _ _ rfl _ rfl _ _ _ _ b Try.underlying23 rfl ?hi ?_; (case hw => (first | rfl | (simp [Region.wanted, yielded]; done))); (case hi => (first | kernel_rfl | (rw [qfn_size]; kernel_rfl))))
      | (go_at_call 14; refine (awakeQ_any _).mono ?_; rintro e wx ⟨rfl, hb⟩; replace hB := hB.trans (hb.mono hB.size); clear hb))
    go_ret
    exact ⟨rfl, hB⟩
theorem qlengths_any (f g : Nat → Int) (w : World) (hf : ∀ i, i < 4 → I64 (f i)) (hg : ∀ i, i < 3 → I64 (g i)) : Calls Try.prog 3 #[.agg (qfn f), .agg (vfn g)] w fun e w' => e = .returned (.bool true) ∧ Below w.heap.size w w' := by
  have hU := fun w => lunit_any f w
  cases hb : lunB f with
  | false => rw [hb] at hU; exact qlen_out f g (lunF f) w hU
  | true =>
    rw [hb] at hU
    unfold lunB at hb
    rw [Bool.and_eq_true, beq_iff_eq] at hb
    obtain ⟨hk, he⟩ := hb
    have hz : zQ f = false := by
      cases hz : zQ f with
      | false => rfl
      | true => unfold qunE at he; rw [hk, hz] at he; cases he
    have hF : lunF f = qunF f := by unfold lunF; rw [hk]; rfl
    rw [hF] at hU
    obtain ⟨_, ku, _⟩ := qun_core hk hz
    obtain ⟨vu, e0, l0, u0⟩ := qun_valid hk hz
    have hIu : ∀ i, i < 4 → I64 (qunF f i) := okQ_I ku
    cases ht : turnOk (qunF f) g with
    | false =>
      obtain ⟨t1, t2⟩ := turn_not ht
      refine qlen_in f g (qunF f) (fun _ => 0) (fitV (nQ (qunF f))) 1073741824 2 w hU (fun b w ty p => ?_) (fun w => ?_) (fun w => ?_) ⟨l0, u0⟩ ⟨by decide, by decide⟩ (.inr ⟨rfl, rfl⟩)
      · have := hyp4_any (qunF f) b w ty hIu p; rwa [e0] at this
      · have := qvalid_any (qunF f) w hIu; rwa [vu] at this
      · have := turn_any (qunF f) g w hIu hg; rwa [t1, t2] at this
    | true =>
      unfold turnOk at ht
      rw [Bool.and_eq_true] at ht
      obtain ⟨t1, t2, tk, tz⟩ := turn_core hIu ht.1 ht.2
      obtain ⟨_, kt, _⟩ := qun_core tk tz
      obtain ⟨vt, e1, l1, u1⟩ := qun_valid tk tz
      rw [← t2] at kt vt e1 l1 u1
      have hIt : ∀ i, i < 4 → I64 (turnF (qunF f) g i) := okQ_I kt
      refine qlen_in f g (qunF f) (turnF (qunF f) g) (fitV (nQ (qunF f))) (fitV (nQ (turnF (qunF f) g))) 0 w hU (fun b w ty p => ?_) (fun w => ?_) (fun w => ?_) ⟨l0, u0⟩ ⟨l1, u1⟩ (.inl ⟨rfl, fun b w ty p => ?_, fun w => ?_⟩)
      · have := hyp4_any (qunF f) b w ty hIu p; rwa [e0] at this
      · have := qvalid_any (qunF f) w hIu; rwa [vu] at this
      · have := turn_any (qunF f) g w hIu hg; rwa [t1] at this
      · have := hyp4_any (turnF (qunF f) g) b w ty hIt p; rwa [e1] at this
      · have := qvalid_any (turnF (qunF f) g) w hIt; rwa [vt] at this
end Go.Proofs.Ytcgpcehdeihalaa
