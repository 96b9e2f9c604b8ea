/-
  The gyros of the package: methods.
-/
import Derived.Test.YtnkjbdfhdenbcaaGyB
import Derived.Test.YtnkjbdfhdenbcaaHeld
set_option linter.unusedSimpArgs false
set_option linter.unusedVariables false
namespace Go.Proofs.Ytnkjbdfhdenbcaa
open Go.RowKit PM Dt
theorem part_q (G : Nat → Int) (j : Nat) (hj : j < (vfn G).size) : (qfn G)[0 + j]? = (vfn G)[j]? := by
  rw [vfn_size] at hj
  rw [Nat.zero_add, qfn_get _ (by omega), vfn_get _ hj]
set_option maxRecDepth 100000 in
set_option maxHeartbeats 2000000 in
theorem gnone_any (G : Nat → Int) (b : Nat) (w : World) (hg : blk w b (qfn G) 88) : Calls Try.prog 78 #[.pointer (some ⟨b, 0, none⟩)] w fun e w' => e = .returned (.bool (decide (G 3 = 0))) ∧ w = w' := by
  have c3 : w.cell? ⟨b, 3, none⟩ = some (.int .i64 (G 3)) := hg.cellIs (qfn_get _ (by omega))
  clear hg
  go_enter Try.func78, Try.ntmps78
  go_wp2_with (fail)
  go_ret
  exact ⟨by first | rfl | (congr 2; simp), rfl⟩
set_option maxRecDepth 100000 in
set_option maxHeartbeats 2000000 in
theorem gnoneN_any  (w : World) : Calls Try.prog 78 #[.pointer none] w fun e w' => e = .returned (.bool true) ∧ w = w' := by
  go_enter Try.func78, Try.ntmps78
  go_wp2_with (fail)
  go_ret
  exact ⟨rfl, rfl⟩
/-- What is a gyro's memory. -/
def gyS (B : Nat → Int) (m : Int) : Nat → Int := fun i => if i = 0 then B 0 else if i = 1 then B 1 else if i = 2 then B 2 else m
theorem gyS_cells (B : Nat → Int) (m : Int) : #[Value.int .i64 (B 0), .int .i64 (B 1), .int .i64 (B 2), .int .i64 m] = qfn (gyS B m) := by unfold qfn gyS; rfl
def gyOk (B : Nat → Int) (m : Int) : Bool := smallB B 16777216 && (decide (1 ≤ m) && decide (m ≤ 1099511627776))
set_option maxRecDepth 100000 in
set_option maxHeartbeats 2000000 in
theorem newG_no1 (B : Nat → Int) (m : Int) (w : World) (h1 : smallB B 16777216 = false) : Calls Try.prog 30 #[.agg (vfn B), .int .i64 m] w fun e w' => e = .returned (.tuple #[.pointer none, .int .i64 2]) ∧ Below w.heap.size w w' := by
  have WB := Lib.hid (fun w => gwithin_any B 16777216 w (by omega) (by omega))
  rw [h1] at WB
  go_enter Try.func30, Try.ntmps30
  go_upto_region 1 with (fail)
  have p : blk (w.alloc (.cells (vfn B) 39)) w.heap.size (vfn B) 39 := blk.new _ _ _
  have hB : Below w.heap.size w (w.alloc (.cells (vfn B) 39)) := by go_grown
  generalize (w.alloc (.cells (vfn B) 39)) = w0 at *
  go_wp2_with (first
    | (refine wpList_load_rowG ?hw _ _ rfl _ rfl _ _ _ _ p Try.underlying39 rfl ?hi ?_; (case hw => (first | rfl | (simp [Region.wanted, yielded]; done))); (case hi => (first | kernel_rfl | (rw [vfn_size]; kernel_rfl))))
    | (go_at_call 72; with_reducible refine (WB.out _).mono ?_; rintro e w1 ⟨rfl, hb⟩; replace hB := hB.trans (hb.mono hB.size); replace p := p.below hb p.lt; clear hb))
  go_ret2
  exact ⟨rfl, hB⟩
set_option maxRecDepth 100000 in
set_option maxHeartbeats 2000000 in
theorem newG_no2 (B : Nat → Int) (m : Int) (w : World) (h1 : smallB B 16777216 = true) (h2 : decide (m < 1) = true) : Calls Try.prog 30 #[.agg (vfn B), .int .i64 m] w fun e w' => e = .returned (.tuple #[.pointer none, .int .i64 2]) ∧ Below w.heap.size w w' := by
  have WB := Lib.hid (fun w => gwithin_any B 16777216 w (by omega) (by omega))
  rw [h1] at WB
  go_enter Try.func30, Try.ntmps30
  go_upto_region 1 with (fail)
  have p : blk (w.alloc (.cells (vfn B) 39)) w.heap.size (vfn B) 39 := blk.new _ _ _
  have hB : Below w.heap.size w (w.alloc (.cells (vfn B) 39)) := by go_grown
  generalize (w.alloc (.cells (vfn B) 39)) = w0 at *
  go_wp2_with (first
    | (refine wpList_load_rowG ?hw _ _ rfl _ rfl _ _ _ _ p Try.underlying39 rfl ?hi ?_; (case hw => (first | rfl | (simp [Region.wanted, yielded]; done))); (case hi => (first | kernel_rfl | (rw [vfn_size]; kernel_rfl))))
    | (go_at_call 72; with_reducible refine (WB.out _).mono ?_; rintro e w1 ⟨rfl, hb⟩; replace hB := hB.trans (hb.mono hB.size); replace p := p.below hb p.lt; clear hb))
  go_ret2
  exact ⟨rfl, hB⟩
set_option maxRecDepth 100000 in
set_option maxHeartbeats 2000000 in
theorem newG_no3 (B : Nat → Int) (m : Int) (w : World) (h1 : smallB B 16777216 = true) (h2 : decide (m < 1) = false) (h3 : decide (1099511627776 < m) = true) : Calls Try.prog 30 #[.agg (vfn B), .int .i64 m] w fun e w' => e = .returned (.tuple #[.pointer none, .int .i64 2]) ∧ Below w.heap.size w w' := by
  have WB := Lib.hid (fun w => gwithin_any B 16777216 w (by omega) (by omega))
  rw [h1] at WB
  go_enter Try.func30, Try.ntmps30
  go_upto_region 1 with (fail)
  have p : blk (w.alloc (.cells (vfn B) 39)) w.heap.size (vfn B) 39 := blk.new _ _ _
  have hB : Below w.heap.size w (w.alloc (.cells (vfn B) 39)) := by go_grown
  generalize (w.alloc (.cells (vfn B) 39)) = w0 at *
  go_wp2_with (first
    | (refine wpList_load_rowG ?hw _ _ rfl _ rfl _ _ _ _ p Try.underlying39 rfl ?hi ?_; (case hw => (first | rfl | (simp [Region.wanted, yielded]; done))); (case hi => (first | kernel_rfl | (rw [vfn_size]; kernel_rfl))))
    | (go_at_call 72; with_reducible refine (WB.out _).mono ?_; rintro e w1 ⟨rfl, hb⟩; replace hB := hB.trans (hb.mono hB.size); replace p := p.below hb p.lt; clear hb))
  go_ret2
  exact ⟨rfl, hB⟩
set_option maxRecDepth 100000 in
set_option maxHeartbeats 2000000 in
theorem newG_ok (B : Nat → Int) (m : Int) (w : World) (h1 : smallB B 16777216 = true) (h2 : decide (m < 1) = false) (h3 : decide (1099511627776 < m) = false) : Calls Try.prog 30 #[.agg (vfn B), .int .i64 m] w fun e w' => ∃ b, e = .returned (.tuple #[.pointer (some ⟨b, 0, none⟩), .int .i64 0]) ∧ blk w' b (qfn (gyS B m)) 88 ∧ w.heap.size ≤ b ∧ Below w.heap.size w w' := by
  have WB := Lib.hid (fun w => gwithin_any B 16777216 w (by omega) (by omega))
  rw [h1] at WB
  go_enter Try.func30, Try.ntmps30
  go_upto_region 1 with (fail)
  have p : blk (w.alloc (.cells (vfn B) 39)) w.heap.size (vfn B) 39 := blk.new _ _ _
  have hB : Below w.heap.size w (w.alloc (.cells (vfn B) 39)) := by go_grown
  generalize (w.alloc (.cells (vfn B) 39)) = w0 at *
  go_upto_region 3 with (first
    | (refine wpList_load_rowG ?hw _ _ rfl _ rfl _ _ _ _ p Try.underlying39 rfl ?hi ?_; (case hw => (first | rfl | (simp [Region.wanted, yielded]; done))); (case hi => (first | kernel_rfl | (rw [vfn_size]; kernel_rfl))))
    | (go_at_call 72; with_reducible refine (WB.out _).mono ?_; rintro e w1 ⟨rfl, hb⟩; replace hB := hB.trans (hb.mono hB.size); replace p := p.below hb p.lt; clear hb))
  unfold vfn at p
  go_wp2_with (first
    | (refine wpList_load_rowG ?hw _ _ rfl _ rfl _ _ _ _ p Try.underlying39 rfl ?hi ?_; (case hw => (first | rfl | (simp [Region.wanted, yielded]; done))); (case hi => (first | kernel_rfl | (rw [vfn_size]; kernel_rfl)))))
  rw [gyS_cells]
  go_ret2
  exact ⟨w1.heap.size, rfl, blk.new _ _ _, hB.size, hB.alloc hB.size _⟩
set_option maxRecDepth 100000 in
set_option maxHeartbeats 2000000 in
theorem gbias_none (v : Value) (w : World) (hn : ∀ w', Below w.heap.size w w' → Calls Try.prog 78 #[v] w' fun e w2 => e = .returned (.bool true) ∧ w' = w2) : Calls Try.prog 36 #[v] w fun e w' => e = .returned (.agg (vfn fun _ => 0)) ∧ Below w.heap.size w w' := by
  have NN := Lib.hid hn
  clear hn
  go_enter Try.func36, Try.ntmps36
  go_upto_region 1 with (fail)
  simp only [zero_vec]
  have r : blk (w.alloc (.cells (vfn fun _ => 0) 39)) w.heap.size (vfn fun _ => 0) 39 := blk.new _ _ _
  have hB : Below w.heap.size w (w.alloc (.cells (vfn fun _ => 0) 39)) := by go_grown
  generalize (w.alloc (.cells (vfn fun _ => 0) 39)) = w0 at *
  go_wp2_with (first
    | (go_at_call 78; with_reducible refine (NN.out _ hB).mono ?_; rintro e w9 ⟨rfl, rfl⟩)
    | (rw [zero_vec]; refine wpList_store_row rfl _ _ _ rfl _ rfl _ rfl _ _ r (by first | kernel_rfl | (rw [vfn_size]; kernel_rfl)) (by first | rfl | simp only [vfn_size]) (by first | exact vfn_one _ | rfl) ?_))
  refine bodyPost_ret (results_cell_row rfl _ _ _ _ _ _ _ rfl (r.row (vfn (fun _ => 0))) Try.underlying39 rfl (by first | kernel_rfl | (rw [vfn_size]; kernel_rfl))) rfl ?_
  refine ⟨?_, Below.setRow hB (by omega) _⟩
  rfl
set_option maxRecDepth 100000 in
set_option maxHeartbeats 2000000 in
theorem gbias_any (G : Nat → Int) (b : Nat) (w : World) (hg : blk w b (qfn G) 88) (h3 : G 3 ≠ 0) : Calls Try.prog 36 #[.pointer (some ⟨b, 0, none⟩)] w fun e w' => e = .returned (.agg (vfn G)) ∧ Below w.heap.size w w' := by
  have NN := Lib.hid (fun w' (hb : Below w.heap.size w w') => gnone_any G b w' (hg.below hb hg.lt))
  rw [show decide (G 3 = 0) = false from decide_eq_false h3] at NN
  go_enter Try.func36, Try.ntmps36
  go_upto_region 1 with (fail)
  simp only [zero_vec]
  have r : blk (w.alloc (.cells (vfn fun _ => 0) 39)) w.heap.size (vfn fun _ => 0) 39 := blk.new _ _ _
  have hB : Below w.heap.size w (w.alloc (.cells (vfn fun _ => 0) 39)) := by go_grown
  generalize (w.alloc (.cells (vfn fun _ => 0) 39)) = w0 at *
  have g : blk w0 b (qfn G) 88 := hg.below hB hg.lt
  clear hg
  go_wp2_with (first
    | (go_at_call 78; with_reducible refine (NN.out _ hB).mono ?_; rintro e w9 ⟨rfl, rfl⟩)
    | (refine wpList_load_part ?hw _ _ rfl _ _ rfl _ _ g (vfn G) (part_q G) _ Try.underlying39 rfl ?hi ?_; (case hw => (first | rfl | (simp [Region.wanted, yielded]; done))); (case hi => (rw [vfn_size]; kernel_rfl)))
    | (refine wpList_store_row rfl _ _ _ rfl _ rfl _ rfl _ _ r (by first | kernel_rfl | (rw [vfn_size]; kernel_rfl)) (by first | rfl | simp only [vfn_size]) (by first | exact vfn_one _ | rfl) ?_))
  refine bodyPost_ret (results_cell_row rfl _ _ _ _ _ _ _ rfl (r.row (vfn G)) Try.underlying39 rfl (by first | kernel_rfl | (rw [vfn_size]; kernel_rfl))) rfl ?_
  refine ⟨?_, Below.setRow hB (by omega) _⟩
  rfl
/-- Two or three vectors in a row. -/
def pick3 (A B C : Nat → Int) : Nat → Nat → Int := fun k => if k = 0 then A else if k = 1 then B else C
theorem rows_pick (A B C : Nat → Int) (k : Nat) (hk : k < 3) (j : Nat) (hj : j < 3) :
    (#[Value.int .i64 (A 0), .int .i64 (A 1), .int .i64 (A 2), .int .i64 (B 0), .int .i64 (B 1), .int .i64 (B 2), .int .i64 (C 0), .int .i64 (C 1), .int .i64 (C 2)] : Array Value)[k * 3 + j]? = some (.int .i64 (pick3 A B C k j)) := by
  rcases (show k = 0 ∨ k = 1 ∨ k = 2 by omega) with rfl | rfl | rfl <;> rcases (show j = 0 ∨ j = 1 ∨ j = 2 by omega) with rfl | rfl | rfl <;> rfl
theorem rows_pick2 (A B : Nat → Int) (k : Nat) (hk : k < 2) (j : Nat) (hj : j < 3) :
    (#[Value.int .i64 (A 0), .int .i64 (A 1), .int .i64 (A 2), .int .i64 (B 0), .int .i64 (B 1), .int .i64 (B 2)] : Array Value)[k * 3 + j]? = some (.int .i64 (pick3 A B B k j)) := by
  rcases (show k = 0 ∨ k = 1 by omega) with rfl | rfl <;> rcases (show j = 0 ∨ j = 1 ∨ j = 2 by omega) with rfl | rfl | rfl <;> rfl
theorem rows_pick1 (A : Nat → Int) (k : Nat) (hk : k < 1) (j : Nat) (hj : j < 3) :
    (#[Value.int .i64 (A 0), .int .i64 (A 1), .int .i64 (A 2)] : Array Value)[k * 3 + j]? = some (.int .i64 (pick3 A A A k j)) := by
  obtain rfl : k = 0 := by omega
  rcases (show j = 0 ∨ j = 1 ∨ j = 2 by omega) with rfl | rfl | rfl <;> rfl
/-- The bounds of a gyro. -/
def GI (G : Nat → Int) : Prop := (∀ i, i < 3 → -16777216 ≤ G i ∧ G i ≤ 16777216) ∧ 1 ≤ G 3 ∧ G 3 ≤ 1099511627776
theorem pick3_bd {R G Z : Nat → Int} (hR : ∀ i, i < 3 → -4398046511104 ≤ R i ∧ R i ≤ 4398046511104) (hG : GI G) (hZ : ∀ i, i < 3 → -4398046511104 ≤ Z i ∧ Z i ≤ 4398046511104) (k : Nat) (hk : k < 3) (j : Nat) (hj : j < 3) : -4398046511104 ≤ pick3 R G Z k j ∧ pick3 R G Z k j ≤ 4398046511104 := by
  unfold pick3
  split
  · exact hR j hj
  · split
    · have := hG.1 j hj; omega
    · exact hZ j hj
def readF (G R Z : Nat → Int) : Nat → Int := fun i => clampV (sumF (pick3 R G Z) 3 i) (-G 3) (G 3)
set_option maxRecDepth 100000 in
set_option maxHeartbeats 4000000 in
theorem gread_no1 (G R Z : Nat → Int) (b : Nat) (w : World) (hg : blk w b (qfn G) 88) (hG : GI G) (hR : okV R = false) : Calls Try.prog 34 #[.pointer (some ⟨b, 0, none⟩), .agg (vfn R), .agg (vfn Z)] w fun e w' => e = .returned (.tuple #[.agg (vfn fun _ => 0), .int .i64 2]) ∧ Below w.heap.size w w' := by
  have h3 : G 3 ≠ 0 := by have := hG.2; omega
  have NN := Lib.hid (fun w' (hb : Below w.heap.size w w') => gnone_any G b w' (hg.below hb hg.lt))
  rw [show decide (G 3 = 0) = false from decide_eq_false h3] at NN

  have VR := Lib.hid (fun w => valid_any R w)
  have VZ := Lib.hid (fun w => valid_any Z w)
  rw [hR] at VR
  go_enter Try.func34, Try.ntmps34
  go_upto_region 1 with (fail)
  simp only [zero_vec]
  have p : blk (((w.alloc (.cells (vfn R) 39)).alloc (.cells (vfn Z) 39)).alloc (.cells (vfn fun _ => 0) 39)) w.heap.size (vfn R) 39 := ((blk.new _ _ _).alloc _).alloc _
  have q : blk (((w.alloc (.cells (vfn R) 39)).alloc (.cells (vfn Z) 39)).alloc (.cells (vfn fun _ => 0) 39)) (w.heap.size + 1) (vfn Z) 39 := (blk.new' (by simp)).alloc _
  have r : blk (((w.alloc (.cells (vfn R) 39)).alloc (.cells (vfn Z) 39)).alloc (.cells (vfn fun _ => 0) 39)) (w.heap.size + 2) (vfn fun _ => 0) 39 := blk.new' (by simp)
  have hB : Below w.heap.size w (((w.alloc (.cells (vfn R) 39)).alloc (.cells (vfn Z) 39)).alloc (.cells (vfn fun _ => 0) 39)) := by go_grown
  generalize (((w.alloc (.cells (vfn R) 39)).alloc (.cells (vfn Z) 39)).alloc (.cells (vfn fun _ => 0) 39)) = w0 at *
  have hgl := hg.lt
  have g : blk w0 b (qfn G) 88 := hg.below hB hg.lt
  clear hg
  go_wp2_with (first
    | (refine wpList_load_rowG ?hw _ _ rfl _ rfl _ _ _ _ p Try.underlying39 rfl ?hi ?_; (case hw => (first | rfl | (simp [Region.wanted, yielded]; done))); (case hi => (first | kernel_rfl | (rw [vfn_size]; kernel_rfl))))
    | (refine wpList_load_rowG ?hw _ _ rfl _ rfl _ _ _ _ q Try.underlying39 rfl ?hi ?_; (case hw => (first | rfl | (simp [Region.wanted, yielded]; done))); (case hi => (first | kernel_rfl | (rw [vfn_size]; kernel_rfl))))
    | (go_at_call 79; with_reducible refine (VR.out _).mono ?_; rintro e w1 ⟨rfl, hb⟩; replace hB := hB.trans (hb.mono hB.size); replace p := p.below hb p.lt; replace q := q.below hb q.lt; replace r := r.below hb r.lt; replace g := g.below hb g.lt; clear hb)
    | (go_at_call 78; with_reducible refine (NN.out _ hB).mono ?_; rintro e w9 ⟨rfl, rfl⟩)
    | (rw [zero_vec]; refine wpList_store_row rfl _ _ _ rfl _ rfl _ rfl _ _ r (by first | kernel_rfl | (rw [vfn_size]; kernel_rfl)) (by first | rfl | simp only [vfn_size]) (by first | exact vfn_one _ | rfl) ?_))
  refine bodyPost_ret (results_vec rfl _ _ _ _ _ _ _ rfl (r.row (vfn (fun _ => 0))) Try.underlying39 rfl (by first | kernel_rfl | (rw [vfn_size]; kernel_rfl))) rfl ?_
  refine ⟨?_, Below.setRow hB (by omega) _⟩
  rfl
set_option maxRecDepth 100000 in
set_option maxHeartbeats 4000000 in
theorem gread_no2 (G R Z : Nat → Int) (b : Nat) (w : World) (hg : blk w b (qfn G) 88) (hG : GI G) (hR : okV R = true) (hZ : okV Z = false) : Calls Try.prog 34 #[.pointer (some ⟨b, 0, none⟩), .agg (vfn R), .agg (vfn Z)] w fun e w' => e = .returned (.tuple #[.agg (vfn fun _ => 0), .int .i64 2]) ∧ Below w.heap.size w w' := by
  have h3 : G 3 ≠ 0 := by have := hG.2; omega
  have NN := Lib.hid (fun w' (hb : Below w.heap.size w w') => gnone_any G b w' (hg.below hb hg.lt))
  rw [show decide (G 3 = 0) = false from decide_eq_false h3] at NN
  skip
  have VR := Lib.hid (fun w => valid_any R w)
  have VZ := Lib.hid (fun w => valid_any Z w)
  rw [hR] at VR
  go_enter Try.func34, Try.ntmps34
  go_upto_region 1 with (fail)
  simp only [zero_vec]
  have p : blk (((w.alloc (.cells (vfn R) 39)).alloc (.cells (vfn Z) 39)).alloc (.cells (vfn fun _ => 0) 39)) w.heap.size (vfn R) 39 := ((blk.new _ _ _).alloc _).alloc _
  have q : blk (((w.alloc (.cells (vfn R) 39)).alloc (.cells (vfn Z) 39)).alloc (.cells (vfn fun _ => 0) 39)) (w.heap.size + 1) (vfn Z) 39 := (blk.new' (by simp)).alloc _
  have r : blk (((w.alloc (.cells (vfn R) 39)).alloc (.cells (vfn Z) 39)).alloc (.cells (vfn fun _ => 0) 39)) (w.heap.size + 2) (vfn fun _ => 0) 39 := blk.new' (by simp)
  have hB : Below w.heap.size w (((w.alloc (.cells (vfn R) 39)).alloc (.cells (vfn Z) 39)).alloc (.cells (vfn fun _ => 0) 39)) := by go_grown
  generalize (((w.alloc (.cells (vfn R) 39)).alloc (.cells (vfn Z) 39)).alloc (.cells (vfn fun _ => 0) 39)) = w0 at *
  have hgl := hg.lt
  have g : blk w0 b (qfn G) 88 := hg.below hB hg.lt
  clear hg
  rw [hZ] at VZ
  go_wp2_with (first
    | (refine wpList_load_rowG ?hw _ _ rfl _ rfl _ _ _ _ p Try.underlying39 rfl ?hi ?_; (case hw => (first | rfl | (simp [Region.wanted, yielded]; done))); (case hi => (first | kernel_rfl | (rw [vfn_size]; kernel_rfl))))
    | (refine wpList_load_rowG ?hw _ _ rfl _ rfl _ _ _ _ q Try.underlying39 rfl ?hi ?_; (case hw => (first | rfl | (simp [Region.wanted, yielded]; done))); (case hi => (first | kernel_rfl | (rw [vfn_size]; kernel_rfl))))
    | (go_at_call 79; with_reducible refine (VR.out _).mono ?_; rintro e w1 ⟨rfl, hb⟩; replace hB := hB.trans (hb.mono hB.size); replace p := p.below hb p.lt; replace q := q.below hb q.lt; replace r := r.below hb r.lt; replace g := g.below hb g.lt; clear hb)
    | (go_at_call 79; with_reducible refine (VZ.out _).mono ?_; rintro e w2 ⟨rfl, hb⟩; replace hB := hB.trans (hb.mono hB.size); replace p := p.below hb p.lt; replace q := q.below hb q.lt; replace r := r.below hb r.lt; replace g := g.below hb g.lt; clear hb)
    | (go_at_call 78; with_reducible refine (NN.out _ hB).mono ?_; rintro e w9 ⟨rfl, rfl⟩)
    | (rw [zero_vec]; refine wpList_store_row rfl _ _ _ rfl _ rfl _ rfl _ _ r (by first | kernel_rfl | (rw [vfn_size]; kernel_rfl)) (by first | rfl | simp only [vfn_size]) (by first | exact vfn_one _ | rfl) ?_))
  refine bodyPost_ret (results_vec rfl _ _ _ _ _ _ _ rfl (r.row (vfn (fun _ => 0))) Try.underlying39 rfl (by first | kernel_rfl | (rw [vfn_size]; kernel_rfl))) rfl ?_
  refine ⟨?_, Below.setRow hB (by omega) _⟩
  rfl
set_option maxRecDepth 100000 in
set_option maxHeartbeats 4000000 in
theorem gread_ok (G R Z : Nat → Int) (b : Nat) (w : World) (hg : blk w b (qfn G) 88) (hG : GI G) (hR : okV R = true) (hZ : okV Z = true) (hRb : ∀ i, i < 3 → -4398046511104 ≤ R i ∧ R i ≤ 4398046511104) (hZb : ∀ i, i < 3 → -4398046511104 ≤ Z i ∧ Z i ≤ 4398046511104) : Calls Try.prog 34 #[.pointer (some ⟨b, 0, none⟩), .agg (vfn R), .agg (vfn Z)] w fun e w' => e = .returned (.tuple #[.agg (vfn (readF G R Z)), .int .i64 0]) ∧ Below w.heap.size w w' := by
  have h3 : G 3 ≠ 0 := by have := hG.2; omega
  have NN := Lib.hid (fun w' (hb : Below w.heap.size w w') => gnone_any G b w' (hg.below hb hg.lt))
  rw [show decide (G 3 = 0) = false from decide_eq_false h3] at NN
  skip
  have VR := Lib.hid (fun w => valid_any R w)
  have VZ := Lib.hid (fun w => valid_any Z w)
  rw [hR] at VR
  go_enter Try.func34, Try.ntmps34
  go_upto_region 1 with (fail)
  simp only [zero_vec]
  have p : blk (((w.alloc (.cells (vfn R) 39)).alloc (.cells (vfn Z) 39)).alloc (.cells (vfn fun _ => 0) 39)) w.heap.size (vfn R) 39 := ((blk.new _ _ _).alloc _).alloc _
  have q : blk (((w.alloc (.cells (vfn R) 39)).alloc (.cells (vfn Z) 39)).alloc (.cells (vfn fun _ => 0) 39)) (w.heap.size + 1) (vfn Z) 39 := (blk.new' (by simp)).alloc _
  have r : blk (((w.alloc (.cells (vfn R) 39)).alloc (.cells (vfn Z) 39)).alloc (.cells (vfn fun _ => 0) 39)) (w.heap.size + 2) (vfn fun _ => 0) 39 := blk.new' (by simp)
  have hB : Below w.heap.size w (((w.alloc (.cells (vfn R) 39)).alloc (.cells (vfn Z) 39)).alloc (.cells (vfn fun _ => 0) 39)) := by go_grown
  generalize (((w.alloc (.cells (vfn R) 39)).alloc (.cells (vfn Z) 39)).alloc (.cells (vfn fun _ => 0) 39)) = w0 at *
  have hgl := hg.lt
  have g : blk w0 b (qfn G) 88 := hg.below hB hg.lt
  clear hg
  rw [hZ] at VZ
  have CL := Lib.hid (fun b C t w (hb : blk w b C t) hC => clamped_any (pick3 R G Z) 3 (G 3) b C t w hb hC (by omega) (pick3_bd hRb hG hZb) (by have := hG.2; omega) (by have := hG.2; omega))
  go_upto_region 5 with (first
    | (refine wpList_load_rowG ?hw _ _ rfl _ rfl _ _ _ _ p Try.underlying39 rfl ?hi ?_; (case hw => (first | rfl | (simp [Region.wanted, yielded]; done))); (case hi => (first | kernel_rfl | (rw [vfn_size]; kernel_rfl))))
    | (refine wpList_load_rowG ?hw _ _ rfl _ rfl _ _ _ _ q Try.underlying39 rfl ?hi ?_; (case hw => (first | rfl | (simp [Region.wanted, yielded]; done))); (case hi => (first | kernel_rfl | (rw [vfn_size]; kernel_rfl))))
    | (go_at_call 79; with_reducible refine (VR.out _).mono ?_; rintro e w1 ⟨rfl, hb⟩; replace hB := hB.trans (hb.mono hB.size); replace p := p.below hb p.lt; replace q := q.below hb q.lt; replace r := r.below hb r.lt; replace g := g.below hb g.lt; clear hb)
    | (go_at_call 79; with_reducible refine (VZ.out _).mono ?_; rintro e w2 ⟨rfl, hb⟩; replace hB := hB.trans (hb.mono hB.size); replace p := p.below hb p.lt; replace q := q.below hb q.lt; replace r := r.below hb r.lt; replace g := g.below hb g.lt; clear hb)
    | (go_at_call 78; with_reducible refine (NN.out _ hB).mono ?_; rintro e w9 ⟨rfl, rfl⟩))
  refine wp_region_E 14 99 (fun w' => blk w' w.heap.size (vfn R) 39 ∧ blk w' (w.heap.size + 1) (vfn Z) 39 ∧ blk w' b (qfn G) 88) rfl (by kernel_rfl) ?_
  replace p := p.drew
  replace q := q.drew
  replace r := r.drew
  replace g := g.drew
  replace hB : Below w.heap.size w w2.drew := hB.drew
  generalize w2.drew = w2d at *
  apply wpE_take 0; (case ho' => exact rfl); (case hg => exact rfl); (case hB => kernel_rfl); (case hQ => exact fun _ _ _ h => h); (case hS => exact ⟨p, q, g⟩); (case h => (rintro w1 ⟨p, q, g⟩; go_simp; exact ⟨rfl, rfl⟩))
  simp only [Act.put, List.setIfInBounds_toArray, List.set_cons_zero, List.set_cons_succ]
  apply wpE_take 1; (case ho' => exact rfl); (case hg => exact rfl); (case hB => kernel_rfl); (case hQ => exact fun _ _ _ h => h); (case hS => exact ⟨p, q, g⟩); (case h => (rintro w1 ⟨p, q, g⟩; go_simp; exact ⟨rfl, rfl⟩))
  simp only [Act.put, List.setIfInBounds_toArray, List.set_cons_zero, List.set_cons_succ]
  apply wpE_take 2; (case ho' => exact rfl); (case hg => exact rfl); (case hB => kernel_rfl); (case hQ => exact fun _ _ _ h => h); (case hS => exact ⟨p, q, g⟩); (case h => (rintro w1 ⟨p, q, g⟩; go_simp; exact ⟨rfl, rfl⟩))
  simp only [Act.put, List.setIfInBounds_toArray, List.set_cons_zero, List.set_cons_succ]
  apply wpE_take 3; (case ho' => exact rfl); (case hg => exact rfl); (case hB => kernel_rfl); (case hQ => exact fun _ _ _ h => h); (case hS => exact ⟨p, q, g⟩); (case h => (rintro w1 ⟨p, q, g⟩; first | exact valR_row _ _ rfl _ rfl _ _ g _ Try.underlying88 rfl (by first | kernel_rfl | (rw [qfn_size]; kernel_rfl)) rfl | (have hc := g.cellIs (qfn_get _ (show 3 < 4 by omega)); go_simp; exact ⟨rfl, rfl⟩)))
  simp only [Act.put, List.setIfInBounds_toArray, List.set_cons_zero, List.set_cons_succ]
  apply wpE_take 4; (case ho' => exact rfl); (case hg => exact rfl); (case hB => kernel_rfl); (case hQ => exact fun _ _ _ h => h); (case hS => exact ⟨p, q, g⟩); (case h => (rintro w1 ⟨p, q, g⟩; first | exact valR_row _ _ rfl _ rfl _ _ p _ Try.underlying39 rfl (by first | kernel_rfl | (rw [vfn_size]; kernel_rfl)) rfl | (have hc := p.cellIs (vfn_get _ (show 0 < 3 by omega)); go_simp; exact ⟨rfl, rfl⟩)))
  simp only [Act.put, List.setIfInBounds_toArray, List.set_cons_zero, List.set_cons_succ]
  apply wpE_take 5; (case ho' => exact rfl); (case hg => exact rfl); (case hB => kernel_rfl); (case hQ => exact fun _ _ _ h => h); (case hS => exact ⟨p, q, g⟩); (case h => (rintro w1 ⟨p, q, g⟩; go_simp; exact ⟨rfl, rfl⟩))
  simp only [Act.put, List.setIfInBounds_toArray, List.set_cons_zero, List.set_cons_succ]
  apply wpE_take 6; (case ho' => exact rfl); (case hg => exact rfl); (case hB => kernel_rfl); (case hQ => exact fun _ _ _ h => h); (case hS => exact ⟨p, q, g⟩); (case h => (rintro w1 ⟨p, q, g⟩; go_simp; exact ⟨rfl, rfl⟩))
  simp only [Act.put, List.setIfInBounds_toArray, List.set_cons_zero, List.set_cons_succ]
  apply wpE_take 7; (case ho' => exact rfl); (case hg => exact rfl); (case hB => kernel_rfl); (case hQ => exact fun _ _ _ h => h); (case hS => exact ⟨p, q, g⟩); (case h => (rintro w1 ⟨p, q, g⟩; go_simp; exact ⟨rfl, rfl⟩))
  simp only [Act.put, List.setIfInBounds_toArray, List.set_cons_zero, List.set_cons_succ]
  apply wpE_take 8; (case ho' => exact rfl); (case hg => exact rfl); (case hB => kernel_rfl); (case hQ => exact fun _ _ _ h => h); (case hS => exact ⟨p, q, g⟩); (case h => (rintro w1 ⟨p, q, g⟩; exact valR_part _ _ rfl _ 0 rfl _ _ g (vfn G) (part_q G) _ Try.underlying39 rfl (by rw [vfn_size]; kernel_rfl) rfl))
  simp only [Act.put, List.setIfInBounds_toArray, List.set_cons_zero, List.set_cons_succ]
  apply wpE_take 9; (case ho' => exact rfl); (case hg => exact rfl); (case hB => kernel_rfl); (case hQ => exact fun _ _ _ h => h); (case hS => exact ⟨p, q, g⟩); (case h => (rintro w1 ⟨p, q, g⟩; first | exact valR_row _ _ rfl _ rfl _ _ q _ Try.underlying39 rfl (by first | kernel_rfl | (rw [vfn_size]; kernel_rfl)) rfl | (have hc := q.cellIs (vfn_get _ (show 0 < 3 by omega)); go_simp; exact ⟨rfl, rfl⟩)))
  simp only [Act.put, List.setIfInBounds_toArray, List.set_cons_zero, List.set_cons_succ]
  unfold vfn at p q ⊢
  refine wpE_one 10 rfl (by kernel_rfl) ?_
  go_wp2_with (fail)
  have l := blk.new w2d #[.int .i64 (R 0), .int .i64 (R 1), .int .i64 (R 2), .int .i64 (G 0), .int .i64 (G 1), .int .i64 (G 2), .int .i64 (Z 0), .int .i64 (Z 1), .int .i64 (Z 2)] 39
  replace hB := hB.alloc hB.size (.cells #[.int .i64 (R 0), .int .i64 (R 1), .int .i64 (R 2), .int .i64 (G 0), .int .i64 (G 1), .int .i64 (G 2), .int .i64 (Z 0), .int .i64 (Z 1), .int .i64 (Z 2)] 39)
  replace p := p.alloc (.cells #[.int .i64 (R 0), .int .i64 (R 1), .int .i64 (R 2), .int .i64 (G 0), .int .i64 (G 1), .int .i64 (G 2), .int .i64 (Z 0), .int .i64 (Z 1), .int .i64 (Z 2)] 39)
  replace q := q.alloc (.cells #[.int .i64 (R 0), .int .i64 (R 1), .int .i64 (R 2), .int .i64 (G 0), .int .i64 (G 1), .int .i64 (G 2), .int .i64 (Z 0), .int .i64 (Z 1), .int .i64 (Z 2)] 39)
  replace r := r.alloc (.cells #[.int .i64 (R 0), .int .i64 (R 1), .int .i64 (R 2), .int .i64 (G 0), .int .i64 (G 1), .int .i64 (G 2), .int .i64 (Z 0), .int .i64 (Z 1), .int .i64 (Z 2)] 39)
  replace g := g.alloc (.cells #[.int .i64 (R 0), .int .i64 (R 1), .int .i64 (R 2), .int .i64 (G 0), .int .i64 (G 1), .int .i64 (G 2), .int .i64 (Z 0), .int .i64 (Z 1), .int .i64 (Z 2)] 39)
  generalize w2d.alloc (.cells #[.int .i64 (R 0), .int .i64 (R 1), .int .i64 (R 2), .int .i64 (G 0), .int .i64 (G 1), .int .i64 (G 2), .int .i64 (Z 0), .int .i64 (Z 1), .int .i64 (Z 2)] 39) = w2dx at *
  generalize w2d.heap.size = l_b at *
  refine Nh_ok ⟨fun _ => ⟨p, q, g⟩, ?_⟩
  try simp only [Act.put, List.setIfInBounds_toArray, List.set_cons_zero, List.set_cons_succ]
  refine wpE_one 11 rfl (by kernel_rfl) ?_
  go_wp2_with ((go_at_call 80; with_reducible refine (CL.out _ _ _ _ l (rows_pick R G Z)).mono ?_; rintro e w5 ⟨rfl, hb⟩; replace hB := hB.trans (hb.mono hB.size); replace p := p.below hb p.lt; replace q := q.below hb q.lt; replace r := r.below hb r.lt; replace g := g.below hb g.lt; replace l := l.below hb l.lt; clear hb))
  refine Nh_ok ⟨fun _ => ⟨p, q, g⟩, ?_⟩
  try simp only [Act.put, List.setIfInBounds_toArray, List.set_cons_zero, List.set_cons_succ]
  clear l
  refine wpE_one 12 rfl (by kernel_rfl) ?_
  go_wp2_with ((refine wpList_store_row rfl _ _ _ rfl _ rfl _ rfl _ _ r (by first | kernel_rfl | (rw [vfn_size]; kernel_rfl)) (by first | rfl | simp only [vfn_size]) (by first | exact vfn_one _ | rfl) ?_))
  replace p := p.rowOther (show w.heap.size ≠ w.heap.size + 2 by omega) (vfn (fun i => clampV (sumF (pick3 R G Z) 3 i) (-G 3) (G 3)))
  replace q := q.rowOther (show w.heap.size + 1 ≠ w.heap.size + 2 by omega) (vfn (fun i => clampV (sumF (pick3 R G Z) 3 i) (-G 3) (G 3)))
  replace g := g.rowOther (show b ≠ w.heap.size + 2 by omega) (vfn (fun i => clampV (sumF (pick3 R G Z) 3 i) (-G 3) (G 3)))
  replace r := r.row (vfn (fun i => clampV (sumF (pick3 R G Z) 3 i) (-G 3) (G 3)))
  replace hB := Below.setRow hB (show w.heap.size ≤ w.heap.size + 2 by omega) (vfn (fun i => clampV (sumF (pick3 R G Z) 3 i) (-G 3) (G 3)))
  generalize w5.setRow (w.heap.size + 2) (vfn (fun i => clampV (sumF (pick3 R G Z) 3 i) (-G 3) (G 3))) = w5s at *
  refine Nh_ok ⟨fun _ => ⟨p, q, g⟩, ?_⟩
  try simp only [Act.put, List.setIfInBounds_toArray, List.set_cons_zero, List.set_cons_succ]
  refine wpE_one 13 rfl (by kernel_rfl) ?_
  go_wp2_with (fail)
  refine Nh_ok ⟨fun _ => ⟨p, q, g⟩, ?_⟩
  try simp only [Act.put, List.setIfInBounds_toArray, List.set_cons_zero, List.set_cons_succ]
  refine wpE_end (by kernel_rfl) ?_
  go_wp2_with (first
    | (refine wpList_load_rowG ?hw _ _ rfl _ rfl _ _ _ _ p Try.underlying39 rfl ?hi ?_; (case hw => (first | rfl | (simp [Region.wanted, yielded]; done))); (case hi => (first | kernel_rfl | (rw [vfn_size]; kernel_rfl))))
    | (refine wpList_load_rowG ?hw _ _ rfl _ rfl _ _ _ _ q Try.underlying39 rfl ?hi ?_; (case hw => (first | rfl | (simp [Region.wanted, yielded]; done))); (case hi => (first | kernel_rfl | (rw [vfn_size]; kernel_rfl))))
    | (refine wpList_load_rowG ?hw _ _ rfl _ rfl _ _ _ _ r Try.underlying39 rfl ?hi ?_; (case hw => (first | rfl | (simp [Region.wanted, yielded]; done))); (case hi => (first | kernel_rfl | (rw [vfn_size]; kernel_rfl)))))
  refine bodyPost_ret (results_vec rfl _ _ _ _ _ _ _ rfl r Try.underlying39 rfl (by first | kernel_rfl | (rw [vfn_size]; kernel_rfl))) rfl ?_
  refine ⟨?_, hB⟩
  rfl
end Go.Proofs.Ytnkjbdfhdenbcaa
