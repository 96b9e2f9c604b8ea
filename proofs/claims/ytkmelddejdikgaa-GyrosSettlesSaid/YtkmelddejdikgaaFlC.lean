/-
  The gyros of the package: methods. The filter of the package: none, Attitude, Bias, turn. The filter of the package: New, Predict. The filter of the package: Correct.
-/
import Derived.Test.YtkmelddejdikgaaGyB
import Derived.Test.YtkmelddejdikgaaHeld
import Derived.Test.YtkmelddejdikgaaInv
import Derived.Test.YtkmelddejdikgaaTurn
import Derived.Test.YtkmelddejdikgaaVUnit
import Derived.Test.YtkmelddejdikgaaBet
set_option linter.unusedSimpArgs false
set_option linter.unusedVariables false
namespace Go.Proofs.Ytkmelddejdikgaa
open Go.RowKit PM Dt
theorem part_q (G : Nat → Int) (j : Nat) (hj : j < (vfn G).size) : (qfn G)[0 + j]? = (vfn G)[j]? := by
  rw [vfn_size] at hj
  rw [Nat.zero_add, qfn_get _ (by omega), vfn_get _ hj]
set_option maxRecDepth 100000 in
set_option maxHeartbeats 2000000 in
theorem gnone_any (G : Nat → Int) (b : Nat) (w : World) (hg : blk w b (qfn G) 163) : Calls Try.prog 100 #[.pointer (some ⟨b, 0, none⟩)] w fun e w' => e = .returned (.bool (decide (G 3 = 0))) ∧ w = w' := by
  have c3 : w.cell? ⟨b, 3, none⟩ = some (.int .i64 (G 3)) := hg.cellIs (qfn_get _ (by omega))
  clear hg
  go_enter Try.func100, Try.ntmps100
  go_wp2_with (fail)
  go_ret
  exact ⟨by first | rfl | (congr 2; simp), rfl⟩
/-- What is a gyro's memory. -/
def gyS (B : Nat → Int) (m : Int) : Nat → Int := fun i => if i = 0 then B 0 else if i = 1 then B 1 else if i = 2 then B 2 else m
theorem gyS_cells (B : Nat → Int) (m : Int) : #[Value.int .i64 (B 0), .int .i64 (B 1), .int .i64 (B 2), .int .i64 m] = qfn (gyS B m) := by unfold qfn gyS; rfl
set_option maxRecDepth 100000 in
set_option maxHeartbeats 2000000 in
theorem newG_ok (B : Nat → Int) (m : Int) (w : World) (h1 : smallB B 16777216 = true) (h2 : decide (m < 1) = false) (h3 : decide (1099511627776 < m) = false) : Calls Try.prog 39 #[.agg (vfn B), .int .i64 m] w fun e w' => ∃ b, e = .returned (.tuple #[.pointer (some ⟨b, 0, none⟩), .int .i64 0]) ∧ blk w' b (qfn (gyS B m)) 163 ∧ w.heap.size ≤ b ∧ Below w.heap.size w w' := by
  have WB := Lib.hid (fun w => gwithin_any B 16777216 w (by omega) (by omega))
  rw [h1] at WB
  go_enter Try.func39, Try.ntmps39
  go_upto_region 1 with (fail)
  have p : blk (w.alloc (.cells (vfn B) 31)) w.heap.size (vfn B) 31 := blk.new _ _ _
  have hB : Below w.heap.size w (w.alloc (.cells (vfn B) 31)) := by go_grown
  generalize (w.alloc (.cells (vfn B) 31)) = w0 at *
  go_upto_region 3 with (first
    | (refine wpList_load_rowG ?hw _ _ rfl _ rfl _ _ _ _ p Try.underlying31 rfl ?hi ?_; (case hw => (first | rfl | (simp [Region.wanted, yielded]; done))); (case hi => (first | kernel_rfl | (rw [vfn_size]; kernel_rfl))))
    | (go_at_call 99; with_reducible refine (WB.out _).mono ?_; rintro e w1 ⟨rfl, hb⟩; replace hB := hB.trans (hb.mono hB.size); replace p := p.below hb p.lt; clear hb))
  unfold vfn at p
  go_wp2_with (first
    | (refine wpList_load_rowG ?hw _ _ rfl _ rfl _ _ _ _ p Try.underlying31 rfl ?hi ?_; (case hw => (first | rfl | (simp [Region.wanted, yielded]; done))); (case hi => (first | kernel_rfl | (rw [vfn_size]; kernel_rfl)))))
  rw [gyS_cells]
  go_ret2
  exact ⟨w1.heap.size, rfl, blk.new _ _ _, hB.size, hB.alloc hB.size _⟩
/-- Two or three vectors in a row. -/
def pick3 (A B C : Nat → Int) : Nat → Nat → Int := fun k => if k = 0 then A else if k = 1 then B else C
theorem rows_pick (A B C : Nat → Int) (k : Nat) (hk : k < 3) (j : Nat) (hj : j < 3) :
    (#[Value.int .i64 (A 0), .int .i64 (A 1), .int .i64 (A 2), .int .i64 (B 0), .int .i64 (B 1), .int .i64 (B 2), .int .i64 (C 0), .int .i64 (C 1), .int .i64 (C 2)] : Array Value)[k * 3 + j]? = some (.int .i64 (pick3 A B C k j)) := by
  rcases (show k = 0 ∨ k = 1 ∨ k = 2 by omega) with rfl | rfl | rfl <;> rcases (show j = 0 ∨ j = 1 ∨ j = 2 by omega) with rfl | rfl | rfl <;> rfl
theorem rows_pick1 (A : Nat → Int) (k : Nat) (hk : k < 1) (j : Nat) (hj : j < 3) :
    (#[Value.int .i64 (A 0), .int .i64 (A 1), .int .i64 (A 2)] : Array Value)[k * 3 + j]? = some (.int .i64 (pick3 A A A k j)) := by
  obtain rfl : k = 0 := by omega
  rcases (show j = 0 ∨ j = 1 ∨ j = 2 by omega) with rfl | rfl | rfl <;> rfl
/-- The bounds of a gyro. -/
def GI (G : Nat → Int) : Prop := (∀ i, i < 3 → -16777216 ≤ G i ∧ G i ≤ 16777216) ∧ 1 ≤ G 3 ∧ G 3 ≤ 1099511627776
theorem pick3_bd {R G Z : Nat → Int} (hR : ∀ i, i < 3 → -4398046511104 ≤ R i ∧ R i ≤ 4398046511104) (hG : GI G) (hZ : ∀ i, i < 3 → -4398046511104 ≤ Z i ∧ Z i ≤ 4398046511104) (k : Nat) (hk : k < 3) (j : Nat) (hj : j < 3) : -4398046511104 ≤ pick3 R G Z k j ∧ pick3 R G Z k j ≤ 4398046511104 := by
  unfold pick3
  split
  · exact hR j hj
  · split
    · have := hG.1 j hj; omega
    · exact hZ j hj
def readF (G R Z : Nat → Int) : Nat → Int := fun i => clampV (sumF (pick3 R G Z) 3 i) (-G 3) (G 3)
set_option maxRecDepth 100000 in
set_option maxHeartbeats 4000000 in
theorem gread_ok (G R Z : Nat → Int) (b : Nat) (w : World) (hg : blk w b (qfn G) 163) (hG : GI G) (hR : okV R = true) (hZ : okV Z = true) (hRb : ∀ i, i < 3 → -4398046511104 ≤ R i ∧ R i ≤ 4398046511104) (hZb : ∀ i, i < 3 → -4398046511104 ≤ Z i ∧ Z i ≤ 4398046511104) : Calls Try.prog 40 #[.pointer (some ⟨b, 0, none⟩), .agg (vfn R), .agg (vfn Z)] w fun e w' => e = .returned (.tuple #[.agg (vfn (readF G R Z)), .int .i64 0]) ∧ Below w.heap.size w w' := by
  have h3 : G 3 ≠ 0 := by have := hG.2; omega
  have NN := Lib.hid (fun w' (hb : Below w.heap.size w w') => gnone_any G b w' (hg.below hb hg.lt))
  rw [show decide (G 3 = 0) = false from decide_eq_false h3] at NN
  skip
  have VR := Lib.hid (fun w => valid_any R w)
  have VZ := Lib.hid (fun w => valid_any Z w)
  rw [hR] at VR
  go_enter Try.func40, Try.ntmps40
  go_upto_region 1 with (fail)
  simp only [zero_vec]
  have p : blk (((w.alloc (.cells (vfn R) 31)).alloc (.cells (vfn Z) 31)).alloc (.cells (vfn fun _ => 0) 31)) w.heap.size (vfn R) 31 := ((blk.new _ _ _).alloc _).alloc _
  have q : blk (((w.alloc (.cells (vfn R) 31)).alloc (.cells (vfn Z) 31)).alloc (.cells (vfn fun _ => 0) 31)) (w.heap.size + 1) (vfn Z) 31 := (blk.new' (by simp)).alloc _
  have r : blk (((w.alloc (.cells (vfn R) 31)).alloc (.cells (vfn Z) 31)).alloc (.cells (vfn fun _ => 0) 31)) (w.heap.size + 2) (vfn fun _ => 0) 31 := blk.new' (by simp)
  have hB : Below w.heap.size w (((w.alloc (.cells (vfn R) 31)).alloc (.cells (vfn Z) 31)).alloc (.cells (vfn fun _ => 0) 31)) := by go_grown
  generalize (((w.alloc (.cells (vfn R) 31)).alloc (.cells (vfn Z) 31)).alloc (.cells (vfn fun _ => 0) 31)) = w0 at *
  have hgl := hg.lt
  have g : blk w0 b (qfn G) 163 := hg.below hB hg.lt
  clear hg
  rw [hZ] at VZ
  have CL := Lib.hid (fun b C t w (hb : blk w b C t) hC => clamped_any (pick3 R G Z) 3 (G 3) b C t w hb hC (by omega) (pick3_bd hRb hG hZb) (by have := hG.2; omega) (by have := hG.2; omega))
  go_upto_region 5 with (first
    | (refine wpList_load_rowG ?hw _ _ rfl _ rfl _ _ _ _ p Try.underlying31 rfl ?hi ?_; (case hw => (first | rfl | (simp [Region.wanted, yielded]; done))); (case hi => (first | kernel_rfl | (rw [vfn_size]; kernel_rfl))))
    | (refine wpList_load_rowG ?hw _ _ rfl _ rfl _ _ _ _ q Try.underlying31 rfl ?hi ?_; (case hw => (first | rfl | (simp [Region.wanted, yielded]; done))); (case hi => (first | kernel_rfl | (rw [vfn_size]; kernel_rfl))))
    | (go_at_call 78; with_reducible refine (VR.out _).mono ?_; rintro e w1 ⟨rfl, hb⟩; replace hB := hB.trans (hb.mono hB.size); replace p := p.below hb p.lt; replace q := q.below hb q.lt; replace r := r.below hb r.lt; replace g := g.below hb g.lt; clear hb)
    | (go_at_call 78; with_reducible refine (VZ.out _).mono ?_; rintro e w2 ⟨rfl, hb⟩; replace hB := hB.trans (hb.mono hB.size); replace p := p.below hb p.lt; replace q := q.below hb q.lt; replace r := r.below hb r.lt; replace g := g.below hb g.lt; clear hb)
    | (go_at_call 100; with_reducible refine (NN.out _ hB).mono ?_; rintro e w9 ⟨rfl, rfl⟩))
  refine wp_region_E 14 99 (fun w' => blk w' w.heap.size (vfn R) 31 ∧ blk w' (w.heap.size + 1) (vfn Z) 31 ∧ blk w' b (qfn G) 163) rfl (by kernel_rfl) ?_
  replace p := p.drew
  replace q := q.drew
  replace r := r.drew
  replace g := g.drew
  replace hB : Below w.heap.size w w2.drew := hB.drew
  generalize w2.drew = w2d at *
  apply wpE_take 0; (case ho' => exact rfl); (case hg => exact rfl); (case hB => kernel_rfl); (case hQ => exact fun _ _ _ h => h); (case hS => exact ⟨p, q, g⟩); (case h => (rintro w1 ⟨p, q, g⟩; go_simp; exact ⟨rfl, rfl⟩))
  simp only [Act.put, List.setIfInBounds_toArray, List.set_cons_zero, List.set_cons_succ]
  apply wpE_take 1; (case ho' => exact rfl); (case hg => exact rfl); (case hB => kernel_rfl); (case hQ => exact fun _ _ _ h => h); (case hS => exact ⟨p, q, g⟩); (case h => (rintro w1 ⟨p, q, g⟩; go_simp; exact ⟨rfl, rfl⟩))
  simp only [Act.put, List.setIfInBounds_toArray, List.set_cons_zero, List.set_cons_succ]
  apply wpE_take 2; (case ho' => exact rfl); (case hg => exact rfl); (case hB => kernel_rfl); (case hQ => exact fun _ _ _ h => h); (case hS => exact ⟨p, q, g⟩); (case h => (rintro w1 ⟨p, q, g⟩; go_simp; exact ⟨rfl, rfl⟩))
  simp only [Act.put, List.setIfInBounds_toArray, List.set_cons_zero, List.set_cons_succ]
  apply wpE_take 3; (case ho' => exact rfl); (case hg => exact rfl); (case hB => kernel_rfl); (case hQ => exact fun _ _ _ h => h); (case hS => exact ⟨p, q, g⟩); (case h => (rintro w1 ⟨p, q, g⟩; first | exact valR_row _ _ rfl _ rfl _ _ g _ Try.underlying163 rfl (by first | kernel_rfl | (rw [qfn_size]; kernel_rfl)) rfl | (have hc := g.cellIs (qfn_get _ (show 3 < 4 by omega)); go_simp; exact ⟨rfl, rfl⟩)))
  simp only [Act.put, List.setIfInBounds_toArray, List.set_cons_zero, List.set_cons_succ]
  apply wpE_take 4; (case ho' => exact rfl); (case hg => exact rfl); (case hB => kernel_rfl); (case hQ => exact fun _ _ _ h => h); (case hS => exact ⟨p, q, g⟩); (case h => (rintro w1 ⟨p, q, g⟩; first | exact valR_row _ _ rfl _ rfl _ _ p _ Try.underlying31 rfl (by first | kernel_rfl | (rw [vfn_size]; kernel_rfl)) rfl | (have hc := p.cellIs (vfn_get _ (show 0 < 3 by omega)); go_simp; exact ⟨rfl, rfl⟩)))
  simp only [Act.put, List.setIfInBounds_toArray, List.set_cons_zero, List.set_cons_succ]
  apply wpE_take 5; (case ho' => exact rfl); (case hg => exact rfl); (case hB => kernel_rfl); (case hQ => exact fun _ _ _ h => h); (case hS => exact ⟨p, q, g⟩); (case h => (rintro w1 ⟨p, q, g⟩; go_simp; exact ⟨rfl, rfl⟩))
  simp only [Act.put, List.setIfInBounds_toArray, List.set_cons_zero, List.set_cons_succ]
  apply wpE_take 6; (case ho' => exact rfl); (case hg => exact rfl); (case hB => kernel_rfl); (case hQ => exact fun _ _ _ h => h); (case hS => exact ⟨p, q, g⟩); (case h => (rintro w1 ⟨p, q, g⟩; go_simp; exact ⟨rfl, rfl⟩))
  simp only [Act.put, List.setIfInBounds_toArray, List.set_cons_zero, List.set_cons_succ]
  apply wpE_take 7; (case ho' => exact rfl); (case hg => exact rfl); (case hB => kernel_rfl); (case hQ => exact fun _ _ _ h => h); (case hS => exact ⟨p, q, g⟩); (case h => (rintro w1 ⟨p, q, g⟩; go_simp; exact ⟨rfl, rfl⟩))
  simp only [Act.put, List.setIfInBounds_toArray, List.set_cons_zero, List.set_cons_succ]
  apply wpE_take 8; (case ho' => exact rfl); (case hg => exact rfl); (case hB => kernel_rfl); (case hQ => exact fun _ _ _ h => h); (case hS => exact ⟨p, q, g⟩); (case h => (rintro w1 ⟨p, q, g⟩; exact valR_part _ _ rfl _ 0 rfl _ _ g (vfn G) (part_q G) _ Try.underlying31 rfl (by rw [vfn_size]; kernel_rfl) rfl))
  simp only [Act.put, List.setIfInBounds_toArray, List.set_cons_zero, List.set_cons_succ]
  apply wpE_take 9; (case ho' => exact rfl); (case hg => exact rfl); (case hB => kernel_rfl); (case hQ => exact fun _ _ _ h => h); (case hS => exact ⟨p, q, g⟩); (case h => (rintro w1 ⟨p, q, g⟩; first | exact valR_row _ _ rfl _ rfl _ _ q _ Try.underlying31 rfl (by first | kernel_rfl | (rw [vfn_size]; kernel_rfl)) rfl | (have hc := q.cellIs (vfn_get _ (show 0 < 3 by omega)); go_simp; exact ⟨rfl, rfl⟩)))
  simp only [Act.put, List.setIfInBounds_toArray, List.set_cons_zero, List.set_cons_succ]
  unfold vfn at p q ⊢
  refine wpE_one 10 rfl (by kernel_rfl) ?_
  go_wp2_with (fail)
  have l := blk.new w2d #[.int .i64 (R 0), .int .i64 (R 1), .int .i64 (R 2), .int .i64 (G 0), .int .i64 (G 1), .int .i64 (G 2), .int .i64 (Z 0), .int .i64 (Z 1), .int .i64 (Z 2)] 31
  replace hB := hB.alloc hB.size (.cells #[.int .i64 (R 0), .int .i64 (R 1), .int .i64 (R 2), .int .i64 (G 0), .int .i64 (G 1), .int .i64 (G 2), .int .i64 (Z 0), .int .i64 (Z 1), .int .i64 (Z 2)] 31)
  replace p := p.alloc (.cells #[.int .i64 (R 0), .int .i64 (R 1), .int .i64 (R 2), .int .i64 (G 0), .int .i64 (G 1), .int .i64 (G 2), .int .i64 (Z 0), .int .i64 (Z 1), .int .i64 (Z 2)] 31)
  replace q := q.alloc (.cells #[.int .i64 (R 0), .int .i64 (R 1), .int .i64 (R 2), .int .i64 (G 0), .int .i64 (G 1), .int .i64 (G 2), .int .i64 (Z 0), .int .i64 (Z 1), .int .i64 (Z 2)] 31)
  replace r := r.alloc (.cells #[.int .i64 (R 0), .int .i64 (R 1), .int .i64 (R 2), .int .i64 (G 0), .int .i64 (G 1), .int .i64 (G 2), .int .i64 (Z 0), .int .i64 (Z 1), .int .i64 (Z 2)] 31)
  replace g := g.alloc (.cells #[.int .i64 (R 0), .int .i64 (R 1), .int .i64 (R 2), .int .i64 (G 0), .int .i64 (G 1), .int .i64 (G 2), .int .i64 (Z 0), .int .i64 (Z 1), .int .i64 (Z 2)] 31)
  generalize w2d.alloc (.cells #[.int .i64 (R 0), .int .i64 (R 1), .int .i64 (R 2), .int .i64 (G 0), .int .i64 (G 1), .int .i64 (G 2), .int .i64 (Z 0), .int .i64 (Z 1), .int .i64 (Z 2)] 31) = w2dx at *
  generalize w2d.heap.size = l_b at *
  refine Nh_ok ⟨fun _ => ⟨p, q, g⟩, ?_⟩
  try simp only [Act.put, List.setIfInBounds_toArray, List.set_cons_zero, List.set_cons_succ]
  refine wpE_one 11 rfl (by kernel_rfl) ?_
  go_wp2_with ((go_at_call 101; with_reducible refine (CL.out _ _ _ _ l (rows_pick R G Z)).mono ?_; rintro e w5 ⟨rfl, hb⟩; replace hB := hB.trans (hb.mono hB.size); replace p := p.below hb p.lt; replace q := q.below hb q.lt; replace r := r.below hb r.lt; replace g := g.below hb g.lt; replace l := l.below hb l.lt; clear hb))
  refine Nh_ok ⟨fun _ => ⟨p, q, g⟩, ?_⟩
  try simp only [Act.put, List.setIfInBounds_toArray, List.set_cons_zero, List.set_cons_succ]
  clear l
  refine wpE_one 12 rfl (by kernel_rfl) ?_
  go_wp2_with ((refine wpList_store_row rfl _ _ _ rfl _ rfl _ rfl _ _ r (by first | kernel_rfl | (rw [vfn_size]; kernel_rfl)) (by first | rfl | simp only [vfn_size]) (by first | exact vfn_one _ | rfl) ?_))
  replace p := p.rowOther (show w.heap.size ≠ w.heap.size + 2 by omega) (vfn (fun i => clampV (sumF (pick3 R G Z) 3 i) (-G 3) (G 3)))
  replace q := q.rowOther (show w.heap.size + 1 ≠ w.heap.size + 2 by omega) (vfn (fun i => clampV (sumF (pick3 R G Z) 3 i) (-G 3) (G 3)))
  replace g := g.rowOther (show b ≠ w.heap.size + 2 by omega) (vfn (fun i => clampV (sumF (pick3 R G Z) 3 i) (-G 3) (G 3)))
  replace r := r.row (vfn (fun i => clampV (sumF (pick3 R G Z) 3 i) (-G 3) (G 3)))
  replace hB := Below.setRow hB (show w.heap.size ≤ w.heap.size + 2 by omega) (vfn (fun i => clampV (sumF (pick3 R G Z) 3 i) (-G 3) (G 3)))
  generalize w5.setRow (w.heap.size + 2) (vfn (fun i => clampV (sumF (pick3 R G Z) 3 i) (-G 3) (G 3))) = w5s at *
  refine Nh_ok ⟨fun _ => ⟨p, q, g⟩, ?_⟩
  try simp only [Act.put, List.setIfInBounds_toArray, List.set_cons_zero, List.set_cons_succ]
  refine wpE_one 13 rfl (by kernel_rfl) ?_
  go_wp2_with (fail)
  refine Nh_ok ⟨fun _ => ⟨p, q, g⟩, ?_⟩
  try simp only [Act.put, List.setIfInBounds_toArray, List.set_cons_zero, List.set_cons_succ]
  refine wpE_end (by kernel_rfl) ?_
  go_wp2_with (first
    | (refine wpList_load_rowG ?hw _ _ rfl _ rfl _ _ _ _ p Try.underlying31 rfl ?hi ?_; (case hw => (first | rfl | (simp [Region.wanted, yielded]; done))); (case hi => (first | kernel_rfl | (rw [vfn_size]; kernel_rfl))))
    | (refine wpList_load_rowG ?hw _ _ rfl _ rfl _ _ _ _ q Try.underlying31 rfl ?hi ?_; (case hw => (first | rfl | (simp [Region.wanted, yielded]; done))); (case hi => (first | kernel_rfl | (rw [vfn_size]; kernel_rfl))))
    | (refine wpList_load_rowG ?hw _ _ rfl _ rfl _ _ _ _ r Try.underlying31 rfl ?hi ?_; (case hw => (first | rfl | (simp [Region.wanted, yielded]; done))); (case hi => (first | kernel_rfl | (rw [vfn_size]; kernel_rfl)))))
  refine bodyPost_ret (results_vec rfl _ _ _ _ _ _ _ rfl r Try.underlying31 rfl (by first | kernel_rfl | (rw [vfn_size]; kernel_rfl))) rfl ?_
  refine ⟨?_, hB⟩
  rfl
end Go.Proofs.Ytkmelddejdikgaa
namespace Go.Proofs.Ytkmelddejdikgaa
open Go.RowKit PM Dt
/-- A filter's memory: the attitude and the bias. -/
def flt (Q B : Nat → Int) : Array Value := #[.int .i64 (Q 0), .int .i64 (Q 1), .int .i64 (Q 2), .int .i64 (Q 3), .int .i64 (B 0), .int .i64 (B 1), .int .i64 (B 2)]
def fltc (x : (Nat → Int) × (Nat → Int)) : Array Value := flt x.1 x.2
theorem fltc_size (x : (Nat → Int) × (Nat → Int)) : (fltc x).size = 7 := rfl
theorem flt_q (Q B : Nat → Int) (j : Nat) (hj : j < (qfn Q).size) : (fltc (Q, B))[0 + j]? = (qfn Q)[j]? := by
  rw [qfn_size] at hj
  rw [Nat.zero_add, qfn_get _ hj]
  rcases (show j = 0 ∨ j = 1 ∨ j = 2 ∨ j = 3 by omega) with rfl | rfl | rfl | rfl <;> rfl
theorem flt_b (Q B : Nat → Int) (j : Nat) (hj : j < (vfn B).size) : (fltc (Q, B))[4 + j]? = (vfn B)[j]? := by
  rw [vfn_size] at hj
  rw [vfn_get _ hj]
  rcases (show j = 0 ∨ j = 1 ∨ j = 2 by omega) with rfl | rfl | rfl <;> rfl
theorem over_q (Q Q' B : Nat → Int) : over (fltc (Q, B)) 0 (qfn Q').toList = fltc (Q', B) := by unfold qfn; rfl
theorem over_b (Q B B' : Nat → Int) : over (fltc (Q, B)) 4 (vfn B').toList = fltc (Q, B') := by unfold vfn; rfl
/-- The attitude behind a turn. -/
def ftF (Q h : Nat → Int) : Nat → Int := if zV h then Q else turnF Q h
set_option maxRecDepth 100000 in
set_option maxHeartbeats 2000000 in
theorem fnone_any (Q B : Nat → Int) (b : Nat) (w : World) (hg : blk w b (fltc (Q, B)) 160) : Calls Try.prog 102 #[.pointer (some ⟨b, 0, none⟩)] w fun e w' => e = .returned (.bool (zQ Q)) ∧ w = w' := by
  have EQ := quat_eq0 Q
  obtain ⟨z, hz⟩ : ∃ z, zQ Q = z := ⟨_, rfl⟩
  simp only [hz] at EQ ⊢
  clear hz
  go_enter Try.func102, Try.ntmps102
  go_wp2_with (first
    | (refine wpList_load_part ?hw _ _ rfl _ 0 rfl _ _ hg (qfn Q) (flt_q Q B) _ Try.underlying23 rfl ?hi ?_; (case hw => (first | rfl | (simp [Region.wanted, yielded]; done))); (case hi => (rw [qfn_size]; kernel_rfl))))
  go_ret
  exact ⟨by first | rfl | (congr 2; simp), rfl⟩
set_option maxRecDepth 100000 in
set_option maxHeartbeats 2000000 in
theorem fattitude_any (Q B : Nat → Int) (b : Nat) (w : World) (hg : blk w b (fltc (Q, B)) 160) (hz : zQ Q = false) : Calls Try.prog 43 #[.pointer (some ⟨b, 0, none⟩)] w fun e w' => e = .returned (.agg (qfn Q)) ∧ Below w.heap.size w w' := by
  have NN := Lib.hid (fun w' (hb : Below w.heap.size w w') => fnone_any Q B b w' (hg.below hb hg.lt))
  rw [hz] at NN
  go_enter Try.func43, Try.ntmps43
  go_upto_region 1 with (fail)
  simp only [zero_quat]
  have r : blk (w.alloc (.cells (qfn fun _ => 0) 23)) w.heap.size (qfn fun _ => 0) 23 := blk.new _ _ _
  have hB : Below w.heap.size w (w.alloc (.cells (qfn fun _ => 0) 23)) := by go_grown
  generalize (w.alloc (.cells (qfn fun _ => 0) 23)) = w0 at *
  have f : blk w0 b (fltc (Q, B)) 160 := hg.below hB hg.lt
  clear hg
  go_wp2_with (first
    | (go_at_call 102; with_reducible refine (NN.out _ hB).mono ?_; rintro e w9 ⟨rfl, rfl⟩)
    | (refine wpList_load_part ?hw _ _ rfl _ 0 rfl _ _ f (qfn Q) (flt_q Q B) _ Try.underlying23 rfl ?hi ?_; (case hw => (first | rfl | (simp [Region.wanted, yielded]; done))); (case hi => (rw [qfn_size]; kernel_rfl)))
    | (refine wpList_store_row rfl _ _ _ rfl _ rfl _ rfl _ _ r (by first | kernel_rfl | (rw [qfn_size]; kernel_rfl)) (by first | rfl | simp only [qfn_size]) (by first | exact qfn_one _ | rfl) ?_))
  refine bodyPost_ret (results_cell_row rfl _ _ _ _ _ _ _ rfl (r.row (qfn Q)) Try.underlying23 rfl (by first | kernel_rfl | (rw [qfn_size]; kernel_rfl))) rfl ?_
  refine ⟨?_, Below.setRow hB (by omega) _⟩
  rfl
set_option maxRecDepth 100000 in
set_option maxHeartbeats 2000000 in
theorem fbias_any (Q B : Nat → Int) (b : Nat) (w : World) (hg : blk w b (fltc (Q, B)) 160) (hz : zQ Q = false) : Calls Try.prog 44 #[.pointer (some ⟨b, 0, none⟩)] w fun e w' => e = .returned (.agg (vfn B)) ∧ Below w.heap.size w w' := by
  have NN := Lib.hid (fun w' (hb : Below w.heap.size w w') => fnone_any Q B b w' (hg.below hb hg.lt))
  rw [hz] at NN
  go_enter Try.func44, Try.ntmps44
  go_upto_region 1 with (fail)
  simp only [zero_vec]
  have r : blk (w.alloc (.cells (vfn fun _ => 0) 31)) w.heap.size (vfn fun _ => 0) 31 := blk.new _ _ _
  have hB : Below w.heap.size w (w.alloc (.cells (vfn fun _ => 0) 31)) := by go_grown
  generalize (w.alloc (.cells (vfn fun _ => 0) 31)) = w0 at *
  have f : blk w0 b (fltc (Q, B)) 160 := hg.below hB hg.lt
  clear hg
  go_wp2_with (first
    | (go_at_call 102; with_reducible refine (NN.out _ hB).mono ?_; rintro e w9 ⟨rfl, rfl⟩)
    | (refine wpList_load_part ?hw _ _ rfl _ 4 rfl _ _ f (vfn B) (flt_b Q B) _ Try.underlying31 rfl ?hi ?_; (case hw => (first | rfl | (simp [Region.wanted, yielded]; done))); (case hi => (rw [vfn_size]; kernel_rfl)))
    | (refine wpList_store_row rfl _ _ _ rfl _ rfl _ rfl _ _ r (by first | kernel_rfl | (rw [vfn_size]; kernel_rfl)) (by first | rfl | simp only [vfn_size]) (by first | exact vfn_one _ | rfl) ?_))
  refine bodyPost_ret (results_cell_row rfl _ _ _ _ _ _ _ rfl (r.row (vfn B)) Try.underlying31 rfl (by first | kernel_rfl | (rw [vfn_size]; kernel_rfl))) rfl ?_
  refine ⟨?_, Below.setRow hB (by omega) _⟩
  rfl
set_option maxRecDepth 100000 in
set_option maxHeartbeats 4000000 in
theorem fturn_yes (Q B h : Nat → Int) (b : Nat) (w : World) (hg : blk w b (fltc (Q, B)) 160) (hz : zV h = false) (hQ : ∀ i, i < 4 → I64 (Q i)) (hh : ∀ i, i < 3 → I64 (h i)) : Calls Try.prog 103 #[.pointer (some ⟨b, 0, none⟩), .agg (vfn h)] w fun e w' => e = .returned (.tuple #[]) ∧ Below w.heap.size (w.setRow b (fltc (turnF Q h, B))) w' := by
  have TU := Lib.hid (fun w => turn_any Q h w hQ hh)
  clear hQ hh
  have hgl := hg.lt
  go_enter Try.func103, Try.ntmps103
  go_upto_region 1 with (fail)
  have v : blk (w.alloc (.cells (vfn h) 31)) w.heap.size (vfn h) 31 := blk.new _ _ _
  have hB : Below w.heap.size w (w.alloc (.cells (vfn h) 31)) := by go_grown
  generalize (w.alloc (.cells (vfn h) 31)) = w0 at *
  have f : blk w0 b (fltc (Q, B)) 160 := hg.below hB hg.lt
  clear hg
  have EQ := vec_eq0 h
  simp only [hz] at EQ
  go_upto_region 2 with (first
    | (refine wpList_load_rowG ?hw _ _ rfl _ rfl _ _ _ _ v Try.underlying31 rfl ?hi ?_; (case hw => (first | rfl | (simp [Region.wanted, yielded]; done))); (case hi => (first | kernel_rfl | (rw [vfn_size]; kernel_rfl)))))
  clear EQ
  have ne_v_f : w.heap.size ≠ b := by omega
  have lt_v := v.lt
  have lt_f := f.lt
  have hW0 : w.heap.size ≤ w0.heap.size := by have := hB.size; first | exact this | simpa using this
  apply wp_region_I 13 [0, 0, 2, 6, 14, 0, 62, 126, 254, 254, 511, 1535, 3583] [] [_, _, _, _, _, _, _, _, _, _, _, _, (fun _ => undef)] (fun p L w' => w0.heap.size ≤ w'.heap.size ∧ Below w.heap.size (bif L 12 then w.setRow b (fltc (turnF Q h, B)) else w) w' ∧ blk w' w.heap.size (vfn h) 31 ∧ blk w' b (bif L 12 then (fltc (turnF Q h, B)) else (fltc (Q, B))) 160) _ [(0, 8), (1, 9), (2, 10), (3, 11), (4, 12), (5, 13), (6, 14), (7, 7), (8, 15), (9, 16), (10, 17), (11, 18)] [0, 1, 2, 3, 4, 5, 6, 7, 8, 9, 10, 11, 12]
  case hn => rfl
  case hm => kernel_rfl
  case hB => kernel_rfl
  case hds => kernel_rfl
  case hA => (intro p; simp only [putsD, Act.put, List.setIfInBounds_toArray, List.set_cons_zero, List.set_cons_succ, List.getD_cons_zero, List.getD_cons_succ]; exact rfl)
  case h0 => exact fun p => ⟨Nat.le_refl _, hB.drew, v.drew, f.drew⟩
  case hmore => exact fun p L w1 w2 ⟨hsz, hB, v, f⟩ hm => ⟨Nat.le_trans hsz hm.size, hB.trans (hm.mono (Nat.le_trans hW0 hsz)), v.below hm v.lt, f.below hm f.lt⟩
  case hs =>
    intro more
    refine stepV 0 rfl rfl (fun _ _ _ h => h) ?_ ?_
    · intros; go_simp; exact ⟨rfl, rfl⟩
    refine stepV 1 rfl rfl (fun _ _ _ h => h) ?_ ?_
    · intros; go_simp; exact ⟨rfl, rfl⟩
    refine stepV 2 rfl rfl (fun _ _ _ h => h) ?_ ?_
    · intros; go_simp; exact ⟨rfl, rfl⟩
    refine stepV 3 rfl rfl (fun _ _ _ h => h) ?_ ?_
    · intros; go_simp; exact ⟨rfl, rfl⟩
    refine stepV 4 rfl rfl (fun _ _ _ h => h) ?_ ?_
    · rintro p L w1 ⟨hsz, hB, v, f⟩ hk
      have L12 : L 12 = false := hk.2.2 12 rfl
      rw [L12] at f
      try simp only [cond_true, cond_false] at f
      exact valR_part _ _ rfl _ 0 rfl _ _ f (qfn Q) (flt_q Q B) _ Try.underlying23 rfl (by rw [qfn_size]; kernel_rfl) rfl
    refine stepV 5 rfl rfl (fun _ _ _ h => h) ?_ ?_
    · rintro p L w1 ⟨hsz, hB, v, f⟩ hk
      have L12 : L 12 = false := hk.2.2 12 rfl
      first | exact valR_row _ _ rfl _ rfl _ _ v _ Try.underlying31 rfl (by first | kernel_rfl | (rw [vfn_size]; kernel_rfl)) rfl | (have hc := v.cellIs (vfn_get _ (show 0 < 3 by omega)); go_simp; exact ⟨rfl, rfl⟩)
    refine stepD 6 rfl (fun p => rfl) (fun _ _ _ h => h) more ?_ ?_
    · rintro p L w1 ⟨hsz, hB, v, f⟩ hk
      go_simp
      refine (TU.out _).mono ?_
      rintro e w2 ⟨rfl, h2⟩
      first | exact ⟨rfl, h2⟩ | (subst h2; exact ⟨rfl, Below.refl _ _⟩)
    refine stepV 7 rfl rfl (fun _ _ _ h => h) ?_ ?_
    · intros; go_simp; exact ⟨rfl, rfl⟩
    refine stepV 8 rfl rfl (fun _ _ _ h => h) ?_ ?_
    · intros; go_simp; exact ⟨rfl, rfl⟩
    refine stepV 9 rfl rfl (fun _ _ _ h => h) ?_ ?_
    · intros; go_simp; exact ⟨rfl, rfl⟩
    refine stepV 10 rfl rfl (fun _ _ _ h => h) ?_ ?_
    · intros; go_simp; exact ⟨rfl, rfl⟩
    refine stepV 11 rfl rfl (fun _ _ _ h => h) ?_ ?_
    · intros; go_simp; exact ⟨rfl, rfl⟩
    refine AllI.cons ?_ ?_
    · refine stepI_store 12 rfl (fun p => rfl) (fun p => rfl) _ _ _ rfl (fun _ => b) 0 (fun p => rfl) (fun p => (qfn (turnF Q h))) (fun p => rfl) (fun p => (fltc (Q, B))) (fun p => (fltc (turnF Q h, B))) 160 (fun p => over_q _ _ _) (fun p => by first | (rw [qfn_size, fltc_size]; decide) | simp [qfn_size, fltc_size]) (fun p => by rw [qfn_size]; kernel_rfl) (fun p => qfn_one _) ?_ ?_
      · rintro p L w1 ⟨hsz, hB, v, f⟩ hk
        have L12 : L 12 = false := hk.1
        rw [L12] at f
        try simp only [cond_true, cond_false] at f
        exact f
      · rintro p L w1 ⟨hsz, hB, v, f⟩ hk
        have L12 : L 12 = false := hk.1
        skip
        refine ⟨(by simpa using hsz), ?_, v.rowOther (by first | exact ne_v_f | exact Ne.symm ne_f_v | omega) _, ?_⟩
        · rw [show upL L 12 12 = true from rfl]
          rw [L12] at hB
          have hB2 := rowBoth hB b (fltc (turnF Q h, B))
          try simp only [cond_true, cond_false] at hB2 ⊢
          try rw [setRow_setRow] at hB2
          exact hB2
        · rw [show upL L 12 12 = true from rfl]
          exact f.row _
    exact AllI.nil
  case hV0 => exact fun p q => AllI.nil
  case he =>
  clear hB v f
  rintro p w0r ⟨hsz, hB, v, f⟩
  replace f : blk w0r b (fltc (turnF Q h, B)) 160 := f
  replace hB : Below w.heap.size (w.setRow b (fltc (turnF Q h, B))) w0r := hB
  clear lt_v
  clear lt_f
  clear hsz hW0
  go_wp2_with (fail)
  go_end0
  exact ⟨rfl, hB⟩
set_option maxRecDepth 100000 in
set_option maxHeartbeats 4000000 in
theorem fturn_no (Q B h : Nat → Int) (b : Nat) (w : World) (hg : blk w b (fltc (Q, B)) 160) (hz : zV h = true) : Calls Try.prog 103 #[.pointer (some ⟨b, 0, none⟩), .agg (vfn h)] w fun e w' => e = .returned (.tuple #[]) ∧ Below w.heap.size w w' := by
  have hgl := hg.lt
  go_enter Try.func103, Try.ntmps103
  go_upto_region 1 with (fail)
  have v : blk (w.alloc (.cells (vfn h) 31)) w.heap.size (vfn h) 31 := blk.new _ _ _
  have hB : Below w.heap.size w (w.alloc (.cells (vfn h) 31)) := by go_grown
  generalize (w.alloc (.cells (vfn h) 31)) = w0 at *
  have f : blk w0 b (fltc (Q, B)) 160 := hg.below hB hg.lt
  clear hg
  have EQ := vec_eq0 h
  simp only [hz] at EQ
  go_wp2_with (first
    | (refine wpList_load_rowG ?hw _ _ rfl _ rfl _ _ _ _ v Try.underlying31 rfl ?hi ?_; (case hw => (first | rfl | (simp [Region.wanted, yielded]; done))); (case hi => (first | kernel_rfl | (rw [vfn_size]; kernel_rfl)))))
  go_end0
  exact ⟨rfl, hB⟩
theorem fturn_any (Q B h : Nat → Int) (b : Nat) (w : World) (hg : blk w b (fltc (Q, B)) 160) (hQ : ∀ i, i < 4 → I64 (Q i)) (hh : ∀ i, i < 3 → I64 (h i)) : Calls Try.prog 103 #[.pointer (some ⟨b, 0, none⟩), .agg (vfn h)] w fun e w' => e = .returned (.tuple #[]) ∧ Below w.heap.size (w.setRow b (fltc (ftF Q h, B))) w' := by
  unfold ftF
  by_cases hz : zV h = true
  · rw [if_pos hz, setRow_self w b _ _ _ hg]
    exact fturn_no Q B h b w hg hz
  · rw [if_neg hz]
    exact fturn_yes Q B h b w hg (by simpa using hz) hQ hh
end Go.Proofs.Ytkmelddejdikgaa
namespace Go.Proofs.Ytkmelddejdikgaa
open Go.RowKit PM Dt
theorem over_v (F G : Nat → Int) : over (vfn F) 0 (vfn G).toList = vfn G := by unfold vfn; rfl
theorem over_qq (F G : Nat → Int) : over (qfn F) 0 (qfn G).toList = qfn G := by unfold qfn; rfl
theorem partF_I (f : Nat → Int) (d : Int) : ∀ i, i < 3 → I64 (partF f d i) := fun i _ => by unfold partF; exact ratioV_I _ _ _
theorem vsubF_I (f g : Nat → Int) : ∀ i, i < 3 → I64 (vsubF f g i) := by
  intro i hi
  have h0 : I64 0 := ⟨by omega, by omega⟩
  unfold vsubF
  split
  · unfold resF
    split
    · rename_i h
      have := (vb_iff _).1 ((okV_iff _).1 h i hi)
      exact ⟨by omega, by omega⟩
    · exact h0
  · exact h0
set_option maxRecDepth 100000 in
set_option maxHeartbeats 2000000 in
theorem fnew_no (q : Nat → Int) (w : World) (hq : ∀ i, i < 4 → I64 (q i)) (hv : validQ q = false) : Calls Try.prog 38 #[.agg (qfn q)] w fun e w' => e = .returned (.tuple #[.pointer none, .int .i64 2]) ∧ Below w.heap.size w w' := by
  have VA := Lib.hid (fun w => qvalid_any q w hq)
  rw [hv] at VA
  go_enter Try.func38, Try.ntmps38
  go_upto_region 1 with (fail)
  have v : blk (w.alloc (.cells (qfn q) 23)) w.heap.size (qfn q) 23 := blk.new _ _ _
  have hB : Below w.heap.size w (w.alloc (.cells (qfn q) 23)) := by go_grown
  generalize (w.alloc (.cells (qfn q) 23)) = w0 at *
  go_wp2_with (first
    | (refine wpList_load_rowG ?hw _ _ rfl _ rfl _ _ _ _ v Try.underlying23 rfl ?hi ?_; (case hw => (first | rfl | (simp [Region.wanted, yielded]; done))); (case hi => (first | kernel_rfl | (rw [qfn_size]; kernel_rfl))))
    | (go_at_call 33; with_reducible refine (VA.out _).mono ?_; rintro e w1 ⟨rfl, hb⟩; replace hB := hB.trans (hb.mono hB.size); replace v := v.below hb v.lt; clear hb))
  go_ret2
  exact ⟨rfl, hB⟩
set_option maxRecDepth 100000 in
set_option maxHeartbeats 2000000 in
theorem fnew_ok (q : Nat → Int) (w : World) (hq : ∀ i, i < 4 → I64 (q i)) (hv : validQ q = true) : Calls Try.prog 38 #[.agg (qfn q)] w fun e w' => ∃ b, e = .returned (.tuple #[.pointer (some ⟨b, 0, none⟩), .int .i64 0]) ∧ blk w' b (fltc (q, fun _ => 0)) 160 ∧ w.heap.size ≤ b ∧ Below w.heap.size w w' := by
  have VA := Lib.hid (fun w => qvalid_any q w hq)
  rw [hv] at VA
  go_enter Try.func38, Try.ntmps38
  go_upto_region 1 with (fail)
  have v : blk (w.alloc (.cells (qfn q) 23)) w.heap.size (qfn q) 23 := blk.new _ _ _
  have hB : Below w.heap.size w (w.alloc (.cells (qfn q) 23)) := by go_grown
  generalize (w.alloc (.cells (qfn q) 23)) = w0 at *
  go_upto_region 3 with (first
    | (refine wpList_load_rowG ?hw _ _ rfl _ rfl _ _ _ _ v Try.underlying23 rfl ?hi ?_; (case hw => (first | rfl | (simp [Region.wanted, yielded]; done))); (case hi => (first | kernel_rfl | (rw [qfn_size]; kernel_rfl))))
    | (go_at_call 33; with_reducible refine (VA.out _).mono ?_; rintro e w1 ⟨rfl, hb⟩; replace hB := hB.trans (hb.mono hB.size); replace v := v.below hb v.lt; clear hb))
  unfold qfn at v
  go_wp2_with (first
    | (refine wpList_load_rowG ?hw _ _ rfl _ rfl _ _ _ _ v Try.underlying23 rfl ?hi ?_; (case hw => (first | rfl | (simp [Region.wanted, yielded]; done))); (case hi => (first | kernel_rfl | (rw [qfn_size]; kernel_rfl)))))
  rw [show #[Value.int .i64 (q 0), .int .i64 (q 1), .int .i64 (q 2), .int .i64 (q 3), .int .i64 0, .int .i64 0, .int .i64 0] = fltc (q, fun _ => 0) from rfl]
  go_ret2
  exact ⟨w1.heap.size, rfl, blk.new _ _ _, hB.size, hB.alloc hB.size _⟩
set_option maxRecDepth 100000 in
set_option maxHeartbeats 2000000 in
theorem fpred_no (Q B r : Nat → Int) (b : Nat) (w : World) (hg : blk w b (fltc (Q, B)) 160) (hz : zQ Q = false) (hr : smallB r 268435456 = false) : Calls Try.prog 41 #[.pointer (some ⟨b, 0, none⟩), .agg (vfn r)] w fun e w' => e = .returned (.int .i64 2) ∧ Below w.heap.size w w' := by
  have NN := Lib.hid (fun w' (hb : Below w.heap.size w w') => fnone_any Q B b w' (hg.below hb hg.lt))
  rw [hz] at NN
  have WI := Lib.hid (fun w => gwithin_any r 268435456 w (by omega) (by omega))
  rw [hr] at WI
  go_enter Try.func41, Try.ntmps41
  go_upto_region 1 with (fail)
  have v : blk (w.alloc (.cells (vfn r) 31)) w.heap.size (vfn r) 31 := blk.new _ _ _
  have hB : Below w.heap.size w (w.alloc (.cells (vfn r) 31)) := by go_grown
  generalize (w.alloc (.cells (vfn r) 31)) = w0 at *
  go_wp2_with (first
    | (refine wpList_load_rowG ?hw _ _ rfl _ rfl _ _ _ _ v Try.underlying31 rfl ?hi ?_; (case hw => (first | rfl | (simp [Region.wanted, yielded]; done))); (case hi => (first | kernel_rfl | (rw [vfn_size]; kernel_rfl))))
    | (go_at_call 99; with_reducible refine (WI.out _).mono ?_; rintro e w1 ⟨rfl, hb⟩; replace hB := hB.trans (hb.mono hB.size); replace v := v.below hb v.lt; clear hb)
    | (go_at_call 102; with_reducible refine (NN.out _ hB).mono ?_; rintro e w9 ⟨rfl, rfl⟩))
  go_ret
  exact ⟨rfl, hB⟩
set_option maxRecDepth 100000 in
set_option maxHeartbeats 4000000 in
theorem fpred_ok (Q B r : Nat → Int) (b : Nat) (w : World) (hg : blk w b (fltc (Q, B)) 160) (hz : zQ Q = false) (hr : smallB r 268435456 = true) (hQ : ∀ i, i < 4 → I64 (Q i)) : Calls Try.prog 41 #[.pointer (some ⟨b, 0, none⟩), .agg (vfn r)] w fun e w' => e = .returned (.int .i64 0) ∧ Below w.heap.size (w.setRow b (fltc (ftF Q (partF (vsubF r B) 2), B))) w' := by
  have NN := Lib.hid (fun w' (hb : Below w.heap.size w w') => fnone_any Q B b w' (hg.below hb hg.lt))
  rw [hz] at NN
  have WI := Lib.hid (fun w => gwithin_any r 268435456 w (by omega) (by omega))
  rw [hr] at WI
  have SU := Lib.hid (fun w => vsub_any r B w)
  have PA := Lib.hid (fun w => part_any (vsubF r B) 2 w (vsubF_I r B) ⟨by omega, by omega⟩)
  have FT := Lib.hid (fun (w1 : World) (h1 : blk w1 b (fltc (Q, B)) 160) => fturn_any Q B (partF (vsubF r B) 2) b w1 h1 hQ (partF_I _ _))
  have hgl := hg.lt
  clear hQ
  go_enter Try.func41, Try.ntmps41
  go_upto_region 1 with (fail)
  have v : blk (w.alloc (.cells (vfn r) 31)) w.heap.size (vfn r) 31 := blk.new _ _ _
  have hB : Below w.heap.size w (w.alloc (.cells (vfn r) 31)) := by go_grown
  generalize (w.alloc (.cells (vfn r) 31)) = w0 at *
  go_upto_region 5 with (first
    | (refine wpList_load_rowG ?hw _ _ rfl _ rfl _ _ _ _ v Try.underlying31 rfl ?hi ?_; (case hw => (first | rfl | (simp [Region.wanted, yielded]; done))); (case hi => (first | kernel_rfl | (rw [vfn_size]; kernel_rfl))))
    | (go_at_call 99; with_reducible refine (WI.out _).mono ?_; rintro e w1 ⟨rfl, hb⟩; replace hB := hB.trans (hb.mono hB.size); replace v := v.below hb v.lt; clear hb)
    | (go_at_call 102; with_reducible refine (NN.out _ hB).mono ?_; rintro e w9 ⟨rfl, rfl⟩))
  have f : blk w1 b (fltc (Q, B)) 160 := hg.below hB hg.lt
  clear hg
  have ne_v_f : w.heap.size ≠ b := by omega
  have lt_v := v.lt
  have lt_f := f.lt
  have hW0 : w.heap.size ≤ w1.heap.size := by have := hB.size; first | exact this | simpa using this
  apply wp_region_I 12 [0, 0, 2, 6, 14, 31, 63, 127, 127, 0, 767, 2047] [9] [_, _, _, _, _, _, _, _, _, (fun p => .pointer (some ⟨p 9, 0, none⟩)), (fun _ => undef), _] (fun p L w' => w1.heap.size ≤ w'.heap.size ∧ Below w.heap.size w w' ∧ blk w' w.heap.size (vfn r) 31 ∧ blk w' b (fltc (Q, B)) 160 ∧ (L 9 = true → w1.heap.size ≤ p 9 ∧ blk w' (p 9) (bif L 10 then (vfn (vsubF r B)) else (vfn fun _ => 0)) 31)) _ [(0, 15), (1, 16), (2, 17), (3, 18), (4, 19), (5, 20), (6, 14), (7, 21), (8, 22), (9, 5), (11, 6)] [0, 1, 2, 3, 4, 5, 6, 7, 8, 9, 10, 11]
  case hn => rfl
  case hm => kernel_rfl
  case hB => kernel_rfl
  case hds => kernel_rfl
  case hA => (intro p; simp only [putsD, Act.put, List.setIfInBounds_toArray, List.set_cons_zero, List.set_cons_succ, List.getD_cons_zero, List.getD_cons_succ]; exact rfl)
  case h0 => exact fun p => ⟨Nat.le_refl _, hB.drew, v.drew, f.drew, fun h => absurd h (by decide)⟩
  case hmore => exact fun p L w1 w2 ⟨hsz, hB, v, f, h_d⟩ hm => ⟨Nat.le_trans hsz hm.size, hB.trans (hm.mono (Nat.le_trans hW0 hsz)), v.below hm v.lt, f.below hm f.lt, fun hl => ⟨(h_d hl).1, (h_d hl).2.below hm (h_d hl).2.lt⟩⟩
  case hs =>
    intro more
    refine stepV 0 rfl rfl (fun _ _ _ h => h) ?_ ?_
    · rintro p L w1 ⟨hsz, hB, v, f, h_d⟩ hk
      have L10 : L 10 = false := hk.2.2 10 rfl
      first | exact valR_row _ _ rfl _ rfl _ _ v _ Try.underlying31 rfl (by first | kernel_rfl | (rw [vfn_size]; kernel_rfl)) rfl | (have hc := v.cellIs (vfn_get _ (show 0 < 3 by omega)); go_simp; exact ⟨rfl, rfl⟩)
    refine stepV 1 rfl rfl (fun _ _ _ h => h) ?_ ?_
    · intros; go_simp; exact ⟨rfl, rfl⟩
    refine stepV 2 rfl rfl (fun _ _ _ h => h) ?_ ?_
    · intros; go_simp; exact ⟨rfl, rfl⟩
    refine stepV 3 rfl rfl (fun _ _ _ h => h) ?_ ?_
    · intros; go_simp; exact ⟨rfl, rfl⟩
    refine stepV 4 rfl rfl (fun _ _ _ h => h) ?_ ?_
    · rintro p L w1 ⟨hsz, hB, v, f, h_d⟩ hk
      have L10 : L 10 = false := hk.2.2 10 rfl
      exact valR_part _ _ rfl _ 4 rfl _ _ f (vfn B) (flt_b Q B) _ Try.underlying31 rfl (by rw [vfn_size]; kernel_rfl) rfl
    refine stepD 5 rfl (fun p => rfl) (fun _ _ _ h => h) more ?_ ?_
    · rintro p L w1 ⟨hsz, hB, v, f, h_d⟩ hk
      go_simp
      refine (SU.out _).mono ?_
      rintro e w2 ⟨rfl, h2⟩
      first | exact ⟨rfl, h2⟩ | (subst h2; exact ⟨rfl, Below.refl _ _⟩)
    refine stepV 6 rfl rfl (fun _ _ _ h => h) ?_ ?_
    · intros; go_simp; exact ⟨rfl, rfl⟩
    refine stepV 7 rfl rfl (fun _ _ _ h => h) ?_ ?_
    · intros; go_simp; exact ⟨rfl, rfl⟩
    refine stepV 8 rfl rfl (fun _ _ _ h => h) ?_ ?_
    · intros; go_simp; exact ⟨rfl, rfl⟩
    refine AllI.cons ?_ ?_
    · refine stepI_alloc 9 rfl (fun p => rfl) rfl (vfn fun _ => 0) 31 (fun p => rfl) ?_ ?_
      · intro p w1
        go_simp
        first | rfl | rw [zero_vec]
      rintro p L w1 ⟨hsz, hB, v, f, h_d⟩ hk
      have L10 : L 10 = false := hk.2.2 10 rfl
      refine ⟨Nat.le_trans hsz (by simp), hB.alloc (Nat.le_trans (by first | exact hW0 | (have := hB.size; simp at this ⊢; omega)) hsz) _, v.alloc _, f.alloc _, fun _ => ⟨hsz, ?_⟩⟩
      rw [show upL L 9 10 = false from L10]
      exact blk.new _ _ _
    refine AllI.cons ?_ ?_
    · refine stepI_store 10 rfl (fun p => rfl) (fun p => rfl) _ _ _ rfl (fun p => p 9) 0 (fun p => rfl) (fun p => (vfn (vsubF r B))) (fun p => rfl) (fun p => (vfn fun _ => 0)) (fun p => (vfn (vsubF r B))) 31 (fun p => over_v _ _) (fun p => by first | (rw [vfn_size, vfn_size]; decide) | simp [vfn_size, vfn_size]) (fun p => by rw [vfn_size]; kernel_rfl) (fun p => vfn_one _) ?_ ?_
      · rintro p L w1 ⟨hsz, hB, v, f, h_d⟩ hk
        have L10 : L 10 = false := hk.1
        have hh := (h_d (hk.2.1 9 rfl)).2
        rw [L10] at hh
        try simp only [cond_true, cond_false] at hh
        exact hh
      · rintro p L w1 ⟨hsz, hB, v, f, h_d⟩ hk
        have L10 : L 10 = false := hk.1
        skip
        have hp := h_d (hk.2.1 9 rfl)
        refine ⟨(by simpa using hsz), Below.setRow hB (by first | exact Nat.le_trans hW0 hp.1 | exact ge_d | omega | (have := hB.size; simp at this ⊢; omega)) _, v.rowOther (by first | exact Nat.ne_of_lt (Nat.lt_of_lt_of_le lt_v hp.1) | omega) _, f.rowOther (by first | exact Nat.ne_of_lt (Nat.lt_of_lt_of_le lt_f hp.1) | omega) _, fun _ => ⟨hp.1, ?_⟩⟩
        rw [show upL L 10 10 = true from rfl]
        exact hp.2.row _
    refine stepV 11 rfl rfl (fun _ _ _ h => h) ?_ ?_
    · intros; go_simp; exact ⟨rfl, rfl⟩
    exact AllI.nil
  case hV0 =>
    intro p q
    refine AllI.cons ?_ ?_
    · skip
      iterate 12 (refine AllI.cons (by first | exact .inl rfl | (refine .inr ?_; simp only [List.getD_cons_zero, List.getD_cons_succ]; done) | exact .inr rfl) ?_)
      exact AllI.nil
    exact AllI.nil
  case he =>
  clear hB v f
  rintro p w1r ⟨hsz, hB, v, f, h_d⟩
  obtain ⟨le_d, d⟩ := h_d rfl
  clear h_d
  replace d : blk w1r (p 9) (vfn (vsubF r B)) 31 := d
  have ne_v_d : w.heap.size ≠ p 9 := Nat.ne_of_lt (Nat.lt_of_lt_of_le lt_v le_d)
  have ne_f_d : b ≠ p 9 := Nat.ne_of_lt (Nat.lt_of_lt_of_le lt_f le_d)
  have ge_d : w.heap.size ≤ p 9 := Nat.le_trans hW0 le_d
  generalize p 9 = d_b at *
  clear lt_v
  clear lt_f
  clear hsz hW0
  have ne_d_f : d_b ≠ b := Ne.symm ne_f_d
  go_wp2_with (first | (refine wpList_load_rowG ?hw _ _ rfl _ rfl _ _ _ _ d Try.underlying31 rfl ?hi ?_; (case hw => (first | rfl | (simp [Region.wanted, yielded]; done))); (case hi => (first | kernel_rfl | (rw [vfn_size]; kernel_rfl)))) | (go_at_call 104; with_reducible refine (PA.out _).mono ?_; rintro e w2 ⟨rfl, hb⟩; replace hB := hB.trans (hb.mono hB.size); replace v := v.below hb v.lt; replace f := f.below hb f.lt; replace d := d.below hb d.lt; clear hb) | (go_at_call 103; with_reducible refine (FT.out _ f).mono ?_; rintro e w3 ⟨rfl, hb⟩; replace hB := (rowBoth hB b (fltc (ftF Q (partF (vsubF r B) 2), B))).trans (hb.mono (by have := hB.size; simp at this ⊢; omega)); replace v := (v.rowOther (by first | exact ne_v_f | exact Ne.symm ne_f_v | omega) (fltc (ftF Q (partF (vsubF r B) 2), B))).below hb (by have := v.lt; simpa using this); replace f := (f.row (fltc (ftF Q (partF (vsubF r B) 2), B))).below hb (by have := f.lt; simpa using this); replace d := (d.rowOther (by first | exact ne_d_f | exact Ne.symm ne_f_d | omega) (fltc (ftF Q (partF (vsubF r B) 2), B))).below hb (by have := d.lt; simpa using this); clear hb))
  go_ret
  exact ⟨rfl, hB⟩
end Go.Proofs.Ytkmelddejdikgaa
namespace Go.Proofs.Ytkmelddejdikgaa
open Go.RowKit PM Dt
/-- The parts of a rotation that are its vector. -/
def offF (p : Nat → Int) : Nat → Int := fun i => p (i + 1)
theorem off_cells (p : Nat → Int) : #[Value.int .i64 (p 1), .int .i64 (p 2), .int .i64 (p 3)] = vfn (offF p) := by unfold vfn offF; rfl
/-- A vector, as a row of one. -/
def row1 (A : Nat → Int) : Array Value := #[.int .i64 (A 0), .int .i64 (A 1), .int .i64 (A 2)]
/-- The bias behind a correction. -/
def corF (B p : Nat → Int) : Nat → Int := fun i => clampV (sumF (pick3 (vsubF B (partF p 32)) (vsubF B (partF p 32)) (vsubF B (partF p 32))) 1 i) (-16777216) 16777216
theorem vsubF_bd (f g : Nat → Int) : ∀ i, i < 3 → -4398046511104 ≤ vsubF f g i ∧ vsubF f g i ≤ 4398046511104 := by
  intro i hi
  have h0 : -4398046511104 ≤ (0 : Int) ∧ (0 : Int) ≤ 4398046511104 := ⟨by omega, by omega⟩
  unfold vsubF
  split
  · unfold resF
    split
    · rename_i h
      have := (vb_iff _).1 ((okV_iff _).1 h i hi)
      exact ⟨by omega, by omega⟩
    · exact h0
  · exact h0
theorem pick1_bd {A : Nat → Int} (hA : ∀ i, i < 3 → -4398046511104 ≤ A i ∧ A i ≤ 4398046511104) : ∀ k, k < 1 → ∀ j, j < 3 → -4398046511104 ≤ pick3 A A A k j ∧ pick3 A A A k j ≤ 4398046511104 := by
  intro k hk j hj
  unfold pick3
  split
  · exact hA j hj
  · split <;> exact hA j hj
theorem I64z : I64 0 := ⟨by omega, by omega⟩
theorem betF_I (f g : Nat → Int) : ∀ i, i < 4 → I64 (betF f g i) := by
  intro i hi
  have h0 : I64 0 := I64z
  have h1 := qprod_bd (conjF f) g hi
  unfold betF
  split
  · unfold betX
    split
    · unfold negF; exact ⟨by omega, by omega⟩
    · exact ⟨by omega, by omega⟩
  · exact h0
theorem offF_I (f g : Nat → Int) : ∀ i, i < 3 → I64 (offF (betF f g) i) := fun i hi => betF_I f g (i + 1) (by omega)
set_option maxRecDepth 100000 in
set_option maxHeartbeats 6000000 in
theorem fcor_no (Q B q : Nat → Int) (b : Nat) (w : World) (hg : blk w b (fltc (Q, B)) 160) (hz : zQ Q = false) (hQ : ∀ i, i < 4 → I64 (Q i)) (hq : ∀ i, i < 4 → I64 (q i)) (hb : betE Q q = 2) : Calls Try.prog 42 #[.pointer (some ⟨b, 0, none⟩), .agg (qfn q)] w fun e w' => e = .returned (.int .i64 2) ∧ Below w.heap.size w w' := by
  have NN := Lib.hid (fun w' (hb : Below w.heap.size w w') => fnone_any Q B b w' (hg.below hb hg.lt))
  rw [hz] at NN
  have BE := Lib.hid (fun w => between_any Q q w hQ hq)
  rw [hb] at BE
  clear hb
  have hgl := hg.lt
  clear hQ hq
  go_enter Try.func42, Try.ntmps42
  go_upto_region 1 with (fail)
  have v : blk (w.alloc (.cells (qfn q) 23)) w.heap.size (qfn q) 23 := blk.new _ _ _
  have hB : Below w.heap.size w (w.alloc (.cells (qfn q) 23)) := by go_grown
  generalize (w.alloc (.cells (qfn q) 23)) = w0 at *
  go_upto_region 3 with (first
    | (refine wpList_load_rowG ?hw _ _ rfl _ rfl _ _ _ _ v Try.underlying23 rfl ?hi ?_; (case hw => (first | rfl | (simp [Region.wanted, yielded]; done))); (case hi => (first | kernel_rfl | (rw [qfn_size]; kernel_rfl))))
    | (go_at_call 102; with_reducible refine (NN.out _ hB).mono ?_; rintro e w9 ⟨rfl, rfl⟩))
  have f : blk w0 b (fltc (Q, B)) 160 := hg.below hB hg.lt
  clear hg
  have ne_v_f : w.heap.size ≠ b := by omega
  have lt_v := v.lt
  have lt_f := f.lt
  have hW0 : w.heap.size ≤ w0.heap.size := by have := hB.size; first | exact this | simpa using this
  apply wp_region_I 12 [0, 1, 3, 7, 0, 31, 63, 127, 127, 0, 767, 2047] [9] [_, _, _, _, _, _, _, _, _, (fun p => .pointer (some ⟨p 9, 0, none⟩)), (fun _ => undef), _] (fun p L w' => w0.heap.size ≤ w'.heap.size ∧ Below w.heap.size w w' ∧ blk w' w.heap.size (qfn q) 23 ∧ blk w' b (fltc (Q, B)) 160 ∧ (L 9 = true → w0.heap.size ≤ p 9 ∧ blk w' (p 9) (bif L 10 then (qfn (betF Q q)) else (qfn fun _ => 0)) 23)) _ [(0, 13), (1, 14), (2, 15), (3, 16), (4, 17), (5, 18), (6, 12), (7, 19), (8, 20), (9, 5), (11, 6)] [0, 1, 2, 3, 4, 5, 6, 7, 8, 9, 10, 11]
  case hn => rfl
  case hm => kernel_rfl
  case hB => kernel_rfl
  case hds => kernel_rfl
  case hA => (intro p; simp only [putsD, Act.put, List.setIfInBounds_toArray, List.set_cons_zero, List.set_cons_succ, List.getD_cons_zero, List.getD_cons_succ]; exact rfl)
  case h0 => exact fun p => ⟨Nat.le_refl _, hB.drew, v.drew, f.drew, fun h => absurd h (by decide)⟩
  case hmore => exact fun p L w1 w2 ⟨hsz, hB, v, f, h_d⟩ hm => ⟨Nat.le_trans hsz hm.size, hB.trans (hm.mono (Nat.le_trans hW0 hsz)), v.below hm v.lt, f.below hm f.lt, fun hl => ⟨(h_d hl).1, (h_d hl).2.below hm (h_d hl).2.lt⟩⟩
  case hs =>
    intro more
    refine stepV 0 rfl rfl (fun _ _ _ h => h) ?_ ?_
    · intros; go_simp; exact ⟨rfl, rfl⟩
    refine stepV 1 rfl rfl (fun _ _ _ h => h) ?_ ?_
    · intros; go_simp; exact ⟨rfl, rfl⟩
    refine stepV 2 rfl rfl (fun _ _ _ h => h) ?_ ?_
    · intros; go_simp; exact ⟨rfl, rfl⟩
    refine stepV 3 rfl rfl (fun _ _ _ h => h) ?_ ?_
    · rintro p L w1 ⟨hsz, hB, v, f, h_d⟩ hk
      have L10 : L 10 = false := hk.2.2 10 rfl
      exact valR_part _ _ rfl _ 0 rfl _ _ f (qfn Q) (flt_q Q B) _ Try.underlying23 rfl (by rw [qfn_size]; kernel_rfl) rfl
    refine stepV 4 rfl rfl (fun _ _ _ h => h) ?_ ?_
    · rintro p L w1 ⟨hsz, hB, v, f, h_d⟩ hk
      have L10 : L 10 = false := hk.2.2 10 rfl
      first | exact valR_row _ _ rfl _ rfl _ _ v _ Try.underlying23 rfl (by first | kernel_rfl | (rw [qfn_size]; kernel_rfl)) rfl | (have hc := v.cellIs (qfn_get _ (show 0 < 4 by omega)); go_simp; exact ⟨rfl, rfl⟩)
    refine stepD 5 rfl (fun p => rfl) (fun _ _ _ h => h) more ?_ ?_
    · rintro p L w1 ⟨hsz, hB, v, f, h_d⟩ hk
      go_simp
      refine (BE.out _).mono ?_
      rintro e w2 ⟨rfl, h2⟩
      first | exact ⟨rfl, h2⟩ | (subst h2; exact ⟨rfl, Below.refl _ _⟩)
    refine stepV 6 rfl rfl (fun _ _ _ h => h) ?_ ?_
    · intros; go_simp; exact ⟨rfl, rfl⟩
    refine stepV 7 rfl rfl (fun _ _ _ h => h) ?_ ?_
    · intros; go_simp; exact ⟨rfl, rfl⟩
    refine stepV 8 rfl rfl (fun _ _ _ h => h) ?_ ?_
    · intros; go_simp; exact ⟨rfl, rfl⟩
    refine AllI.cons ?_ ?_
    · refine stepI_alloc 9 rfl (fun p => rfl) rfl (qfn fun _ => 0) 23 (fun p => rfl) ?_ ?_
      · intro p w1
        go_simp
        first | rfl | rw [zero_quat]
      rintro p L w1 ⟨hsz, hB, v, f, h_d⟩ hk
      have L10 : L 10 = false := hk.2.2 10 rfl
      refine ⟨Nat.le_trans hsz (by simp), hB.alloc (Nat.le_trans (by first | exact hW0 | (have := hB.size; simp at this ⊢; omega)) hsz) _, v.alloc _, f.alloc _, fun _ => ⟨hsz, ?_⟩⟩
      rw [show upL L 9 10 = false from L10]
      exact blk.new _ _ _
    refine AllI.cons ?_ ?_
    · refine stepI_store 10 rfl (fun p => rfl) (fun p => rfl) _ _ _ rfl (fun p => p 9) 0 (fun p => rfl) (fun p => (qfn (betF Q q))) (fun p => rfl) (fun p => (qfn fun _ => 0)) (fun p => (qfn (betF Q q))) 23 (fun p => over_qq _ _) (fun p => by first | (rw [qfn_size, qfn_size]; decide) | simp [qfn_size, qfn_size]) (fun p => by rw [qfn_size]; kernel_rfl) (fun p => qfn_one _) ?_ ?_
      · rintro p L w1 ⟨hsz, hB, v, f, h_d⟩ hk
        have L10 : L 10 = false := hk.1
        have hh := (h_d (hk.2.1 9 rfl)).2
        rw [L10] at hh
        try simp only [cond_true, cond_false] at hh
        exact hh
      · rintro p L w1 ⟨hsz, hB, v, f, h_d⟩ hk
        have L10 : L 10 = false := hk.1
        skip
        have hp := h_d (hk.2.1 9 rfl)
        refine ⟨(by simpa using hsz), Below.setRow hB (by first | exact Nat.le_trans hW0 hp.1 | exact ge_d | omega | (have := hB.size; simp at this ⊢; omega)) _, v.rowOther (by first | exact Nat.ne_of_lt (Nat.lt_of_lt_of_le lt_v hp.1) | omega) _, f.rowOther (by first | exact Nat.ne_of_lt (Nat.lt_of_lt_of_le lt_f hp.1) | omega) _, fun _ => ⟨hp.1, ?_⟩⟩
        rw [show upL L 10 10 = true from rfl]
        exact hp.2.row _
    refine stepV 11 rfl rfl (fun _ _ _ h => h) ?_ ?_
    · intros; go_simp; exact ⟨rfl, rfl⟩
    exact AllI.nil
  case hV0 =>
    intro p q
    refine AllI.cons ?_ ?_
    · skip
      iterate 12 (refine AllI.cons (by first | exact .inl rfl | (refine .inr ?_; simp only [List.getD_cons_zero, List.getD_cons_succ]; done) | exact .inr rfl) ?_)
      exact AllI.nil
    exact AllI.nil
  case he =>
  clear hB v f
  rintro p w0r ⟨hsz, hB, v, f, h_d⟩
  obtain ⟨le_d, d⟩ := h_d rfl
  clear h_d
  replace d : blk w0r (p 9) (qfn (betF Q q)) 23 := d
  have ne_v_d : w.heap.size ≠ p 9 := Nat.ne_of_lt (Nat.lt_of_lt_of_le lt_v le_d)
  have ne_f_d : b ≠ p 9 := Nat.ne_of_lt (Nat.lt_of_lt_of_le lt_f le_d)
  have ge_d : w.heap.size ≤ p 9 := Nat.le_trans hW0 le_d
  generalize p 9 = d_b at *
  clear lt_v
  clear lt_f
  clear hsz hW0
  have ne_d_f : d_b ≠ b := Ne.symm ne_f_d
  go_wp2_with (fail)
  go_ret
  exact ⟨rfl, hB⟩
set_option maxRecDepth 100000 in
set_option maxHeartbeats 6000000 in
theorem fcor_off (Q B q : Nat → Int) (b : Nat) (w : World) (hg : blk w b (fltc (Q, B)) 160) (hz : zQ Q = false) (hQ : ∀ i, i < 4 → I64 (Q i)) (hq : ∀ i, i < 4 → I64 (q i)) (hb : betE Q q = 0) (hw : smallB (offF (betF Q q)) 1048576 = false) : Calls Try.prog 42 #[.pointer (some ⟨b, 0, none⟩), .agg (qfn q)] w fun e w' => e = .returned (.int .i64 0) ∧ Below w.heap.size (w.setRow b (fltc ((ftF Q (partF (offF (betF Q q)) 4)), B))) w' := by
  have NN := Lib.hid (fun w' (hb : Below w.heap.size w w') => fnone_any Q B b w' (hg.below hb hg.lt))
  rw [hz] at NN
  have BE := Lib.hid (fun w => between_any Q q w hQ hq)
  rw [hb] at BE
  clear hb
  have PA := Lib.hid (fun d w (hd : I64 d) => part_any (offF (betF Q q)) d w (offF_I Q q) hd)
  have WI := Lib.hid (fun w => gwithin_any (offF (betF Q q)) 1048576 w (by omega) (by omega))
  rw [hw] at WI
  clear hw
  have FT := Lib.hid (fun (w1 : World) (h1 : blk w1 b (fltc (Q, B)) 160) => fturn_any Q B (partF (offF (betF Q q)) 4) b w1 h1 hQ (partF_I _ _))
  have hgl := hg.lt
  clear hQ hq
  go_enter Try.func42, Try.ntmps42
  go_upto_region 1 with (fail)
  have v : blk (w.alloc (.cells (qfn q) 23)) w.heap.size (qfn q) 23 := blk.new _ _ _
  have hB : Below w.heap.size w (w.alloc (.cells (qfn q) 23)) := by go_grown
  generalize (w.alloc (.cells (qfn q) 23)) = w0 at *
  go_upto_region 3 with (first
    | (refine wpList_load_rowG ?hw _ _ rfl _ rfl _ _ _ _ v Try.underlying23 rfl ?hi ?_; (case hw => (first | rfl | (simp [Region.wanted, yielded]; done))); (case hi => (first | kernel_rfl | (rw [qfn_size]; kernel_rfl))))
    | (go_at_call 102; with_reducible refine (NN.out _ hB).mono ?_; rintro e w9 ⟨rfl, rfl⟩))
  have f : blk w0 b (fltc (Q, B)) 160 := hg.below hB hg.lt
  clear hg
  have ne_v_f : w.heap.size ≠ b := by omega
  have lt_v := v.lt
  have lt_f := f.lt
  have hW0 : w.heap.size ≤ w0.heap.size := by have := hB.size; first | exact this | simpa using this
  apply wp_region_I 12 [0, 1, 3, 7, 0, 31, 63, 127, 127, 0, 767, 2047] [9] [_, _, _, _, _, _, _, _, _, (fun p => .pointer (some ⟨p 9, 0, none⟩)), (fun _ => undef), _] (fun p L w' => w0.heap.size ≤ w'.heap.size ∧ Below w.heap.size w w' ∧ blk w' w.heap.size (qfn q) 23 ∧ blk w' b (fltc (Q, B)) 160 ∧ (L 9 = true → w0.heap.size ≤ p 9 ∧ blk w' (p 9) (bif L 10 then (qfn (betF Q q)) else (qfn fun _ => 0)) 23)) _ [(0, 13), (1, 14), (2, 15), (3, 16), (4, 17), (5, 18), (6, 12), (7, 19), (8, 20), (9, 5), (11, 6)] [0, 1, 2, 3, 4, 5, 6, 7, 8, 9, 10, 11]
  case hn => rfl
  case hm => kernel_rfl
  case hB => kernel_rfl
  case hds => kernel_rfl
  case hA => (intro p; simp only [putsD, Act.put, List.setIfInBounds_toArray, List.set_cons_zero, List.set_cons_succ, List.getD_cons_zero, List.getD_cons_succ]; exact rfl)
  case h0 => exact fun p => ⟨Nat.le_refl _, hB.drew, v.drew, f.drew, fun h => absurd h (by decide)⟩
  case hmore => exact fun p L w1 w2 ⟨hsz, hB, v, f, h_d⟩ hm => ⟨Nat.le_trans hsz hm.size, hB.trans (hm.mono (Nat.le_trans hW0 hsz)), v.below hm v.lt, f.below hm f.lt, fun hl => ⟨(h_d hl).1, (h_d hl).2.below hm (h_d hl).2.lt⟩⟩
  case hs =>
    intro more
    refine stepV 0 rfl rfl (fun _ _ _ h => h) ?_ ?_
    · intros; go_simp; exact ⟨rfl, rfl⟩
    refine stepV 1 rfl rfl (fun _ _ _ h => h) ?_ ?_
    · intros; go_simp; exact ⟨rfl, rfl⟩
    refine stepV 2 rfl rfl (fun _ _ _ h => h) ?_ ?_
    · intros; go_simp; exact ⟨rfl, rfl⟩
    refine stepV 3 rfl rfl (fun _ _ _ h => h) ?_ ?_
    · rintro p L w1 ⟨hsz, hB, v, f, h_d⟩ hk
      have L10 : L 10 = false := hk.2.2 10 rfl
      exact valR_part _ _ rfl _ 0 rfl _ _ f (qfn Q) (flt_q Q B) _ Try.underlying23 rfl (by rw [qfn_size]; kernel_rfl) rfl
    refine stepV 4 rfl rfl (fun _ _ _ h => h) ?_ ?_
    · rintro p L w1 ⟨hsz, hB, v, f, h_d⟩ hk
      have L10 : L 10 = false := hk.2.2 10 rfl
      first | exact valR_row _ _ rfl _ rfl _ _ v _ Try.underlying23 rfl (by first | kernel_rfl | (rw [qfn_size]; kernel_rfl)) rfl | (have hc := v.cellIs (qfn_get _ (show 0 < 4 by omega)); go_simp; exact ⟨rfl, rfl⟩)
    refine stepD 5 rfl (fun p => rfl) (fun _ _ _ h => h) more ?_ ?_
    · rintro p L w1 ⟨hsz, hB, v, f, h_d⟩ hk
      go_simp
      refine (BE.out _).mono ?_
      rintro e w2 ⟨rfl, h2⟩
      first | exact ⟨rfl, h2⟩ | (subst h2; exact ⟨rfl, Below.refl _ _⟩)
    refine stepV 6 rfl rfl (fun _ _ _ h => h) ?_ ?_
    · intros; go_simp; exact ⟨rfl, rfl⟩
    refine stepV 7 rfl rfl (fun _ _ _ h => h) ?_ ?_
    · intros; go_simp; exact ⟨rfl, rfl⟩
    refine stepV 8 rfl rfl (fun _ _ _ h => h) ?_ ?_
    · intros; go_simp; exact ⟨rfl, rfl⟩
    refine AllI.cons ?_ ?_
    · refine stepI_alloc 9 rfl (fun p => rfl) rfl (qfn fun _ => 0) 23 (fun p => rfl) ?_ ?_
      · intro p w1
        go_simp
        first | rfl | rw [zero_quat]
      rintro p L w1 ⟨hsz, hB, v, f, h_d⟩ hk
      have L10 : L 10 = false := hk.2.2 10 rfl
      refine ⟨Nat.le_trans hsz (by simp), hB.alloc (Nat.le_trans (by first | exact hW0 | (have := hB.size; simp at this ⊢; omega)) hsz) _, v.alloc _, f.alloc _, fun _ => ⟨hsz, ?_⟩⟩
      rw [show upL L 9 10 = false from L10]
      exact blk.new _ _ _
    refine AllI.cons ?_ ?_
    · refine stepI_store 10 rfl (fun p => rfl) (fun p => rfl) _ _ _ rfl (fun p => p 9) 0 (fun p => rfl) (fun p => (qfn (betF Q q))) (fun p => rfl) (fun p => (qfn fun _ => 0)) (fun p => (qfn (betF Q q))) 23 (fun p => over_qq _ _) (fun p => by first | (rw [qfn_size, qfn_size]; decide) | simp [qfn_size, qfn_size]) (fun p => by rw [qfn_size]; kernel_rfl) (fun p => qfn_one _) ?_ ?_
      · rintro p L w1 ⟨hsz, hB, v, f, h_d⟩ hk
        have L10 : L 10 = false := hk.1
        have hh := (h_d (hk.2.1 9 rfl)).2
        rw [L10] at hh
        try simp only [cond_true, cond_false] at hh
        exact hh
      · rintro p L w1 ⟨hsz, hB, v, f, h_d⟩ hk
        have L10 : L 10 = false := hk.1
        skip
        have hp := h_d (hk.2.1 9 rfl)
        refine ⟨(by simpa using hsz), Below.setRow hB (by first | exact Nat.le_trans hW0 hp.1 | exact ge_d | omega | (have := hB.size; simp at this ⊢; omega)) _, v.rowOther (by first | exact Nat.ne_of_lt (Nat.lt_of_lt_of_le lt_v hp.1) | omega) _, f.rowOther (by first | exact Nat.ne_of_lt (Nat.lt_of_lt_of_le lt_f hp.1) | omega) _, fun _ => ⟨hp.1, ?_⟩⟩
        rw [show upL L 10 10 = true from rfl]
        exact hp.2.row _
    refine stepV 11 rfl rfl (fun _ _ _ h => h) ?_ ?_
    · intros; go_simp; exact ⟨rfl, rfl⟩
    exact AllI.nil
  case hV0 =>
    intro p q
    refine AllI.cons ?_ ?_
    · skip
      iterate 12 (refine AllI.cons (by first | exact .inl rfl | (refine .inr ?_; simp only [List.getD_cons_zero, List.getD_cons_succ]; done) | exact .inr rfl) ?_)
      exact AllI.nil
    exact AllI.nil
  case he =>
  clear hB v f
  rintro p w0r ⟨hsz, hB, v, f, h_d⟩
  obtain ⟨le_d, d⟩ := h_d rfl
  clear h_d
  replace d : blk w0r (p 9) (qfn (betF Q q)) 23 := d
  have ne_v_d : w.heap.size ≠ p 9 := Nat.ne_of_lt (Nat.lt_of_lt_of_le lt_v le_d)
  have ne_f_d : b ≠ p 9 := Nat.ne_of_lt (Nat.lt_of_lt_of_le lt_f le_d)
  have ge_d : w.heap.size ≤ p 9 := Nat.le_trans hW0 le_d
  generalize p 9 = d_b at *
  clear lt_v
  clear lt_f
  clear hsz hW0
  have ne_d_f : d_b ≠ b := Ne.symm ne_f_d
  generalize hD : betF Q q = D at *
  go_upto_region 6 with (fail)
  have lt_v := v.lt
  have lt_f := f.lt
  have lt_d := d.lt
  have hW0 : w.heap.size ≤ w0r.heap.size := by have := hB.size; first | exact this | simpa using this
  apply wp_region_Q 9 [0, 1, 3, 7, 15, 31, 63, 127, 255] [7] [_, _, _, _, _, _, _, (fun p => .pointer (some ⟨p 7, 0, none⟩)), (fun _ => undef)] (fun p L w' => w0r.heap.size ≤ w'.heap.size ∧ Below w.heap.size w w' ∧ blk w' w.heap.size (qfn q) 23 ∧ blk w' b (fltc (Q, B)) 160 ∧ blk w' d_b (qfn D) 23 ∧ (L 7 = true → w0r.heap.size ≤ p 7 ∧ blk w' (p 7) (bif L 8 then (vfn (offF D)) else (vfn fun _ => 0)) 31)) _ [(0, 23), (1, 24), (2, 25), (3, 26), (4, 27), (5, 28), (6, 29), (7, 7)] [0, 1, 2, 3, 4, 5, 6, 7, 8]
  case hn => rfl
  case hB => kernel_rfl
  case hds => kernel_rfl
  case hA => (intro p; simp only [putsD, Act.put, List.setIfInBounds_toArray, List.set_cons_zero, List.set_cons_succ, List.getD_cons_zero, List.getD_cons_succ]; exact rfl)
  case h0 => exact fun p => ⟨Nat.le_refl _, hB, v, f, d, fun h => absurd h (by decide)⟩
  case hmore => exact fun p L w1 w2 ⟨hsz, hB, v, f, d, h_o⟩ hm => ⟨Nat.le_trans hsz hm.size, hB.trans (hm.mono (Nat.le_trans hW0 hsz)), v.below hm v.lt, f.below hm f.lt, d.below hm d.lt, fun hl => ⟨(h_o hl).1, (h_o hl).2.below hm (h_o hl).2.lt⟩⟩
  case hs =>
    intro more
    refine stepV 0 rfl rfl (fun _ _ _ h => h) ?_ ?_
    · intros; go_simp; exact ⟨rfl, rfl⟩
    refine stepV 1 rfl rfl (fun _ _ _ h => h) ?_ ?_
    · rintro p L w1 ⟨hsz, hB, v, f, d, h_o⟩ hk
      have L8 : L 8 = false := hk.2.2 8 rfl
      first | exact valR_row _ _ rfl _ rfl _ _ d _ Try.underlying23 rfl (by first | kernel_rfl | (rw [qfn_size]; kernel_rfl)) rfl | (have hc := d.cellIs (qfn_get _ (show 1 < 4 by omega)); go_simp; exact ⟨rfl, rfl⟩)
    refine stepV 2 rfl rfl (fun _ _ _ h => h) ?_ ?_
    · intros; go_simp; exact ⟨rfl, rfl⟩
    refine stepV 3 rfl rfl (fun _ _ _ h => h) ?_ ?_
    · rintro p L w1 ⟨hsz, hB, v, f, d, h_o⟩ hk
      have L8 : L 8 = false := hk.2.2 8 rfl
      first | exact valR_row _ _ rfl _ rfl _ _ d _ Try.underlying23 rfl (by first | kernel_rfl | (rw [qfn_size]; kernel_rfl)) rfl | (have hc := d.cellIs (qfn_get _ (show 2 < 4 by omega)); go_simp; exact ⟨rfl, rfl⟩)
    refine stepV 4 rfl rfl (fun _ _ _ h => h) ?_ ?_
    · intros; go_simp; exact ⟨rfl, rfl⟩
    refine stepV 5 rfl rfl (fun _ _ _ h => h) ?_ ?_
    · rintro p L w1 ⟨hsz, hB, v, f, d, h_o⟩ hk
      have L8 : L 8 = false := hk.2.2 8 rfl
      first | exact valR_row _ _ rfl _ rfl _ _ d _ Try.underlying23 rfl (by first | kernel_rfl | (rw [qfn_size]; kernel_rfl)) rfl | (have hc := d.cellIs (qfn_get _ (show 3 < 4 by omega)); go_simp; exact ⟨rfl, rfl⟩)
    refine stepV 6 rfl rfl (fun _ _ _ h => h) ?_ ?_
    · intros; try simp only [vfn, qfn]; go_simp; exact ⟨rfl, rfl⟩
    refine AllI.cons ?_ ?_
    · refine stepI_alloc 7 rfl (fun p => rfl) rfl (vfn fun _ => 0) 31 (fun p => rfl) ?_ ?_
      · intro p w1
        go_simp
        first | rfl | rw [zero_vec]
      rintro p L w1 ⟨hsz, hB, v, f, d, h_o⟩ hk
      have L8 : L 8 = false := hk.2.2 8 rfl
      refine ⟨Nat.le_trans hsz (by simp), hB.alloc (Nat.le_trans (by first | exact hW0 | (have := hB.size; simp at this ⊢; omega)) hsz) _, v.alloc _, f.alloc _, d.alloc _, fun _ => ⟨hsz, ?_⟩⟩
      rw [show upL L 7 8 = false from L8]
      exact blk.new _ _ _
    refine AllI.cons ?_ ?_
    · refine stepI_store 8 rfl (fun p => rfl) (fun p => rfl) _ _ _ rfl (fun p => p 7) 0 (fun p => rfl) (fun p => (vfn (offF D))) (fun p => congrArg Value.agg (off_cells D)) (fun p => (vfn fun _ => 0)) (fun p => (vfn (offF D))) 31 (fun p => over_v _ _) (fun p => by first | (rw [vfn_size, vfn_size]; decide) | simp [vfn_size, vfn_size]) (fun p => by rw [vfn_size]; kernel_rfl) (fun p => vfn_one _) ?_ ?_
      · rintro p L w1 ⟨hsz, hB, v, f, d, h_o⟩ hk
        have L8 : L 8 = false := hk.1
        have hh := (h_o (hk.2.1 7 rfl)).2
        rw [L8] at hh
        try simp only [cond_true, cond_false] at hh
        exact hh
      · rintro p L w1 ⟨hsz, hB, v, f, d, h_o⟩ hk
        have L8 : L 8 = false := hk.1
        skip
        have hp := h_o (hk.2.1 7 rfl)
        refine ⟨(by simpa using hsz), Below.setRow hB (by first | exact Nat.le_trans hW0 hp.1 | exact ge_o | omega | (have := hB.size; simp at this ⊢; omega)) _, v.rowOther (by first | exact Nat.ne_of_lt (Nat.lt_of_lt_of_le lt_v hp.1) | omega) _, f.rowOther (by first | exact Nat.ne_of_lt (Nat.lt_of_lt_of_le lt_f hp.1) | omega) _, d.rowOther (by first | exact Nat.ne_of_lt (Nat.lt_of_lt_of_le lt_d hp.1) | omega) _, fun _ => ⟨hp.1, ?_⟩⟩
        rw [show upL L 8 8 = true from rfl]
        exact hp.2.row _
    exact AllI.nil
  case hV0 =>
    intro p q
    refine AllI.cons ?_ ?_
    · skip
      iterate 9 (refine AllI.cons (by first | exact .inl rfl | (refine .inr ?_; simp only [List.getD_cons_zero, List.getD_cons_succ]; done) | exact .inr rfl) ?_)
      exact AllI.nil
    exact AllI.nil
  case he =>
  clear hB v f d
  rintro p w0rr ⟨hsz, hB, v, f, d, h_o⟩
  obtain ⟨le_o, o⟩ := h_o rfl
  clear h_o
  replace o : blk w0rr (p 7) (vfn (offF D)) 31 := o
  have ne_v_o : w.heap.size ≠ p 7 := Nat.ne_of_lt (Nat.lt_of_lt_of_le lt_v le_o)
  have ne_f_o : b ≠ p 7 := Nat.ne_of_lt (Nat.lt_of_lt_of_le lt_f le_o)
  have ne_d_o : d_b ≠ p 7 := Nat.ne_of_lt (Nat.lt_of_lt_of_le lt_d le_o)
  have ge_o : w.heap.size ≤ p 7 := Nat.le_trans hW0 le_o
  generalize p 7 = o_b at *
  clear lt_v
  clear lt_f
  clear lt_d
  clear hsz hW0
  have ne_o_f : o_b ≠ b := Ne.symm ne_f_o
  go_upto_region 7 with (fail)
  have lt_v := v.lt
  have lt_f := f.lt
  have lt_d := d.lt
  have lt_o := o.lt
  have hW0 : w.heap.size ≤ w0rr.heap.size := by have := hB.size; first | exact this | simpa using this
  apply wp_region_Q 4 [0, 1, 3, 7] [] [_, _, _, _] (fun p L w' => w0rr.heap.size ≤ w'.heap.size ∧ Below w.heap.size (bif L 3 then w.setRow b (fltc ((ftF Q (partF (offF D) 4)), B)) else w) w' ∧ blk w' w.heap.size (qfn q) 23 ∧ blk w' b (bif L 3 then (fltc ((ftF Q (partF (offF D) 4)), B)) else (fltc (Q, B))) 160 ∧ blk w' d_b (qfn D) 23 ∧ blk w' o_b (vfn (offF D)) 31) _ [(0, 30), (1, 31), (2, 32), (3, 33)] [0, 1, 2, 3]
  case hn => rfl
  case hB => kernel_rfl
  case hds => kernel_rfl
  case hA => (intro p; simp only [putsD, Act.put, List.setIfInBounds_toArray, List.set_cons_zero, List.set_cons_succ, List.getD_cons_zero, List.getD_cons_succ]; exact rfl)
  case h0 => exact fun p => ⟨Nat.le_refl _, hB, v, f, d, o⟩
  case hmore => exact fun p L w1 w2 ⟨hsz, hB, v, f, d, o⟩ hm => ⟨Nat.le_trans hsz hm.size, hB.trans (hm.mono (Nat.le_trans hW0 hsz)), v.below hm v.lt, f.below hm f.lt, d.below hm d.lt, o.below hm o.lt⟩
  case hs =>
    intro more
    refine stepV 0 rfl rfl (fun _ _ _ h => h) ?_ ?_
    · intros; go_simp; exact ⟨rfl, rfl⟩
    refine stepV 1 rfl rfl (fun _ _ _ h => h) ?_ ?_
    · rintro p L w1 ⟨hsz, hB, v, f, d, o⟩ hk
      have L3 : L 3 = false := hk.2.2 3 rfl
      first | exact valR_row _ _ rfl _ rfl _ _ o _ Try.underlying31 rfl (by first | kernel_rfl | (rw [vfn_size]; kernel_rfl)) rfl | (have hc := o.cellIs (vfn_get _ (show 0 < 3 by omega)); go_simp; exact ⟨rfl, rfl⟩)
    refine stepD 2 rfl (fun p => rfl) (fun _ _ _ h => h) more ?_ ?_
    · rintro p L w1 ⟨hsz, hB, v, f, d, o⟩ hk
      go_simp
      refine (PA.out 4 _ ⟨by omega, by omega⟩).mono ?_
      rintro e w2 ⟨rfl, h2⟩
      first | exact ⟨rfl, h2⟩ | (subst h2; exact ⟨rfl, Below.refl _ _⟩)
    refine AllI.cons ?_ ?_
    · refine stepI_mut 3 rfl (fun p => rfl) (fun _ => b) (fun p => (fltc ((ftF Q (partF (offF D) 4)), B))) ?_ ?_
      · rintro p L w1 ⟨hsz, hB, v, f, d, o⟩ hk
        have L3 : L 3 = false := hk.1
        rw [L3] at f
        try simp only [cond_true, cond_false] at f
        go_simp
        refine (FT.out _ f).mono ?_
        rintro e w2 ⟨rfl, h2⟩
        exact ⟨rfl, h2⟩
      · rintro p L w1 w2 ⟨hsz, hB, v, f, d, o⟩ hk hm
        have L3 : L 3 = false := hk.1
        refine ⟨Nat.le_trans hsz (by have := hm.size; simpa using this), ?_, (v.rowOther (by first | exact ne_v_f | exact Ne.symm ne_f_v | omega) _).below hm (by simpa using v.lt), ?_, (d.rowOther (by first | exact ne_d_f | exact Ne.symm ne_f_d | omega) _).below hm (by simpa using d.lt), (o.rowOther (by first | exact ne_o_f | exact Ne.symm ne_f_o | omega) _).below hm (by simpa using o.lt)⟩
        · rw [show upL L 3 3 = true from rfl]
          rw [L3] at hB
          have hB2 := rowBoth hB b (fltc ((ftF Q (partF (offF D) 4)), B))
          try simp only [cond_true, cond_false] at hB2 ⊢
          try rw [setRow_setRow] at hB2
          exact hB2.trans (hm.mono (Nat.le_trans hW0 hsz))
        · rw [show upL L 3 3 = true from rfl]
          exact (f.row _).below hm (by simpa using f.lt)
    exact AllI.nil
  case hV0 => exact fun p q => AllI.nil
  case he =>
  clear hB v f d o
  rintro p w0rrr ⟨hsz, hB, v, f, d, o⟩
  replace f : blk w0rrr b (fltc ((ftF Q (partF (offF D) 4)), B)) 160 := f
  replace hB : Below w.heap.size (w.setRow b (fltc ((ftF Q (partF (offF D) 4)), B))) w0rrr := hB
  clear lt_v
  clear lt_f
  clear lt_d
  clear lt_o
  clear hsz hW0
  go_upto_region 8 with (fail)
  have lt_v := v.lt
  have lt_f := f.lt
  have lt_d := d.lt
  have lt_o := o.lt
  have hW0 : w.heap.size ≤ w0rrr.heap.size := by have := hB.size; first | exact this | simpa using this
  apply wp_region_Q 2 [0, 1] [] [_, _] (fun p L w' => w0rrr.heap.size ≤ w'.heap.size ∧ Below w.heap.size (w.setRow b (fltc ((ftF Q (partF (offF D) 4)), B))) w' ∧ blk w' w.heap.size (qfn q) 23 ∧ blk w' b (fltc ((ftF Q (partF (offF D) 4)), B)) 160 ∧ blk w' d_b (qfn D) 23 ∧ blk w' o_b (vfn (offF D)) 31) _ [(0, 34), (1, 35)] [0, 1]
  case hn => rfl
  case hB => kernel_rfl
  case hds => kernel_rfl
  case hA => (intro p; simp only [putsD, Act.put, List.setIfInBounds_toArray, List.set_cons_zero, List.set_cons_succ, List.getD_cons_zero, List.getD_cons_succ]; exact rfl)
  case h0 => exact fun p => ⟨Nat.le_refl _, hB, v, f, d, o⟩
  case hmore => exact fun p L w1 w2 ⟨hsz, hB, v, f, d, o⟩ hm => ⟨Nat.le_trans hsz hm.size, hB.trans (hm.mono (Nat.le_trans hW0 hsz)), v.below hm v.lt, f.below hm f.lt, d.below hm d.lt, o.below hm o.lt⟩
  case hs =>
    intro more
    refine stepV 0 rfl rfl (fun _ _ _ h => h) ?_ ?_
    · rintro p L w1 ⟨hsz, hB, v, f, d, o⟩ hk
      first | exact valR_row _ _ rfl _ rfl _ _ o _ Try.underlying31 rfl (by first | kernel_rfl | (rw [vfn_size]; kernel_rfl)) rfl | (have hc := o.cellIs (vfn_get _ (show 0 < 3 by omega)); go_simp; exact ⟨rfl, rfl⟩)
    refine stepD 1 rfl (fun p => rfl) (fun _ _ _ h => h) more ?_ ?_
    · rintro p L w1 ⟨hsz, hB, v, f, d, o⟩ hk
      go_simp
      refine (WI.out _).mono ?_
      rintro e w2 ⟨rfl, h2⟩
      first | exact ⟨rfl, h2⟩ | (subst h2; exact ⟨rfl, Below.refl _ _⟩)
    exact AllI.nil
  case hV0 => exact fun p q => AllI.nil
  case he =>
  clear hB v f d o
  rintro p w0rrrr ⟨hsz, hB, v, f, d, o⟩
  clear lt_v
  clear lt_f
  clear lt_d
  clear lt_o
  clear hsz hW0
  go_wp2_with (fail)
  go_ret
  subst hD
  exact ⟨rfl, hB⟩
set_option maxRecDepth 100000 in
set_option maxHeartbeats 6000000 in
theorem fcor_yes (Q B q : Nat → Int) (b : Nat) (w : World) (hg : blk w b (fltc (Q, B)) 160) (hz : zQ Q = false) (hQ : ∀ i, i < 4 → I64 (Q i)) (hq : ∀ i, i < 4 → I64 (q i)) (hb : betE Q q = 0) (hw : smallB (offF (betF Q q)) 1048576 = true) (hBb : ∀ i, i < 3 → -16777216 ≤ B i ∧ B i ≤ 16777216) : Calls Try.prog 42 #[.pointer (some ⟨b, 0, none⟩), .agg (qfn q)] w fun e w' => e = .returned (.int .i64 0) ∧ Below w.heap.size (w.setRow b (fltc ((ftF Q (partF (offF (betF Q q)) 4)), corF B (offF (betF Q q))))) w' := by
  have NN := Lib.hid (fun w' (hb : Below w.heap.size w w') => fnone_any Q B b w' (hg.below hb hg.lt))
  rw [hz] at NN
  have BE := Lib.hid (fun w => between_any Q q w hQ hq)
  rw [hb] at BE
  clear hb
  have PA := Lib.hid (fun d w (hd : I64 d) => part_any (offF (betF Q q)) d w (offF_I Q q) hd)
  have WI := Lib.hid (fun w => gwithin_any (offF (betF Q q)) 1048576 w (by omega) (by omega))
  rw [hw] at WI
  clear hw
  have FT := Lib.hid (fun (w1 : World) (h1 : blk w1 b (fltc (Q, B)) 160) => fturn_any Q B (partF (offF (betF Q q)) 4) b w1 h1 hQ (partF_I _ _))
  have SU := Lib.hid (fun w => vsub_any B (partF (offF (betF Q q)) 32) w)
  have CL := Lib.hid (fun b C t w (hb : blk w b C t) hC => clamped_any (pick3 (vsubF B (partF (offF (betF Q q)) 32)) (vsubF B (partF (offF (betF Q q)) 32)) (vsubF B (partF (offF (betF Q q)) 32))) 1 16777216 b C t w hb hC (by omega) (pick1_bd (vsubF_bd _ _)) (by omega) (by omega))
  have hgl := hg.lt
  clear hQ hq
  go_enter Try.func42, Try.ntmps42
  go_upto_region 1 with (fail)
  have v : blk (w.alloc (.cells (qfn q) 23)) w.heap.size (qfn q) 23 := blk.new _ _ _
  have hB : Below w.heap.size w (w.alloc (.cells (qfn q) 23)) := by go_grown
  generalize (w.alloc (.cells (qfn q) 23)) = w0 at *
  go_upto_region 3 with (first
    | (refine wpList_load_rowG ?hw _ _ rfl _ rfl _ _ _ _ v Try.underlying23 rfl ?hi ?_; (case hw => (first | rfl | (simp [Region.wanted, yielded]; done))); (case hi => (first | kernel_rfl | (rw [qfn_size]; kernel_rfl))))
    | (go_at_call 102; with_reducible refine (NN.out _ hB).mono ?_; rintro e w9 ⟨rfl, rfl⟩))
  have f : blk w0 b (fltc (Q, B)) 160 := hg.below hB hg.lt
  clear hg
  have ne_v_f : w.heap.size ≠ b := by omega
  have lt_v := v.lt
  have lt_f := f.lt
  have hW0 : w.heap.size ≤ w0.heap.size := by have := hB.size; first | exact this | simpa using this
  apply wp_region_I 12 [0, 1, 3, 7, 0, 31, 63, 127, 127, 0, 767, 2047] [9] [_, _, _, _, _, _, _, _, _, (fun p => .pointer (some ⟨p 9, 0, none⟩)), (fun _ => undef), _] (fun p L w' => w0.heap.size ≤ w'.heap.size ∧ Below w.heap.size w w' ∧ blk w' w.heap.size (qfn q) 23 ∧ blk w' b (fltc (Q, B)) 160 ∧ (L 9 = true → w0.heap.size ≤ p 9 ∧ blk w' (p 9) (bif L 10 then (qfn (betF Q q)) else (qfn fun _ => 0)) 23)) _ [(0, 13), (1, 14), (2, 15), (3, 16), (4, 17), (5, 18), (6, 12), (7, 19), (8, 20), (9, 5), (11, 6)] [0, 1, 2, 3, 4, 5, 6, 7, 8, 9, 10, 11]
  case hn => rfl
  case hm => kernel_rfl
  case hB => kernel_rfl
  case hds => kernel_rfl
  case hA => (intro p; simp only [putsD, Act.put, List.setIfInBounds_toArray, List.set_cons_zero, List.set_cons_succ, List.getD_cons_zero, List.getD_cons_succ]; exact rfl)
  case h0 => exact fun p => ⟨Nat.le_refl _, hB.drew, v.drew, f.drew, fun h => absurd h (by decide)⟩
  case hmore => exact fun p L w1 w2 ⟨hsz, hB, v, f, h_d⟩ hm => ⟨Nat.le_trans hsz hm.size, hB.trans (hm.mono (Nat.le_trans hW0 hsz)), v.below hm v.lt, f.below hm f.lt, fun hl => ⟨(h_d hl).1, (h_d hl).2.below hm (h_d hl).2.lt⟩⟩
  case hs =>
    intro more
    refine stepV 0 rfl rfl (fun _ _ _ h => h) ?_ ?_
    · intros; go_simp; exact ⟨rfl, rfl⟩
    refine stepV 1 rfl rfl (fun _ _ _ h => h) ?_ ?_
    · intros; go_simp; exact ⟨rfl, rfl⟩
    refine stepV 2 rfl rfl (fun _ _ _ h => h) ?_ ?_
    · intros; go_simp; exact ⟨rfl, rfl⟩
    refine stepV 3 rfl rfl (fun _ _ _ h => h) ?_ ?_
    · rintro p L w1 ⟨hsz, hB, v, f, h_d⟩ hk
      have L10 : L 10 = false := hk.2.2 10 rfl
      exact valR_part _ _ rfl _ 0 rfl _ _ f (qfn Q) (flt_q Q B) _ Try.underlying23 rfl (by rw [qfn_size]; kernel_rfl) rfl
    refine stepV 4 rfl rfl (fun _ _ _ h => h) ?_ ?_
    · rintro p L w1 ⟨hsz, hB, v, f, h_d⟩ hk
      have L10 : L 10 = false := hk.2.2 10 rfl
      first | exact valR_row _ _ rfl _ rfl _ _ v _ Try.underlying23 rfl (by first | kernel_rfl | (rw [qfn_size]; kernel_rfl)) rfl | (have hc := v.cellIs (qfn_get _ (show 0 < 4 by omega)); go_simp; exact ⟨rfl, rfl⟩)
    refine stepD 5 rfl (fun p => rfl) (fun _ _ _ h => h) more ?_ ?_
    · rintro p L w1 ⟨hsz, hB, v, f, h_d⟩ hk
      go_simp
      refine (BE.out _).mono ?_
      rintro e w2 ⟨rfl, h2⟩
      first | exact ⟨rfl, h2⟩ | (subst h2; exact ⟨rfl, Below.refl _ _⟩)
    refine stepV 6 rfl rfl (fun _ _ _ h => h) ?_ ?_
    · intros; go_simp; exact ⟨rfl, rfl⟩
    refine stepV 7 rfl rfl (fun _ _ _ h => h) ?_ ?_
    · intros; go_simp; exact ⟨rfl, rfl⟩
    refine stepV 8 rfl rfl (fun _ _ _ h => h) ?_ ?_
    · intros; go_simp; exact ⟨rfl, rfl⟩
    refine AllI.cons ?_ ?_
    · refine stepI_alloc 9 rfl (fun p => rfl) rfl (qfn fun _ => 0) 23 (fun p => rfl) ?_ ?_
      · intro p w1
        go_simp
        first | rfl | rw [zero_quat]
      rintro p L w1 ⟨hsz, hB, v, f, h_d⟩ hk
      have L10 : L 10 = false := hk.2.2 10 rfl
      refine ⟨Nat.le_trans hsz (by simp), hB.alloc (Nat.le_trans (by first | exact hW0 | (have := hB.size; simp at this ⊢; omega)) hsz) _, v.alloc _, f.alloc _, fun _ => ⟨hsz, ?_⟩⟩
      rw [show upL L 9 10 = false from L10]
      exact blk.new _ _ _
    refine AllI.cons ?_ ?_
    · refine stepI_store 10 rfl (fun p => rfl) (fun p => rfl) _ _ _ rfl (fun p => p 9) 0 (fun p => rfl) (fun p => (qfn (betF Q q))) (fun p => rfl) (fun p => (qfn fun _ => 0)) (fun p => (qfn (betF Q q))) 23 (fun p => over_qq _ _) (fun p => by first | (rw [qfn_size, qfn_size]; decide) | simp [qfn_size, qfn_size]) (fun p => by rw [qfn_size]; kernel_rfl) (fun p => qfn_one _) ?_ ?_
      · rintro p L w1 ⟨hsz, hB, v, f, h_d⟩ hk
        have L10 : L 10 = false := hk.1
        have hh := (h_d (hk.2.1 9 rfl)).2
        rw [L10] at hh
        try simp only [cond_true, cond_false] at hh
        exact hh
      · rintro p L w1 ⟨hsz, hB, v, f, h_d⟩ hk
        have L10 : L 10 = false := hk.1
        skip
        have hp := h_d (hk.2.1 9 rfl)
        refine ⟨(by simpa using hsz), Below.setRow hB (by first | exact Nat.le_trans hW0 hp.1 | exact ge_d | omega | (have := hB.size; simp at this ⊢; omega)) _, v.rowOther (by first | exact Nat.ne_of_lt (Nat.lt_of_lt_of_le lt_v hp.1) | omega) _, f.rowOther (by first | exact Nat.ne_of_lt (Nat.lt_of_lt_of_le lt_f hp.1) | omega) _, fun _ => ⟨hp.1, ?_⟩⟩
        rw [show upL L 10 10 = true from rfl]
        exact hp.2.row _
    refine stepV 11 rfl rfl (fun _ _ _ h => h) ?_ ?_
    · intros; go_simp; exact ⟨rfl, rfl⟩
    exact AllI.nil
  case hV0 =>
    intro p q
    refine AllI.cons ?_ ?_
    · skip
      iterate 12 (refine AllI.cons (by first | exact .inl rfl | (refine .inr ?_; simp only [List.getD_cons_zero, List.getD_cons_succ]; done) | exact .inr rfl) ?_)
      exact AllI.nil
    exact AllI.nil
  case he =>
  clear hB v f
  rintro p w0r ⟨hsz, hB, v, f, h_d⟩
  obtain ⟨le_d, d⟩ := h_d rfl
  clear h_d
  replace d : blk w0r (p 9) (qfn (betF Q q)) 23 := d
  have ne_v_d : w.heap.size ≠ p 9 := Nat.ne_of_lt (Nat.lt_of_lt_of_le lt_v le_d)
  have ne_f_d : b ≠ p 9 := Nat.ne_of_lt (Nat.lt_of_lt_of_le lt_f le_d)
  have ge_d : w.heap.size ≤ p 9 := Nat.le_trans hW0 le_d
  generalize p 9 = d_b at *
  clear lt_v
  clear lt_f
  clear hsz hW0
  have ne_d_f : d_b ≠ b := Ne.symm ne_f_d
  generalize hD : betF Q q = D at *
  go_upto_region 6 with (fail)
  have lt_v := v.lt
  have lt_f := f.lt
  have lt_d := d.lt
  have hW0 : w.heap.size ≤ w0r.heap.size := by have := hB.size; first | exact this | simpa using this
  apply wp_region_Q 9 [0, 1, 3, 7, 15, 31, 63, 127, 255] [7] [_, _, _, _, _, _, _, (fun p => .pointer (some ⟨p 7, 0, none⟩)), (fun _ => undef)] (fun p L w' => w0r.heap.size ≤ w'.heap.size ∧ Below w.heap.size w w' ∧ blk w' w.heap.size (qfn q) 23 ∧ blk w' b (fltc (Q, B)) 160 ∧ blk w' d_b (qfn D) 23 ∧ (L 7 = true → w0r.heap.size ≤ p 7 ∧ blk w' (p 7) (bif L 8 then (vfn (offF D)) else (vfn fun _ => 0)) 31)) _ [(0, 23), (1, 24), (2, 25), (3, 26), (4, 27), (5, 28), (6, 29), (7, 7)] [0, 1, 2, 3, 4, 5, 6, 7, 8]
  case hn => rfl
  case hB => kernel_rfl
  case hds => kernel_rfl
  case hA => (intro p; simp only [putsD, Act.put, List.setIfInBounds_toArray, List.set_cons_zero, List.set_cons_succ, List.getD_cons_zero, List.getD_cons_succ]; exact rfl)
  case h0 => exact fun p => ⟨Nat.le_refl _, hB, v, f, d, fun h => absurd h (by decide)⟩
  case hmore => exact fun p L w1 w2 ⟨hsz, hB, v, f, d, h_o⟩ hm => ⟨Nat.le_trans hsz hm.size, hB.trans (hm.mono (Nat.le_trans hW0 hsz)), v.below hm v.lt, f.below hm f.lt, d.below hm d.lt, fun hl => ⟨(h_o hl).1, (h_o hl).2.below hm (h_o hl).2.lt⟩⟩
  case hs =>
    intro more
    refine stepV 0 rfl rfl (fun _ _ _ h => h) ?_ ?_
    · intros; go_simp; exact ⟨rfl, rfl⟩
    refine stepV 1 rfl rfl (fun _ _ _ h => h) ?_ ?_
    · rintro p L w1 ⟨hsz, hB, v, f, d, h_o⟩ hk
      have L8 : L 8 = false := hk.2.2 8 rfl
      first | exact valR_row _ _ rfl _ rfl _ _ d _ Try.underlying23 rfl (by first | kernel_rfl | (rw [qfn_size]; kernel_rfl)) rfl | (have hc := d.cellIs (qfn_get _ (show 1 < 4 by omega)); go_simp; exact ⟨rfl, rfl⟩)
    refine stepV 2 rfl rfl (fun _ _ _ h => h) ?_ ?_
    · intros; go_simp; exact ⟨rfl, rfl⟩
    refine stepV 3 rfl rfl (fun _ _ _ h => h) ?_ ?_
    · rintro p L w1 ⟨hsz, hB, v, f, d, h_o⟩ hk
      have L8 : L 8 = false := hk.2.2 8 rfl
      first | exact valR_row _ _ rfl _ rfl _ _ d _ Try.underlying23 rfl (by first | kernel_rfl | (rw [qfn_size]; kernel_rfl)) rfl | (have hc := d.cellIs (qfn_get _ (show 2 < 4 by omega)); go_simp; exact ⟨rfl, rfl⟩)
    refine stepV 4 rfl rfl (fun _ _ _ h => h) ?_ ?_
    · intros; go_simp; exact ⟨rfl, rfl⟩
    refine stepV 5 rfl rfl (fun _ _ _ h => h) ?_ ?_
    · rintro p L w1 ⟨hsz, hB, v, f, d, h_o⟩ hk
      have L8 : L 8 = false := hk.2.2 8 rfl
      first | exact valR_row _ _ rfl _ rfl _ _ d _ Try.underlying23 rfl (by first | kernel_rfl | (rw [qfn_size]; kernel_rfl)) rfl | (have hc := d.cellIs (qfn_get _ (show 3 < 4 by omega)); go_simp; exact ⟨rfl, rfl⟩)
    refine stepV 6 rfl rfl (fun _ _ _ h => h) ?_ ?_
    · intros; try simp only [vfn, qfn]; go_simp; exact ⟨rfl, rfl⟩
    refine AllI.cons ?_ ?_
    · refine stepI_alloc 7 rfl (fun p => rfl) rfl (vfn fun _ => 0) 31 (fun p => rfl) ?_ ?_
      · intro p w1
        go_simp
        first | rfl | rw [zero_vec]
      rintro p L w1 ⟨hsz, hB, v, f, d, h_o⟩ hk
      have L8 : L 8 = false := hk.2.2 8 rfl
      refine ⟨Nat.le_trans hsz (by simp), hB.alloc (Nat.le_trans (by first | exact hW0 | (have := hB.size; simp at this ⊢; omega)) hsz) _, v.alloc _, f.alloc _, d.alloc _, fun _ => ⟨hsz, ?_⟩⟩
      rw [show upL L 7 8 = false from L8]
      exact blk.new _ _ _
    refine AllI.cons ?_ ?_
    · refine stepI_store 8 rfl (fun p => rfl) (fun p => rfl) _ _ _ rfl (fun p => p 7) 0 (fun p => rfl) (fun p => (vfn (offF D))) (fun p => congrArg Value.agg (off_cells D)) (fun p => (vfn fun _ => 0)) (fun p => (vfn (offF D))) 31 (fun p => over_v _ _) (fun p => by first | (rw [vfn_size, vfn_size]; decide) | simp [vfn_size, vfn_size]) (fun p => by rw [vfn_size]; kernel_rfl) (fun p => vfn_one _) ?_ ?_
      · rintro p L w1 ⟨hsz, hB, v, f, d, h_o⟩ hk
        have L8 : L 8 = false := hk.1
        have hh := (h_o (hk.2.1 7 rfl)).2
        rw [L8] at hh
        try simp only [cond_true, cond_false] at hh
        exact hh
      · rintro p L w1 ⟨hsz, hB, v, f, d, h_o⟩ hk
        have L8 : L 8 = false := hk.1
        skip
        have hp := h_o (hk.2.1 7 rfl)
        refine ⟨(by simpa using hsz), Below.setRow hB (by first | exact Nat.le_trans hW0 hp.1 | exact ge_o | omega | (have := hB.size; simp at this ⊢; omega)) _, v.rowOther (by first | exact Nat.ne_of_lt (Nat.lt_of_lt_of_le lt_v hp.1) | omega) _, f.rowOther (by first | exact Nat.ne_of_lt (Nat.lt_of_lt_of_le lt_f hp.1) | omega) _, d.rowOther (by first | exact Nat.ne_of_lt (Nat.lt_of_lt_of_le lt_d hp.1) | omega) _, fun _ => ⟨hp.1, ?_⟩⟩
        rw [show upL L 8 8 = true from rfl]
        exact hp.2.row _
    exact AllI.nil
  case hV0 =>
    intro p q
    refine AllI.cons ?_ ?_
    · skip
      iterate 9 (refine AllI.cons (by first | exact .inl rfl | (refine .inr ?_; simp only [List.getD_cons_zero, List.getD_cons_succ]; done) | exact .inr rfl) ?_)
      exact AllI.nil
    exact AllI.nil
  case he =>
  clear hB v f d
  rintro p w0rr ⟨hsz, hB, v, f, d, h_o⟩
  obtain ⟨le_o, o⟩ := h_o rfl
  clear h_o
  replace o : blk w0rr (p 7) (vfn (offF D)) 31 := o
  have ne_v_o : w.heap.size ≠ p 7 := Nat.ne_of_lt (Nat.lt_of_lt_of_le lt_v le_o)
  have ne_f_o : b ≠ p 7 := Nat.ne_of_lt (Nat.lt_of_lt_of_le lt_f le_o)
  have ne_d_o : d_b ≠ p 7 := Nat.ne_of_lt (Nat.lt_of_lt_of_le lt_d le_o)
  have ge_o : w.heap.size ≤ p 7 := Nat.le_trans hW0 le_o
  generalize p 7 = o_b at *
  clear lt_v
  clear lt_f
  clear lt_d
  clear hsz hW0
  have ne_o_f : o_b ≠ b := Ne.symm ne_f_o
  go_upto_region 7 with (fail)
  have lt_v := v.lt
  have lt_f := f.lt
  have lt_d := d.lt
  have lt_o := o.lt
  have hW0 : w.heap.size ≤ w0rr.heap.size := by have := hB.size; first | exact this | simpa using this
  apply wp_region_Q 4 [0, 1, 3, 7] [] [_, _, _, _] (fun p L w' => w0rr.heap.size ≤ w'.heap.size ∧ Below w.heap.size (bif L 3 then w.setRow b (fltc ((ftF Q (partF (offF D) 4)), B)) else w) w' ∧ blk w' w.heap.size (qfn q) 23 ∧ blk w' b (bif L 3 then (fltc ((ftF Q (partF (offF D) 4)), B)) else (fltc (Q, B))) 160 ∧ blk w' d_b (qfn D) 23 ∧ blk w' o_b (vfn (offF D)) 31) _ [(0, 30), (1, 31), (2, 32), (3, 33)] [0, 1, 2, 3]
  case hn => rfl
  case hB => kernel_rfl
  case hds => kernel_rfl
  case hA => (intro p; simp only [putsD, Act.put, List.setIfInBounds_toArray, List.set_cons_zero, List.set_cons_succ, List.getD_cons_zero, List.getD_cons_succ]; exact rfl)
  case h0 => exact fun p => ⟨Nat.le_refl _, hB, v, f, d, o⟩
  case hmore => exact fun p L w1 w2 ⟨hsz, hB, v, f, d, o⟩ hm => ⟨Nat.le_trans hsz hm.size, hB.trans (hm.mono (Nat.le_trans hW0 hsz)), v.below hm v.lt, f.below hm f.lt, d.below hm d.lt, o.below hm o.lt⟩
  case hs =>
    intro more
    refine stepV 0 rfl rfl (fun _ _ _ h => h) ?_ ?_
    · intros; go_simp; exact ⟨rfl, rfl⟩
    refine stepV 1 rfl rfl (fun _ _ _ h => h) ?_ ?_
    · rintro p L w1 ⟨hsz, hB, v, f, d, o⟩ hk
      have L3 : L 3 = false := hk.2.2 3 rfl
      first | exact valR_row _ _ rfl _ rfl _ _ o _ Try.underlying31 rfl (by first | kernel_rfl | (rw [vfn_size]; kernel_rfl)) rfl | (have hc := o.cellIs (vfn_get _ (show 0 < 3 by omega)); go_simp; exact ⟨rfl, rfl⟩)
    refine stepD 2 rfl (fun p => rfl) (fun _ _ _ h => h) more ?_ ?_
    · rintro p L w1 ⟨hsz, hB, v, f, d, o⟩ hk
      go_simp
      refine (PA.out 4 _ ⟨by omega, by omega⟩).mono ?_
      rintro e w2 ⟨rfl, h2⟩
      first | exact ⟨rfl, h2⟩ | (subst h2; exact ⟨rfl, Below.refl _ _⟩)
    refine AllI.cons ?_ ?_
    · refine stepI_mut 3 rfl (fun p => rfl) (fun _ => b) (fun p => (fltc ((ftF Q (partF (offF D) 4)), B))) ?_ ?_
      · rintro p L w1 ⟨hsz, hB, v, f, d, o⟩ hk
        have L3 : L 3 = false := hk.1
        rw [L3] at f
        try simp only [cond_true, cond_false] at f
        go_simp
        refine (FT.out _ f).mono ?_
        rintro e w2 ⟨rfl, h2⟩
        exact ⟨rfl, h2⟩
      · rintro p L w1 w2 ⟨hsz, hB, v, f, d, o⟩ hk hm
        have L3 : L 3 = false := hk.1
        refine ⟨Nat.le_trans hsz (by have := hm.size; simpa using this), ?_, (v.rowOther (by first | exact ne_v_f | exact Ne.symm ne_f_v | omega) _).below hm (by simpa using v.lt), ?_, (d.rowOther (by first | exact ne_d_f | exact Ne.symm ne_f_d | omega) _).below hm (by simpa using d.lt), (o.rowOther (by first | exact ne_o_f | exact Ne.symm ne_f_o | omega) _).below hm (by simpa using o.lt)⟩
        · rw [show upL L 3 3 = true from rfl]
          rw [L3] at hB
          have hB2 := rowBoth hB b (fltc ((ftF Q (partF (offF D) 4)), B))
          try simp only [cond_true, cond_false] at hB2 ⊢
          try rw [setRow_setRow] at hB2
          exact hB2.trans (hm.mono (Nat.le_trans hW0 hsz))
        · rw [show upL L 3 3 = true from rfl]
          exact (f.row _).below hm (by simpa using f.lt)
    exact AllI.nil
  case hV0 => exact fun p q => AllI.nil
  case he =>
  clear hB v f d o
  rintro p w0rrr ⟨hsz, hB, v, f, d, o⟩
  replace f : blk w0rrr b (fltc ((ftF Q (partF (offF D) 4)), B)) 160 := f
  replace hB : Below w.heap.size (w.setRow b (fltc ((ftF Q (partF (offF D) 4)), B))) w0rrr := hB
  clear lt_v
  clear lt_f
  clear lt_d
  clear lt_o
  clear hsz hW0
  go_upto_region 8 with (fail)
  have lt_v := v.lt
  have lt_f := f.lt
  have lt_d := d.lt
  have lt_o := o.lt
  have hW0 : w.heap.size ≤ w0rrr.heap.size := by have := hB.size; first | exact this | simpa using this
  apply wp_region_Q 2 [0, 1] [] [_, _] (fun p L w' => w0rrr.heap.size ≤ w'.heap.size ∧ Below w.heap.size (w.setRow b (fltc ((ftF Q (partF (offF D) 4)), B))) w' ∧ blk w' w.heap.size (qfn q) 23 ∧ blk w' b (fltc ((ftF Q (partF (offF D) 4)), B)) 160 ∧ blk w' d_b (qfn D) 23 ∧ blk w' o_b (vfn (offF D)) 31) _ [(0, 34), (1, 35)] [0, 1]
  case hn => rfl
  case hB => kernel_rfl
  case hds => kernel_rfl
  case hA => (intro p; simp only [putsD, Act.put, List.setIfInBounds_toArray, List.set_cons_zero, List.set_cons_succ, List.getD_cons_zero, List.getD_cons_succ]; exact rfl)
  case h0 => exact fun p => ⟨Nat.le_refl _, hB, v, f, d, o⟩
  case hmore => exact fun p L w1 w2 ⟨hsz, hB, v, f, d, o⟩ hm => ⟨Nat.le_trans hsz hm.size, hB.trans (hm.mono (Nat.le_trans hW0 hsz)), v.below hm v.lt, f.below hm f.lt, d.below hm d.lt, o.below hm o.lt⟩
  case hs =>
    intro more
    refine stepV 0 rfl rfl (fun _ _ _ h => h) ?_ ?_
    · rintro p L w1 ⟨hsz, hB, v, f, d, o⟩ hk
      first | exact valR_row _ _ rfl _ rfl _ _ o _ Try.underlying31 rfl (by first | kernel_rfl | (rw [vfn_size]; kernel_rfl)) rfl | (have hc := o.cellIs (vfn_get _ (show 0 < 3 by omega)); go_simp; exact ⟨rfl, rfl⟩)
    refine stepD 1 rfl (fun p => rfl) (fun _ _ _ h => h) more ?_ ?_
    · rintro p L w1 ⟨hsz, hB, v, f, d, o⟩ hk
      go_simp
      refine (WI.out _).mono ?_
      rintro e w2 ⟨rfl, h2⟩
      first | exact ⟨rfl, h2⟩ | (subst h2; exact ⟨rfl, Below.refl _ _⟩)
    exact AllI.nil
  case hV0 => exact fun p q => AllI.nil
  case he =>
  clear hB v f d o
  rintro p w0rrrr ⟨hsz, hB, v, f, d, o⟩
  clear lt_v
  clear lt_f
  clear lt_d
  clear lt_o
  clear hsz hW0
  go_upto_region 9 with (fail)
  have lt_v := v.lt
  have lt_f := f.lt
  have lt_d := d.lt
  have lt_o := o.lt
  have hW0 : w.heap.size ≤ w0rrrr.heap.size := by have := hB.size; first | exact this | simpa using this
  apply wp_region_I 13 [0, 1, 3, 7, 0, 16, 63, 127, 255, 255, 0, 1535, 4095] [10] [_, _, _, _, _, _, _, _, _, _, (fun p => .pointer (some ⟨p 10, 0, none⟩)), (fun _ => undef), _] (fun p L w' => w0rrrr.heap.size ≤ w'.heap.size ∧ Below w.heap.size (w.setRow b (fltc ((ftF Q (partF (offF D) 4)), B))) w' ∧ blk w' w.heap.size (qfn q) 23 ∧ blk w' b (fltc ((ftF Q (partF (offF D) 4)), B)) 160 ∧ blk w' d_b (qfn D) 23 ∧ blk w' o_b (vfn (offF D)) 31 ∧ (L 10 = true → w0rrrr.heap.size ≤ p 10 ∧ blk w' (p 10) (bif L 11 then (vfn (vsubF B (partF (offF D) 32))) else (vfn fun _ => 0)) 31)) _ [(0, 37), (1, 38), (2, 39), (3, 40), (4, 41), (5, 42), (6, 43), (7, 36), (8, 44), (9, 45), (10, 8), (12, 9)] [0, 1, 2, 3, 4, 5, 6, 7, 8, 9, 10, 11, 12]
  case hn => rfl
  case hm => kernel_rfl
  case hB => kernel_rfl
  case hds => kernel_rfl
  case hA => (intro p; simp only [putsD, Act.put, List.setIfInBounds_toArray, List.set_cons_zero, List.set_cons_succ, List.getD_cons_zero, List.getD_cons_succ]; exact rfl)
  case h0 => exact fun p => ⟨Nat.le_refl _, hB.drew, v.drew, f.drew, d.drew, o.drew, fun h => absurd h (by decide)⟩
  case hmore => exact fun p L w1 w2 ⟨hsz, hB, v, f, d, o, h_e⟩ hm => ⟨Nat.le_trans hsz hm.size, hB.trans (hm.mono (Nat.le_trans hW0 hsz)), v.below hm v.lt, f.below hm f.lt, d.below hm d.lt, o.below hm o.lt, fun hl => ⟨(h_e hl).1, (h_e hl).2.below hm (h_e hl).2.lt⟩⟩
  case hs =>
    intro more
    refine stepV 0 rfl rfl (fun _ _ _ h => h) ?_ ?_
    · intros; go_simp; exact ⟨rfl, rfl⟩
    refine stepV 1 rfl rfl (fun _ _ _ h => h) ?_ ?_
    · intros; go_simp; exact ⟨rfl, rfl⟩
    refine stepV 2 rfl rfl (fun _ _ _ h => h) ?_ ?_
    · intros; go_simp; exact ⟨rfl, rfl⟩
    refine stepV 3 rfl rfl (fun _ _ _ h => h) ?_ ?_
    · rintro p L w1 ⟨hsz, hB, v, f, d, o, h_e⟩ hk
      have L11 : L 11 = false := hk.2.2 11 rfl
      exact valR_part _ _ rfl _ 4 rfl _ _ f (vfn B) (flt_b (ftF Q (partF (offF D) 4)) B) _ Try.underlying31 rfl (by rw [vfn_size]; kernel_rfl) rfl
    refine stepV 4 rfl rfl (fun _ _ _ h => h) ?_ ?_
    · rintro p L w1 ⟨hsz, hB, v, f, d, o, h_e⟩ hk
      have L11 : L 11 = false := hk.2.2 11 rfl
      first | exact valR_row _ _ rfl _ rfl _ _ o _ Try.underlying31 rfl (by first | kernel_rfl | (rw [vfn_size]; kernel_rfl)) rfl | (have hc := o.cellIs (vfn_get _ (show 0 < 3 by omega)); go_simp; exact ⟨rfl, rfl⟩)
    refine stepD 5 rfl (fun p => rfl) (fun _ _ _ h => h) more ?_ ?_
    · rintro p L w1 ⟨hsz, hB, v, f, d, o, h_e⟩ hk
      go_simp
      refine (PA.out 32 _ ⟨by omega, by omega⟩).mono ?_
      rintro e w2 ⟨rfl, h2⟩
      first | exact ⟨rfl, h2⟩ | (subst h2; exact ⟨rfl, Below.refl _ _⟩)
    refine stepD 6 rfl (fun p => rfl) (fun _ _ _ h => h) more ?_ ?_
    · rintro p L w1 ⟨hsz, hB, v, f, d, o, h_e⟩ hk
      go_simp
      refine (SU.out _).mono ?_
      rintro e w2 ⟨rfl, h2⟩
      first | exact ⟨rfl, h2⟩ | (subst h2; exact ⟨rfl, Below.refl _ _⟩)
    refine stepV 7 rfl rfl (fun _ _ _ h => h) ?_ ?_
    · intros; go_simp; exact ⟨rfl, rfl⟩
    refine stepV 8 rfl rfl (fun _ _ _ h => h) ?_ ?_
    · intros; go_simp; exact ⟨rfl, rfl⟩
    refine stepV 9 rfl rfl (fun _ _ _ h => h) ?_ ?_
    · intros; go_simp; exact ⟨rfl, rfl⟩
    refine AllI.cons ?_ ?_
    · refine stepI_alloc 10 rfl (fun p => rfl) rfl (vfn fun _ => 0) 31 (fun p => rfl) ?_ ?_
      · intro p w1
        go_simp
        first | rfl | rw [zero_vec]
      rintro p L w1 ⟨hsz, hB, v, f, d, o, h_e⟩ hk
      have L11 : L 11 = false := hk.2.2 11 rfl
      refine ⟨Nat.le_trans hsz (by simp), hB.alloc (Nat.le_trans (by first | exact hW0 | (have := hB.size; simp at this ⊢; omega)) hsz) _, v.alloc _, f.alloc _, d.alloc _, o.alloc _, fun _ => ⟨hsz, ?_⟩⟩
      rw [show upL L 10 11 = false from L11]
      exact blk.new _ _ _
    refine AllI.cons ?_ ?_
    · refine stepI_store 11 rfl (fun p => rfl) (fun p => rfl) _ _ _ rfl (fun p => p 10) 0 (fun p => rfl) (fun p => (vfn (vsubF B (partF (offF D) 32)))) (fun p => rfl) (fun p => (vfn fun _ => 0)) (fun p => (vfn (vsubF B (partF (offF D) 32)))) 31 (fun p => over_v _ _) (fun p => by first | (rw [vfn_size, vfn_size]; decide) | simp [vfn_size, vfn_size]) (fun p => by rw [vfn_size]; kernel_rfl) (fun p => vfn_one _) ?_ ?_
      · rintro p L w1 ⟨hsz, hB, v, f, d, o, h_e⟩ hk
        have L11 : L 11 = false := hk.1
        have hh := (h_e (hk.2.1 10 rfl)).2
        rw [L11] at hh
        try simp only [cond_true, cond_false] at hh
        exact hh
      · rintro p L w1 ⟨hsz, hB, v, f, d, o, h_e⟩ hk
        have L11 : L 11 = false := hk.1
        skip
        have hp := h_e (hk.2.1 10 rfl)
        refine ⟨(by simpa using hsz), Below.setRow hB (by first | exact Nat.le_trans hW0 hp.1 | exact ge_e | omega | (have := hB.size; simp at this ⊢; omega)) _, v.rowOther (by first | exact Nat.ne_of_lt (Nat.lt_of_lt_of_le lt_v hp.1) | omega) _, f.rowOther (by first | exact Nat.ne_of_lt (Nat.lt_of_lt_of_le lt_f hp.1) | omega) _, d.rowOther (by first | exact Nat.ne_of_lt (Nat.lt_of_lt_of_le lt_d hp.1) | omega) _, o.rowOther (by first | exact Nat.ne_of_lt (Nat.lt_of_lt_of_le lt_o hp.1) | omega) _, fun _ => ⟨hp.1, ?_⟩⟩
        rw [show upL L 11 11 = true from rfl]
        exact hp.2.row _
    refine stepV 12 rfl rfl (fun _ _ _ h => h) ?_ ?_
    · intros; go_simp; exact ⟨rfl, rfl⟩
    exact AllI.nil
  case hV0 =>
    intro p q
    refine AllI.cons ?_ ?_
    · skip
      iterate 13 (refine AllI.cons (by first | exact .inl rfl | (refine .inr ?_; simp only [List.getD_cons_zero, List.getD_cons_succ]; done) | exact .inr rfl) ?_)
      exact AllI.nil
    exact AllI.nil
  case he =>
  clear hB v f d o
  rintro p w0rrrrr ⟨hsz, hB, v, f, d, o, h_e⟩
  obtain ⟨le_e, e⟩ := h_e rfl
  clear h_e
  replace e : blk w0rrrrr (p 10) (vfn (vsubF B (partF (offF D) 32))) 31 := e
  have ne_v_e : w.heap.size ≠ p 10 := Nat.ne_of_lt (Nat.lt_of_lt_of_le lt_v le_e)
  have ne_f_e : b ≠ p 10 := Nat.ne_of_lt (Nat.lt_of_lt_of_le lt_f le_e)
  have ne_d_e : d_b ≠ p 10 := Nat.ne_of_lt (Nat.lt_of_lt_of_le lt_d le_e)
  have ne_o_e : o_b ≠ p 10 := Nat.ne_of_lt (Nat.lt_of_lt_of_le lt_o le_e)
  have ge_e : w.heap.size ≤ p 10 := Nat.le_trans hW0 le_e
  generalize p 10 = e_b at *
  clear lt_v
  clear lt_f
  clear lt_d
  clear lt_o
  clear hsz hW0
  have ne_e_f : e_b ≠ b := Ne.symm ne_f_e
  go_upto_region 10 with (fail)
  have lt_v := v.lt
  have lt_f := f.lt
  have lt_d := d.lt
  have lt_o := o.lt
  have lt_e := e.lt
  have hW0 : w.heap.size ≤ w0rrrrr.heap.size := by have := hB.size; first | exact this | simpa using this
  apply wp_region_Q 7 [0, 1, 3, 7, 15, 31, 63] [2] [_, _, (fun p => (fun b => .slice (some ⟨b, 0, none⟩) 1 1) (p 2)), _, _, _, (fun _ => undef)] (fun p L w' => w0rrrrr.heap.size ≤ w'.heap.size ∧ Below w.heap.size (bif L 6 then w.setRow b (fltc ((ftF Q (partF (offF D) 4)), corF B (offF D))) else (w.setRow b (fltc ((ftF Q (partF (offF D) 4)), B)))) w' ∧ blk w' w.heap.size (qfn q) 23 ∧ blk w' b (bif L 6 then (fltc ((ftF Q (partF (offF D) 4)), corF B (offF D))) else (fltc ((ftF Q (partF (offF D) 4)), B))) 160 ∧ blk w' d_b (qfn D) 23 ∧ blk w' o_b (vfn (offF D)) 31 ∧ blk w' e_b (vfn (vsubF B (partF (offF D) 32))) 31 ∧ (L 2 = true → w0rrrrr.heap.size ≤ p 2 ∧ blk w' (p 2) (row1 (vsubF B (partF (offF D) 32))) 31)) _ [(0, 46), (1, 47), (2, 48), (3, 49), (4, 50), (5, 51)] [0, 1, 2, 3, 4, 5, 6]
  case hn => rfl
  case hB => kernel_rfl
  case hds => kernel_rfl
  case hA => (intro p; simp only [putsD, Act.put, List.setIfInBounds_toArray, List.set_cons_zero, List.set_cons_succ, List.getD_cons_zero, List.getD_cons_succ]; exact rfl)
  case h0 => exact fun p => ⟨Nat.le_refl _, hB, v, f, d, o, e, fun h => absurd h (by decide)⟩
  case hmore => exact fun p L w1 w2 ⟨hsz, hB, v, f, d, o, e, h_l⟩ hm => ⟨Nat.le_trans hsz hm.size, hB.trans (hm.mono (Nat.le_trans hW0 hsz)), v.below hm v.lt, f.below hm f.lt, d.below hm d.lt, o.below hm o.lt, e.below hm e.lt, fun hl => ⟨(h_l hl).1, (h_l hl).2.below hm (h_l hl).2.lt⟩⟩
  case hs =>
    intro more
    refine stepV 0 rfl rfl (fun _ _ _ h => h) ?_ ?_
    · intros; go_simp; exact ⟨rfl, rfl⟩
    refine stepV 1 rfl rfl (fun _ _ _ h => h) ?_ ?_
    · rintro p L w1 ⟨hsz, hB, v, f, d, o, e, h_l⟩ hk
      have L6 : L 6 = false := hk.2.2 6 rfl
      first | exact valR_row _ _ rfl _ rfl _ _ e _ Try.underlying31 rfl (by first | kernel_rfl | (rw [vfn_size]; kernel_rfl)) rfl | (have hc := e.cellIs (vfn_get _ (show 0 < 3 by omega)); go_simp; exact ⟨rfl, rfl⟩)
    refine AllI.cons ?_ ?_
    · refine stepI_fresh 2 rfl (fun p => rfl) rfl (fun b => .slice (some ⟨b, 0, none⟩) 1 1) (fun p => (row1 (vsubF B (partF (offF D) 32)))) 31 (fun p => rfl) ?_ ?_
      · intro p w1
        simp only [vfn, qfn]
        go_simp
        try rfl
      rintro p L w1 ⟨hsz, hB, v, f, d, o, e, h_l⟩ hk
      have L6 : L 6 = false := hk.2.2 6 rfl
      refine ⟨Nat.le_trans hsz (by simp), hB.alloc (Nat.le_trans (by first | exact hW0 | (have := hB.size; simp at this ⊢; omega)) hsz) _, v.alloc _, f.alloc _, d.alloc _, o.alloc _, e.alloc _, fun _ => ⟨hsz, ?_⟩⟩
      exact blk.new _ _ _
    refine stepD 3 rfl (fun p => rfl) (fun _ _ _ h => h) more ?_ ?_
    · rintro p L w1 ⟨hsz, hB, v, f, d, o, e, h_l⟩ hk
      have L6 : L 6 = false := hk.2.2 6 rfl
      have hh_l := (h_l (hk.2.1 2 rfl)).2
      go_simp
      refine (CL.out _ _ _ _ hh_l (rows_pick1 _)).mono ?_
      rintro e w2 ⟨rfl, h2⟩
      first | exact ⟨rfl, h2⟩ | (subst h2; exact ⟨rfl, Below.refl _ _⟩)
    refine stepV 4 rfl rfl (fun _ _ _ h => h) ?_ ?_
    · intros; go_simp; exact ⟨rfl, rfl⟩
    refine stepV 5 rfl rfl (fun _ _ _ h => h) ?_ ?_
    · intros; go_simp; exact ⟨rfl, rfl⟩
    refine AllI.cons ?_ ?_
    · refine stepI_store 6 rfl (fun p => rfl) (fun p => rfl) _ _ _ rfl (fun _ => b) 4 (fun p => rfl) (fun p => (vfn (corF B (offF D)))) (fun p => rfl) (fun p => (fltc ((ftF Q (partF (offF D) 4)), B))) (fun p => (fltc ((ftF Q (partF (offF D) 4)), corF B (offF D)))) 160 (fun p => over_b _ _ _) (fun p => by first | (rw [vfn_size, fltc_size]; decide) | simp [vfn_size, fltc_size]) (fun p => by rw [vfn_size]; kernel_rfl) (fun p => vfn_one _) ?_ ?_
      · rintro p L w1 ⟨hsz, hB, v, f, d, o, e, h_l⟩ hk
        have L6 : L 6 = false := hk.1
        rw [L6] at f
        try simp only [cond_true, cond_false] at f
        exact f
      · rintro p L w1 ⟨hsz, hB, v, f, d, o, e, h_l⟩ hk
        have L6 : L 6 = false := hk.1
        skip
        refine ⟨(by simpa using hsz), ?_, v.rowOther (by first | exact ne_v_f | exact Ne.symm ne_f_v | omega) _, ?_, d.rowOther (by first | exact ne_d_f | exact Ne.symm ne_f_d | omega) _, o.rowOther (by first | exact ne_o_f | exact Ne.symm ne_f_o | omega) _, e.rowOther (by first | exact ne_e_f | exact Ne.symm ne_f_e | omega) _, fun hl => ⟨(h_l hl).1, (h_l hl).2.rowOther (Nat.ne_of_gt (Nat.lt_of_lt_of_le lt_f (h_l hl).1)) _⟩⟩
        · rw [show upL L 6 6 = true from rfl]
          rw [L6] at hB
          have hB2 := rowBoth hB b (fltc ((ftF Q (partF (offF D) 4)), corF B (offF D)))
          try simp only [cond_true, cond_false] at hB2 ⊢
          try rw [setRow_setRow] at hB2
          exact hB2
        · rw [show upL L 6 6 = true from rfl]
          exact f.row _
    exact AllI.nil
  case hV0 =>
    intro p q
    refine AllI.cons ?_ ?_
    · skip
      iterate 7 (refine AllI.cons (by first | exact .inl rfl | (refine .inr ?_; simp only [List.getD_cons_zero, List.getD_cons_succ]; done) | exact .inr rfl) ?_)
      exact AllI.nil
    exact AllI.nil
  case he =>
  clear hB v f d o e
  rintro p w0rrrrrr ⟨hsz, hB, v, f, d, o, e, h_l⟩
  obtain ⟨le_l, l⟩ := h_l rfl
  clear h_l
  replace f : blk w0rrrrrr b (fltc ((ftF Q (partF (offF D) 4)), corF B (offF D))) 160 := f
  replace l : blk w0rrrrrr (p 2) (row1 (vsubF B (partF (offF D) 32))) 31 := l
  replace hB : Below w.heap.size (w.setRow b (fltc ((ftF Q (partF (offF D) 4)), corF B (offF D)))) w0rrrrrr := hB
  have ne_v_l : w.heap.size ≠ p 2 := Nat.ne_of_lt (Nat.lt_of_lt_of_le lt_v le_l)
  have ne_f_l : b ≠ p 2 := Nat.ne_of_lt (Nat.lt_of_lt_of_le lt_f le_l)
  have ne_d_l : d_b ≠ p 2 := Nat.ne_of_lt (Nat.lt_of_lt_of_le lt_d le_l)
  have ne_o_l : o_b ≠ p 2 := Nat.ne_of_lt (Nat.lt_of_lt_of_le lt_o le_l)
  have ne_e_l : e_b ≠ p 2 := Nat.ne_of_lt (Nat.lt_of_lt_of_le lt_e le_l)
  have ge_l : w.heap.size ≤ p 2 := Nat.le_trans hW0 le_l
  generalize p 2 = l_b at *
  clear lt_v
  clear lt_f
  clear lt_d
  clear lt_o
  clear lt_e
  clear hsz hW0
  go_upto_region 11 with (fail)
  go_wp2_with (fail)
  go_ret
  subst hD
  exact ⟨rfl, hB⟩
end Go.Proofs.Ytkmelddejdikgaa
