/-
  The gyros of the specification.
-/
import Derived.Test.YtnkjbdfhdenbcaaFlC
set_option linter.unusedSimpArgs false
set_option linter.unusedVariables false
namespace Go.Proofs.Ytnkjbdfhdenbcaa
open Go.RowKit PM Dt
/-- A quaternion, as a row. -/
def row4 (q : Nat → Int) : Array Value := #[.int .i64 (q 0), .int .i64 (q 1), .int .i64 (q 2), .int .i64 (q 3)]
theorem row4_size (q : Nat → Int) : (row4 q).size = 4 := rfl
theorem row1_size (q : Nat → Int) : (row1 q).size = 3 := rfl
/-- The bias behind a drift, with what else a gyro's memory is. -/
def drF (G R : Nat → Int) : Nat → Int := fun i => if i < 3 then clampV (G i + R i) (-16777216) 16777216 else G i
theorem drF_at (G R : Nat → Int) {k : Nat} (h : k < 3) : drF G R k = clampV (G k + R k) (-16777216) 16777216 := by unfold drF; rw [if_pos h]
/-- The first three cells of four, one by one. -/
def preG (a b : Nat → Int) (k : Nat) : Nat → Int := fun i => if i < k then a i else b i
theorem preG_zero (a b : Nat → Int) : preG a b 0 = b := by funext i; simp [preG]
theorem preG_at (a b : Nat → Int) (k : Nat) : preG a b k k = b k := by simp [preG]
theorem preG_set (a b : Nat → Int) {k : Nat} (h : k < 3) : (qfn (preG a b k)).setIfInBounds k (.int .i64 (a k)) = qfn (preG a b (k + 1)) := by
  unfold qfn preG
  rcases (show k = 0 ∨ k = 1 ∨ k = 2 by omega) with rfl | rfl | rfl <;> simp
theorem preG_all (G R : Nat → Int) : qfn (preG (drF G R) G 3) = qfn (drF G R) := by unfold qfn preG drF; simp
theorem fltc_zero : #[Value.int .i64 0, .int .i64 0, .int .i64 0, .int .i64 0, .int .i64 0, .int .i64 0, .int .i64 0] = fltc (fun _ => 0, fun _ => 0) := rfl
theorem ok_bd {f : Nat → Int} (h : okV f = true) : ∀ i, i < 3 → -4398046511104 ≤ f i ∧ f i ≤ 4398046511104 := fun i hi => by
  have := (vb_iff _).1 ((okV_iff _).1 h i hi)
  omega
set_option maxRecDepth 100000 in
set_option maxHeartbeats 4000000 in
theorem rgread_no1 (G R Z : Nat → Int) (w : World) (hR : okV R = false) : Calls Try.prog 35 #[.agg (qfn G), .agg (vfn R), .agg (vfn Z)] w fun e w' => e = .returned (.tuple #[.agg (vfn fun _ => 0), .int .i64 2]) ∧ Below w.heap.size w w' := by
  have VR := Lib.hid (fun w => rvalid_any R w)
  have VZ := Lib.hid (fun w => rvalid_any Z w)
  rw [hR] at VR
  go_enter Try.func35, Try.ntmps35
  go_upto_region 1 with (fail)
  simp only [zero_vec]
  have g : blk ((((w.alloc (.cells (qfn G) 62)).alloc (.cells (vfn R) 39)).alloc (.cells (vfn Z) 39)).alloc (.cells (vfn fun _ => 0) 39)) w.heap.size (qfn G) 62 := (((blk.new _ _ _).alloc _).alloc _).alloc _
  have a : blk ((((w.alloc (.cells (qfn G) 62)).alloc (.cells (vfn R) 39)).alloc (.cells (vfn Z) 39)).alloc (.cells (vfn fun _ => 0) 39)) (w.heap.size + 1) (vfn R) 39 := ((blk.new' (by simp)).alloc _).alloc _
  have q : blk ((((w.alloc (.cells (qfn G) 62)).alloc (.cells (vfn R) 39)).alloc (.cells (vfn Z) 39)).alloc (.cells (vfn fun _ => 0) 39)) (w.heap.size + 2) (vfn Z) 39 := (blk.new' (by simp)).alloc _
  have r : blk ((((w.alloc (.cells (qfn G) 62)).alloc (.cells (vfn R) 39)).alloc (.cells (vfn Z) 39)).alloc (.cells (vfn fun _ => 0) 39)) (w.heap.size + 3) (vfn fun _ => 0) 39 := blk.new' (by simp)
  have hB : Below w.heap.size w ((((w.alloc (.cells (qfn G) 62)).alloc (.cells (vfn R) 39)).alloc (.cells (vfn Z) 39)).alloc (.cells (vfn fun _ => 0) 39)) := by go_grown
  generalize ((((w.alloc (.cells (qfn G) 62)).alloc (.cells (vfn R) 39)).alloc (.cells (vfn Z) 39)).alloc (.cells (vfn fun _ => 0) 39)) = w0 at *
  go_wp2_with (first
    | (refine wpList_load_rowG ?hw _ _ rfl _ rfl _ _ _ _ a Try.underlying39 rfl ?hi ?_; (case hw => (first | rfl | (simp [Region.wanted, yielded]; done))); (case hi => (first | kernel_rfl | (rw [vfn_size]; kernel_rfl))))
    | (refine wpList_load_rowG ?hw _ _ rfl _ rfl _ _ _ _ q Try.underlying39 rfl ?hi ?_; (case hw => (first | rfl | (simp [Region.wanted, yielded]; done))); (case hi => (first | kernel_rfl | (rw [vfn_size]; kernel_rfl))))
    | (go_at_call 81; with_reducible refine (VR.out _).mono ?_; rintro e w1 ⟨rfl, hb⟩; replace hB := hB.trans (hb.mono hB.size); replace g := g.below hb g.lt; replace a := a.below hb a.lt; replace q := q.below hb q.lt; replace r := r.below hb r.lt; clear hb)
    | (rw [zero_vec]; refine wpList_store_row rfl _ _ _ rfl _ rfl _ rfl _ _ r (by first | kernel_rfl | (rw [vfn_size]; kernel_rfl)) (by first | rfl | simp only [vfn_size]) (by first | exact vfn_one _ | rfl) ?_))
  refine bodyPost_ret (results_vec rfl _ _ _ _ _ _ _ rfl (r.row (vfn (fun _ => 0))) Try.underlying39 rfl (by first | kernel_rfl | (rw [vfn_size]; kernel_rfl))) rfl ?_
  refine ⟨?_, Below.setRow hB (by omega) _⟩
  rfl
set_option maxRecDepth 100000 in
set_option maxHeartbeats 4000000 in
theorem rgread_no2 (G R Z : Nat → Int) (w : World) (hR : okV R = true) (hZ : okV Z = false) : Calls Try.prog 35 #[.agg (qfn G), .agg (vfn R), .agg (vfn Z)] w fun e w' => e = .returned (.tuple #[.agg (vfn fun _ => 0), .int .i64 2]) ∧ Below w.heap.size w w' := by
  have VR := Lib.hid (fun w => rvalid_any R w)
  have VZ := Lib.hid (fun w => rvalid_any Z w)
  rw [hR] at VR
  rw [hZ] at VZ
  go_enter Try.func35, Try.ntmps35
  go_upto_region 1 with (fail)
  simp only [zero_vec]
  have g : blk ((((w.alloc (.cells (qfn G) 62)).alloc (.cells (vfn R) 39)).alloc (.cells (vfn Z) 39)).alloc (.cells (vfn fun _ => 0) 39)) w.heap.size (qfn G) 62 := (((blk.new _ _ _).alloc _).alloc _).alloc _
  have a : blk ((((w.alloc (.cells (qfn G) 62)).alloc (.cells (vfn R) 39)).alloc (.cells (vfn Z) 39)).alloc (.cells (vfn fun _ => 0) 39)) (w.heap.size + 1) (vfn R) 39 := ((blk.new' (by simp)).alloc _).alloc _
  have q : blk ((((w.alloc (.cells (qfn G) 62)).alloc (.cells (vfn R) 39)).alloc (.cells (vfn Z) 39)).alloc (.cells (vfn fun _ => 0) 39)) (w.heap.size + 2) (vfn Z) 39 := (blk.new' (by simp)).alloc _
  have r : blk ((((w.alloc (.cells (qfn G) 62)).alloc (.cells (vfn R) 39)).alloc (.cells (vfn Z) 39)).alloc (.cells (vfn fun _ => 0) 39)) (w.heap.size + 3) (vfn fun _ => 0) 39 := blk.new' (by simp)
  have hB : Below w.heap.size w ((((w.alloc (.cells (qfn G) 62)).alloc (.cells (vfn R) 39)).alloc (.cells (vfn Z) 39)).alloc (.cells (vfn fun _ => 0) 39)) := by go_grown
  generalize ((((w.alloc (.cells (qfn G) 62)).alloc (.cells (vfn R) 39)).alloc (.cells (vfn Z) 39)).alloc (.cells (vfn fun _ => 0) 39)) = w0 at *
  go_wp2_with (first
    | (refine wpList_load_rowG ?hw _ _ rfl _ rfl _ _ _ _ a Try.underlying39 rfl ?hi ?_; (case hw => (first | rfl | (simp [Region.wanted, yielded]; done))); (case hi => (first | kernel_rfl | (rw [vfn_size]; kernel_rfl))))
    | (refine wpList_load_rowG ?hw _ _ rfl _ rfl _ _ _ _ q Try.underlying39 rfl ?hi ?_; (case hw => (first | rfl | (simp [Region.wanted, yielded]; done))); (case hi => (first | kernel_rfl | (rw [vfn_size]; kernel_rfl))))
    | (go_at_call 81; with_reducible refine (VR.out _).mono ?_; rintro e w1 ⟨rfl, hb⟩; replace hB := hB.trans (hb.mono hB.size); replace g := g.below hb g.lt; replace a := a.below hb a.lt; replace q := q.below hb q.lt; replace r := r.below hb r.lt; clear hb)
    | (go_at_call 81; with_reducible refine (VZ.out _).mono ?_; rintro e w2 ⟨rfl, hb⟩; replace hB := hB.trans (hb.mono hB.size); replace g := g.below hb g.lt; replace a := a.below hb a.lt; replace q := q.below hb q.lt; replace r := r.below hb r.lt; clear hb)
    | (rw [zero_vec]; refine wpList_store_row rfl _ _ _ rfl _ rfl _ rfl _ _ r (by first | kernel_rfl | (rw [vfn_size]; kernel_rfl)) (by first | rfl | simp only [vfn_size]) (by first | exact vfn_one _ | rfl) ?_))
  refine bodyPost_ret (results_vec rfl _ _ _ _ _ _ _ rfl (r.row (vfn (fun _ => 0))) Try.underlying39 rfl (by first | kernel_rfl | (rw [vfn_size]; kernel_rfl))) rfl ?_
  refine ⟨?_, Below.setRow hB (by omega) _⟩
  rfl
set_option maxRecDepth 100000 in
set_option maxHeartbeats 4000000 in
theorem rgread_ok (G R Z : Nat → Int) (w : World) (hG : GI G) (hR : okV R = true) (hZ : okV Z = true) : Calls Try.prog 35 #[.agg (qfn G), .agg (vfn R), .agg (vfn Z)] w fun e w' => e = .returned (.tuple #[.agg (vfn (readF G R Z)), .int .i64 0]) ∧ Below w.heap.size w w' := by
  have VR := Lib.hid (fun w => rvalid_any R w)
  have VZ := Lib.hid (fun w => rvalid_any Z w)
  have HB := Lib.hid (pick3_bd (ok_bd hR) hG (ok_bd hZ))
  have HM := hG.2
  rw [hR] at VR
  rw [hZ] at VZ
  clear hR hZ hG
  go_enter Try.func35, Try.ntmps35
  go_upto_region 1 with (fail)
  simp only [zero_vec]
  have g : blk ((((w.alloc (.cells (qfn G) 62)).alloc (.cells (vfn R) 39)).alloc (.cells (vfn Z) 39)).alloc (.cells (vfn fun _ => 0) 39)) w.heap.size (qfn G) 62 := (((blk.new _ _ _).alloc _).alloc _).alloc _
  have a : blk ((((w.alloc (.cells (qfn G) 62)).alloc (.cells (vfn R) 39)).alloc (.cells (vfn Z) 39)).alloc (.cells (vfn fun _ => 0) 39)) (w.heap.size + 1) (vfn R) 39 := ((blk.new' (by simp)).alloc _).alloc _
  have q : blk ((((w.alloc (.cells (qfn G) 62)).alloc (.cells (vfn R) 39)).alloc (.cells (vfn Z) 39)).alloc (.cells (vfn fun _ => 0) 39)) (w.heap.size + 2) (vfn Z) 39 := (blk.new' (by simp)).alloc _
  have r : blk ((((w.alloc (.cells (qfn G) 62)).alloc (.cells (vfn R) 39)).alloc (.cells (vfn Z) 39)).alloc (.cells (vfn fun _ => 0) 39)) (w.heap.size + 3) (vfn fun _ => 0) 39 := blk.new' (by simp)
  have hB : Below w.heap.size w ((((w.alloc (.cells (qfn G) 62)).alloc (.cells (vfn R) 39)).alloc (.cells (vfn Z) 39)).alloc (.cells (vfn fun _ => 0) 39)) := by go_grown
  generalize ((((w.alloc (.cells (qfn G) 62)).alloc (.cells (vfn R) 39)).alloc (.cells (vfn Z) 39)).alloc (.cells (vfn fun _ => 0) 39)) = w0 at *
  go_upto_region 3 with (first
    | (refine wpList_load_rowG ?hw _ _ rfl _ rfl _ _ _ _ a Try.underlying39 rfl ?hi ?_; (case hw => (first | rfl | (simp [Region.wanted, yielded]; done))); (case hi => (first | kernel_rfl | (rw [vfn_size]; kernel_rfl))))
    | (refine wpList_load_rowG ?hw _ _ rfl _ rfl _ _ _ _ q Try.underlying39 rfl ?hi ?_; (case hw => (first | rfl | (simp [Region.wanted, yielded]; done))); (case hi => (first | kernel_rfl | (rw [vfn_size]; kernel_rfl))))
    | (go_at_call 81; with_reducible refine (VR.out _).mono ?_; rintro e w1 ⟨rfl, hb⟩; replace hB := hB.trans (hb.mono hB.size); replace g := g.below hb g.lt; replace a := a.below hb a.lt; replace q := q.below hb q.lt; replace r := r.below hb r.lt; clear hb)
    | (go_at_call 81; with_reducible refine (VZ.out _).mono ?_; rintro e w2 ⟨rfl, hb⟩; replace hB := hB.trans (hb.mono hB.size); replace g := g.below hb g.lt; replace a := a.below hb a.lt; replace q := q.below hb q.lt; replace r := r.below hb r.lt; clear hb))
  rw [preF_zero_as R (readF G R Z)] at a
  go_wp2_with (fail)
  go_loopg [8] 3 (fun g_ iv wr => ∃ k : Nat, g_ + k = 3 ∧ iv = .int .i64 k ∧ blk wr w.heap.size (qfn G) 62 ∧ blk wr (w.heap.size + 1) (vfn (preF (readF G R Z) R k)) 39 ∧ blk wr (w.heap.size + 2) (vfn Z) 39 ∧ blk wr (w.heap.size + 3) (vfn fun _ => 0) 39 ∧ Below w.heap.size w wr)
  case atStart => exact ⟨0, rfl, rfl, g, a, q, r, hB⟩
  case round =>
    clear g a q r hB
    obtain ⟨k, hk, rfl, g, a, q, r, hB⟩ := hrel
    by_cases hkn : k < 3
    · have hdk : decide ((k : Int) < 3) = true := decide_eq_true (by omega)
      have hdk' : decide (k < 3) = true := decide_eq_true (by omega)
      have hk3 : (k : Int) < 3 := by omega
      have hw3 : IntKind.i64.wrap ((k : Int) + 1) = ((k + 1 : Nat) : Int) := by rw [IntKind.wrap_i64]; omega
      have HB0 := HB.out 0 (by omega) k hkn
      have HB1 := HB.out 1 (by omega) k hkn
      have HB2 := HB.out 2 (by omega) k hkn
      replace HB0 : -4398046511104 ≤ R k ∧ R k ≤ 4398046511104 := HB0
      replace HB1 : -4398046511104 ≤ G k ∧ G k ≤ 4398046511104 := HB1
      replace HB2 : -4398046511104 ≤ Z k ∧ Z k ≤ 4398046511104 := HB2
      have e1 : IntKind.i64.wrap (R k + G k) = R k + G k := by rw [IntKind.wrap_i64]; omega
      have e2 : IntKind.i64.wrap (R k + G k + Z k) = R k + G k + Z k := by rw [IntKind.wrap_i64]; omega
      have e3 : IntKind.i64.wrap (-G 3) = -G 3 := by rw [IntKind.wrap_i64]; omega
      have CL := Lib.hid (fun w => rclamp_any (R k + G k + Z k) (-G 3) (G 3) w)
      have ev : clampV (R k + G k + Z k) (-G 3) (G 3) = readF G R Z k := by unfold readF; congr 1; simp [sumF, pick3]
      clear HB0 HB1 HB2
      go_upto_region 6 with (fail)
      have lt_g := g.lt
      have lt_a := a.lt
      have lt_q := q.lt
      have lt_r := r.lt
      have hW0 : w.heap.size ≤ wr.heap.size := by have := hB.size; first | exact this | simpa using this
      apply wp_region_I 21 [0, 0, 2, 6, 0, 0, 48, 112, 254, 0, 512, 1536, 4094, 0, 8192, 24576, 0, 65536, 262142, 524287, 1048575] [] [_, _, _, _, _, _, _, _, _, _, _, _, _, _, _, _, _, _, _, _, (fun _ => undef)] (fun p L w' => wr.heap.size ≤ w'.heap.size ∧ Below w.heap.size w w' ∧ blk w' w.heap.size (qfn G) 62 ∧ blk w' (w.heap.size + 1) (bif L 20 then (vfn (preF (readF G R Z) R (k + 1))) else (vfn (preF (readF G R Z) R k))) 39 ∧ blk w' (w.heap.size + 2) (vfn Z) 39 ∧ blk w' (w.heap.size + 3) (vfn fun _ => 0) 39) _ [(0, 22), (1, 23), (2, 24), (3, 25), (4, 26), (5, 27), (6, 28), (7, 29), (8, 30), (9, 31), (10, 32), (11, 33), (12, 34), (13, 35), (14, 36), (15, 37), (16, 38), (17, 39), (18, 40), (19, 41)] [0, 1, 2, 3, 4, 5, 6, 7, 8, 9, 10, 11, 12, 13, 14, 15, 16, 17, 18, 19, 20]
      case hn => rfl
      case hm => kernel_rfl
      case hB => kernel_rfl
      case hds => kernel_rfl
      case hA => (intro p; simp only [putsD, Act.put, List.setIfInBounds_toArray, List.set_cons_zero, List.set_cons_succ, List.getD_cons_zero, List.getD_cons_succ]; exact rfl)
      case h0 => exact fun p => ⟨Nat.le_refl _, hB.drew, g.drew, a.drew, q.drew, r.drew⟩
      case hmore => exact fun p L w1 w2 ⟨hsz, hB, g, a, q, r⟩ hm => ⟨Nat.le_trans hsz hm.size, hB.trans (hm.mono (Nat.le_trans hW0 hsz)), g.below hm g.lt, a.below hm a.lt, q.below hm q.lt, r.below hm r.lt⟩
      case hs =>
        intro more
        refine stepV 0 rfl rfl (fun _ _ _ h => h) ?_ ?_
        · intros; go_simp; exact ⟨rfl, rfl⟩
        refine stepV 1 rfl rfl (fun _ _ _ h => h) ?_ ?_
        · intros; go_simp; exact ⟨rfl, rfl⟩
        refine stepV 2 rfl rfl (fun _ _ _ h => h) ?_ ?_
        · intros; go_simp; exact ⟨rfl, rfl⟩
        refine stepV 3 rfl rfl (fun _ _ _ h => h) ?_ ?_
        · rintro p L w1 ⟨hsz, hB, g, a, q, r⟩ hk
          have L20 : L 20 = false := hk.2.2 20 rfl
          rw [L20] at a
          try simp only [cond_true, cond_false] at a
          have hc : w1.cell? ⟨w.heap.size + 1, k, none⟩ = some (.int .i64 (R k)) := by have := a.cellIs (vfn_get _ hkn); rw [preF_at] at this; exact this
          go_simp
          exact ⟨rfl, rfl⟩
        refine stepV 4 rfl rfl (fun _ _ _ h => h) ?_ ?_
        · intros; go_simp; exact ⟨rfl, rfl⟩
        refine stepV 5 rfl rfl (fun _ _ _ h => h) ?_ ?_
        · intros; go_simp; exact ⟨rfl, rfl⟩
        refine stepV 6 rfl rfl (fun _ _ _ h => h) ?_ ?_
        · intros; go_simp; exact ⟨rfl, rfl⟩
        refine stepV 7 rfl rfl (fun _ _ _ h => h) ?_ ?_
        · rintro p L w1 ⟨hsz, hB, g, a, q, r⟩ hk
          have L20 : L 20 = false := hk.2.2 20 rfl
          have hc : w1.cell? ⟨w.heap.size, k, none⟩ = some (.int .i64 (G k)) := g.cellIs (qfn_get _ (by omega))
          go_simp
          exact ⟨rfl, rfl⟩
        refine stepV 8 rfl rfl (fun _ _ _ h => h) ?_ ?_
        · intros; go_simp; exact ⟨rfl, rfl⟩
        refine stepV 9 rfl rfl (fun _ _ _ h => h) ?_ ?_
        · intros; go_simp; exact ⟨rfl, rfl⟩
        refine stepV 10 rfl rfl (fun _ _ _ h => h) ?_ ?_
        · intros; go_simp; exact ⟨rfl, rfl⟩
        refine stepV 11 rfl rfl (fun _ _ _ h => h) ?_ ?_
        · rintro p L w1 ⟨hsz, hB, g, a, q, r⟩ hk
          have L20 : L 20 = false := hk.2.2 20 rfl
          have hc : w1.cell? ⟨w.heap.size + 2, k, none⟩ = some (.int .i64 (Z k)) := q.cellIs (vfn_get _ hkn)
          go_simp
          exact ⟨rfl, rfl⟩
        refine stepV 12 rfl rfl (fun _ _ _ h => h) ?_ ?_
        · intros; go_simp; exact ⟨rfl, rfl⟩
        refine stepV 13 rfl rfl (fun _ _ _ h => h) ?_ ?_
        · intros; go_simp; exact ⟨rfl, rfl⟩
        refine stepV 14 rfl rfl (fun _ _ _ h => h) ?_ ?_
        · rintro p L w1 ⟨hsz, hB, g, a, q, r⟩ hk
          have L20 : L 20 = false := hk.2.2 20 rfl
          first | exact valR_row _ _ rfl _ rfl _ _ g _ Try.underlying62 rfl (by first | kernel_rfl | (rw [qfn_size]; kernel_rfl)) rfl | (have hc := g.cellIs (qfn_get _ (show 3 < 4 by omega)); go_simp; exact ⟨rfl, rfl⟩)
        refine stepV 15 rfl rfl (fun _ _ _ h => h) ?_ ?_
        · intros; go_simp; exact ⟨rfl, rfl⟩
        refine stepV 16 rfl rfl (fun _ _ _ h => h) ?_ ?_
        · intros; go_simp; exact ⟨rfl, rfl⟩
        refine stepV 17 rfl rfl (fun _ _ _ h => h) ?_ ?_
        · rintro p L w1 ⟨hsz, hB, g, a, q, r⟩ hk
          have L20 : L 20 = false := hk.2.2 20 rfl
          first | exact valR_row _ _ rfl _ rfl _ _ g _ Try.underlying62 rfl (by first | kernel_rfl | (rw [qfn_size]; kernel_rfl)) rfl | (have hc := g.cellIs (qfn_get _ (show 3 < 4 by omega)); go_simp; exact ⟨rfl, rfl⟩)
        refine stepD 18 rfl (fun p => rfl) (fun _ _ _ h => h) more ?_ ?_
        · rintro p L w1 ⟨hsz, hB, g, a, q, r⟩ hk
          go_simp
          refine (CL.out _).mono ?_
          rintro e w2 ⟨rfl, h2⟩
          first | exact ⟨rfl, h2⟩ | (subst h2; exact ⟨rfl, Below.refl _ _⟩)
        refine stepV 19 rfl rfl (fun _ _ _ h => h) ?_ ?_
        · intros; go_simp; exact ⟨rfl, rfl⟩
        refine AllI.cons ?_ ?_
        · refine stepI_cell 20 rfl (fun p => rfl) (fun p => rfl) (fun _ => (w.heap.size + 1)) (k) (fun p => .int .i64 (clampV (R k + G k + Z k) (-G 3) (G 3))) (fun p => (vfn (preF (readF G R Z) R k))) (fun p => (vfn (preF (readF G R Z) R (k + 1)))) 39 (fun p => by rw [ev]; exact preF_set _ _ hkn) ?_ ?_ ?_
          · rintro p L w1 ⟨hsz, hB, g, a, q, r⟩ hk
            have L20 : L 20 = false := hk.1
            rw [L20] at a
            try simp only [cond_true, cond_false] at a
            exact a
          · intro p w1 hb
            have fz : w1.frozen? ⟨(w.heap.size + 1), k, none⟩ = false := hb.free _
            have cz : ∃ u, w1.cell? ⟨(w.heap.size + 1), k, none⟩ = some u := ⟨_, hb.cellIs (vfn_get _ hkn)⟩
            obtain ⟨u, cz⟩ := cz
            go_simp
            try exact ⟨_, rfl, by first | exact .inl rfl | exact .inr rfl⟩
          · rintro p L w1 ⟨hsz, hB, g, a, q, r⟩ hk
            have L20 : L 20 = false := hk.1
            refine ⟨(by simpa using hsz), Below.setRow hB (by first | exact Nat.le_trans hW0 hp.1 | exact ge_a | omega | (have := hB.size; simp at this ⊢; omega)) _, g.rowOther (by first | exact ne_g_a | exact Ne.symm ne_a_g | omega) _, ?_, q.rowOther (by first | exact ne_q_a | exact Ne.symm ne_a_q | omega) _, r.rowOther (by first | exact ne_r_a | exact Ne.symm ne_a_r | omega) _⟩
            rw [show upL L 20 20 = true from rfl]
            exact a.row _
        exact AllI.nil
      case hV0 => exact fun p q => AllI.nil
      case he =>
      clear hB g a q r
      rintro p wrr ⟨hsz, hB, g, a, q, r⟩
      replace a : blk wrr (w.heap.size + 1) (vfn (preF (readF G R Z) R (k + 1))) 39 := a
      clear lt_g
      clear lt_a
      clear lt_q
      clear lt_r
      clear hsz hW0
      go_wp2_with (fail)
      go_roundg (3 - (k + 1))
      case rel =>
        exact ⟨k + 1, by omega, rfl, g, a, q, r, hB⟩
      case measure => omega
    · obtain rfl : k = 3 := by omega
      rw [preF_all] at a
      go_wp2_with (first
        | (refine wpList_load_rowG ?hw _ _ rfl _ rfl _ _ _ _ a Try.underlying39 rfl ?hi ?_; (case hw => (first | rfl | (simp [Region.wanted, yielded]; done))); (case hi => (first | kernel_rfl | (rw [vfn_size]; kernel_rfl))))
        | (refine wpList_store_row rfl _ _ _ rfl _ rfl _ rfl _ _ r (by first | kernel_rfl | (rw [vfn_size]; kernel_rfl)) (by first | rfl | simp only [vfn_size]) (by first | exact vfn_one _ | rfl) ?_))
      refine bodyPost_ret (results_vec rfl _ _ _ _ _ _ _ rfl (r.row (vfn (readF G R Z))) Try.underlying39 rfl (by first | kernel_rfl | (rw [vfn_size]; kernel_rfl))) rfl ?_
      refine ⟨?_, Below.setRow hB (by omega) _⟩
      rfl
set_option maxRecDepth 100000 in
set_option maxHeartbeats 2000000 in
theorem rnewG_no1 (B : Nat → Int) (m : Int) (w : World) (h1 : smallB B 16777216 = false) : Calls Try.prog 31 #[.agg (vfn B), .int .i64 m] w fun e w' => e = .returned (.tuple #[.agg (qfn fun _ => 0), .int .i64 2]) ∧ Below w.heap.size w w' := by
  have WB := Lib.hid (fun w => rgwithin_any B 16777216 w (by omega) (by omega))
  rw [h1] at WB
  go_enter Try.func31, Try.ntmps31
  go_upto_region 1 with (fail)
  simp only [zero_quat]
  have a : blk ((w.alloc (.cells (vfn B) 39)).alloc (.cells (qfn fun _ => 0) 62)) w.heap.size (vfn B) 39 := (blk.new _ _ _).alloc _
  have r : blk ((w.alloc (.cells (vfn B) 39)).alloc (.cells (qfn fun _ => 0) 62)) (w.heap.size + 1) (qfn fun _ => 0) 62 := blk.new' (by simp)
  have hB : Below w.heap.size w ((w.alloc (.cells (vfn B) 39)).alloc (.cells (qfn fun _ => 0) 62)) := by go_grown
  generalize ((w.alloc (.cells (vfn B) 39)).alloc (.cells (qfn fun _ => 0) 62)) = w0 at *
  go_upto_region 2 with (first
    | (refine wpList_load_rowG ?hw _ _ rfl _ rfl _ _ _ _ a Try.underlying39 rfl ?hi ?_; (case hw => (first | rfl | (simp [Region.wanted, yielded]; done))); (case hi => (first | kernel_rfl | (rw [vfn_size]; kernel_rfl))))
    | (go_at_call 77; with_reducible refine (WB.out _).mono ?_; rintro e w1 ⟨rfl, hb⟩; replace hB := hB.trans (hb.mono hB.size); replace a := a.below hb a.lt; replace r := r.below hb r.lt; clear hb))
  have lt_a := a.lt
  have lt_r := r.lt
  have hW0 : w.heap.size ≤ w1.heap.size := by have := hB.size; first | exact this | simpa using this
  apply wp_region_Q 3 [0, 1, 3] [] [_, (fun _ => undef), _] (fun p L w' => w1.heap.size ≤ w'.heap.size ∧ Below w.heap.size w w' ∧ blk w' w.heap.size (vfn B) 39 ∧ blk w' (w.heap.size + 1) (bif L 1 then (qfn (fun _ => 0)) else (qfn fun _ => 0)) 62) _ [(0, 17), (2, 5)] [0, 1, 2]
  case hn => rfl
  case hB => kernel_rfl
  case hds => kernel_rfl
  case hA => (intro p; simp only [putsD, Act.put, List.setIfInBounds_toArray, List.set_cons_zero, List.set_cons_succ, List.getD_cons_zero, List.getD_cons_succ]; exact rfl)
  case h0 => exact fun p => ⟨Nat.le_refl _, hB, a, r⟩
  case hmore => exact fun p L w1 w2 ⟨hsz, hB, a, r⟩ hm => ⟨Nat.le_trans hsz hm.size, hB.trans (hm.mono (Nat.le_trans hW0 hsz)), a.below hm a.lt, r.below hm r.lt⟩
  case hs =>
    intro more
    refine stepV 0 rfl rfl (fun _ _ _ h => h) ?_ ?_
    · intros; (try simp only [vfn, qfn]); go_simp; exact ⟨rfl, rfl⟩
    refine AllI.cons ?_ ?_
    · refine stepI_store 1 rfl (fun p => rfl) (fun p => rfl) _ _ _ rfl (fun _ => (w.heap.size + 1)) 0 (fun p => rfl) (fun p => (qfn (fun _ => 0))) (fun p => congrArg Value.agg zero_quat) (fun p => (qfn fun _ => 0)) (fun p => (qfn (fun _ => 0))) 62 (fun p => over_qq _ _) (fun p => by first | (rw [qfn_size, qfn_size]; decide) | simp [qfn_size, qfn_size]) (fun p => by rw [qfn_size]; kernel_rfl) (fun p => qfn_one _) ?_ ?_
      · rintro p L w1 ⟨hsz, hB, a, r⟩ hk
        have L1 : L 1 = false := hk.1
        rw [L1] at r
        try simp only [cond_true, cond_false] at r
        exact r
      · rintro p L w1 ⟨hsz, hB, a, r⟩ hk
        have L1 : L 1 = false := hk.1
        skip
        refine ⟨(by simpa using hsz), Below.setRow hB (by first | exact Nat.le_trans hW0 hp.1 | exact ge_r | omega | (have := hB.size; simp at this ⊢; omega)) _, a.rowOther (by first | exact ne_a_r | exact Ne.symm ne_r_a | omega) _, ?_⟩
        rw [show upL L 1 1 = true from rfl]
        exact r.row _
    refine stepV 2 rfl rfl (fun _ _ _ h => h) ?_ ?_
    · intros; go_simp; exact ⟨rfl, rfl⟩
    exact AllI.nil
  case hV0 => exact fun p q => AllI.nil
  case he =>
  clear hB a r
  rintro p w1r ⟨hsz, hB, a, r⟩
  replace r : blk w1r (w.heap.size + 1) (qfn (fun _ => 0)) 62 := r
  clear lt_a
  clear lt_r
  clear hsz hW0
  go_wp2_with (fail)
  refine bodyPost_ret (results_vec rfl _ _ _ _ _ _ _ rfl r Try.underlying62 rfl (by first | kernel_rfl | (rw [qfn_size]; kernel_rfl))) rfl ?_
  refine ⟨?_, hB⟩
  rfl
set_option maxRecDepth 100000 in
set_option maxHeartbeats 2000000 in
theorem rnewG_no2 (B : Nat → Int) (m : Int) (w : World) (h1 : smallB B 16777216 = true) (h2 : decide (m < 1) = true) : Calls Try.prog 31 #[.agg (vfn B), .int .i64 m] w fun e w' => e = .returned (.tuple #[.agg (qfn fun _ => 0), .int .i64 2]) ∧ Below w.heap.size w w' := by
  have WB := Lib.hid (fun w => rgwithin_any B 16777216 w (by omega) (by omega))
  rw [h1] at WB
  go_enter Try.func31, Try.ntmps31
  go_upto_region 1 with (fail)
  simp only [zero_quat]
  have a : blk ((w.alloc (.cells (vfn B) 39)).alloc (.cells (qfn fun _ => 0) 62)) w.heap.size (vfn B) 39 := (blk.new _ _ _).alloc _
  have r : blk ((w.alloc (.cells (vfn B) 39)).alloc (.cells (qfn fun _ => 0) 62)) (w.heap.size + 1) (qfn fun _ => 0) 62 := blk.new' (by simp)
  have hB : Below w.heap.size w ((w.alloc (.cells (vfn B) 39)).alloc (.cells (qfn fun _ => 0) 62)) := by go_grown
  generalize ((w.alloc (.cells (vfn B) 39)).alloc (.cells (qfn fun _ => 0) 62)) = w0 at *
  go_upto_region 2 with (first
    | (refine wpList_load_rowG ?hw _ _ rfl _ rfl _ _ _ _ a Try.underlying39 rfl ?hi ?_; (case hw => (first | rfl | (simp [Region.wanted, yielded]; done))); (case hi => (first | kernel_rfl | (rw [vfn_size]; kernel_rfl))))
    | (go_at_call 77; with_reducible refine (WB.out _).mono ?_; rintro e w1 ⟨rfl, hb⟩; replace hB := hB.trans (hb.mono hB.size); replace a := a.below hb a.lt; replace r := r.below hb r.lt; clear hb))
  have lt_a := a.lt
  have lt_r := r.lt
  have hW0 : w.heap.size ≤ w1.heap.size := by have := hB.size; first | exact this | simpa using this
  apply wp_region_Q 3 [0, 1, 3] [] [_, (fun _ => undef), _] (fun p L w' => w1.heap.size ≤ w'.heap.size ∧ Below w.heap.size w w' ∧ blk w' w.heap.size (vfn B) 39 ∧ blk w' (w.heap.size + 1) (bif L 1 then (qfn (fun _ => 0)) else (qfn fun _ => 0)) 62) _ [(0, 17), (2, 5)] [0, 1, 2]
  case hn => rfl
  case hB => kernel_rfl
  case hds => kernel_rfl
  case hA => (intro p; simp only [putsD, Act.put, List.setIfInBounds_toArray, List.set_cons_zero, List.set_cons_succ, List.getD_cons_zero, List.getD_cons_succ]; exact rfl)
  case h0 => exact fun p => ⟨Nat.le_refl _, hB, a, r⟩
  case hmore => exact fun p L w1 w2 ⟨hsz, hB, a, r⟩ hm => ⟨Nat.le_trans hsz hm.size, hB.trans (hm.mono (Nat.le_trans hW0 hsz)), a.below hm a.lt, r.below hm r.lt⟩
  case hs =>
    intro more
    refine stepV 0 rfl rfl (fun _ _ _ h => h) ?_ ?_
    · intros; (try simp only [vfn, qfn]); go_simp; exact ⟨rfl, rfl⟩
    refine AllI.cons ?_ ?_
    · refine stepI_store 1 rfl (fun p => rfl) (fun p => rfl) _ _ _ rfl (fun _ => (w.heap.size + 1)) 0 (fun p => rfl) (fun p => (qfn (fun _ => 0))) (fun p => congrArg Value.agg zero_quat) (fun p => (qfn fun _ => 0)) (fun p => (qfn (fun _ => 0))) 62 (fun p => over_qq _ _) (fun p => by first | (rw [qfn_size, qfn_size]; decide) | simp [qfn_size, qfn_size]) (fun p => by rw [qfn_size]; kernel_rfl) (fun p => qfn_one _) ?_ ?_
      · rintro p L w1 ⟨hsz, hB, a, r⟩ hk
        have L1 : L 1 = false := hk.1
        rw [L1] at r
        try simp only [cond_true, cond_false] at r
        exact r
      · rintro p L w1 ⟨hsz, hB, a, r⟩ hk
        have L1 : L 1 = false := hk.1
        skip
        refine ⟨(by simpa using hsz), Below.setRow hB (by first | exact Nat.le_trans hW0 hp.1 | exact ge_r | omega | (have := hB.size; simp at this ⊢; omega)) _, a.rowOther (by first | exact ne_a_r | exact Ne.symm ne_r_a | omega) _, ?_⟩
        rw [show upL L 1 1 = true from rfl]
        exact r.row _
    refine stepV 2 rfl rfl (fun _ _ _ h => h) ?_ ?_
    · intros; go_simp; exact ⟨rfl, rfl⟩
    exact AllI.nil
  case hV0 => exact fun p q => AllI.nil
  case he =>
  clear hB a r
  rintro p w1r ⟨hsz, hB, a, r⟩
  replace r : blk w1r (w.heap.size + 1) (qfn (fun _ => 0)) 62 := r
  clear lt_a
  clear lt_r
  clear hsz hW0
  go_wp2_with (fail)
  refine bodyPost_ret (results_vec rfl _ _ _ _ _ _ _ rfl r Try.underlying62 rfl (by first | kernel_rfl | (rw [qfn_size]; kernel_rfl))) rfl ?_
  refine ⟨?_, hB⟩
  rfl
set_option maxRecDepth 100000 in
set_option maxHeartbeats 2000000 in
theorem rnewG_no3 (B : Nat → Int) (m : Int) (w : World) (h1 : smallB B 16777216 = true) (h2 : decide (m < 1) = false) (h3 : decide (1099511627776 < m) = true) : Calls Try.prog 31 #[.agg (vfn B), .int .i64 m] w fun e w' => e = .returned (.tuple #[.agg (qfn fun _ => 0), .int .i64 2]) ∧ Below w.heap.size w w' := by
  have WB := Lib.hid (fun w => rgwithin_any B 16777216 w (by omega) (by omega))
  rw [h1] at WB
  go_enter Try.func31, Try.ntmps31
  go_upto_region 1 with (fail)
  simp only [zero_quat]
  have a : blk ((w.alloc (.cells (vfn B) 39)).alloc (.cells (qfn fun _ => 0) 62)) w.heap.size (vfn B) 39 := (blk.new _ _ _).alloc _
  have r : blk ((w.alloc (.cells (vfn B) 39)).alloc (.cells (qfn fun _ => 0) 62)) (w.heap.size + 1) (qfn fun _ => 0) 62 := blk.new' (by simp)
  have hB : Below w.heap.size w ((w.alloc (.cells (vfn B) 39)).alloc (.cells (qfn fun _ => 0) 62)) := by go_grown
  generalize ((w.alloc (.cells (vfn B) 39)).alloc (.cells (qfn fun _ => 0) 62)) = w0 at *
  go_upto_region 2 with (first
    | (refine wpList_load_rowG ?hw _ _ rfl _ rfl _ _ _ _ a Try.underlying39 rfl ?hi ?_; (case hw => (first | rfl | (simp [Region.wanted, yielded]; done))); (case hi => (first | kernel_rfl | (rw [vfn_size]; kernel_rfl))))
    | (go_at_call 77; with_reducible refine (WB.out _).mono ?_; rintro e w1 ⟨rfl, hb⟩; replace hB := hB.trans (hb.mono hB.size); replace a := a.below hb a.lt; replace r := r.below hb r.lt; clear hb))
  have lt_a := a.lt
  have lt_r := r.lt
  have hW0 : w.heap.size ≤ w1.heap.size := by have := hB.size; first | exact this | simpa using this
  apply wp_region_Q 3 [0, 1, 3] [] [_, (fun _ => undef), _] (fun p L w' => w1.heap.size ≤ w'.heap.size ∧ Below w.heap.size w w' ∧ blk w' w.heap.size (vfn B) 39 ∧ blk w' (w.heap.size + 1) (bif L 1 then (qfn (fun _ => 0)) else (qfn fun _ => 0)) 62) _ [(0, 17), (2, 5)] [0, 1, 2]
  case hn => rfl
  case hB => kernel_rfl
  case hds => kernel_rfl
  case hA => (intro p; simp only [putsD, Act.put, List.setIfInBounds_toArray, List.set_cons_zero, List.set_cons_succ, List.getD_cons_zero, List.getD_cons_succ]; exact rfl)
  case h0 => exact fun p => ⟨Nat.le_refl _, hB, a, r⟩
  case hmore => exact fun p L w1 w2 ⟨hsz, hB, a, r⟩ hm => ⟨Nat.le_trans hsz hm.size, hB.trans (hm.mono (Nat.le_trans hW0 hsz)), a.below hm a.lt, r.below hm r.lt⟩
  case hs =>
    intro more
    refine stepV 0 rfl rfl (fun _ _ _ h => h) ?_ ?_
    · intros; (try simp only [vfn, qfn]); go_simp; exact ⟨rfl, rfl⟩
    refine AllI.cons ?_ ?_
    · refine stepI_store 1 rfl (fun p => rfl) (fun p => rfl) _ _ _ rfl (fun _ => (w.heap.size + 1)) 0 (fun p => rfl) (fun p => (qfn (fun _ => 0))) (fun p => congrArg Value.agg zero_quat) (fun p => (qfn fun _ => 0)) (fun p => (qfn (fun _ => 0))) 62 (fun p => over_qq _ _) (fun p => by first | (rw [qfn_size, qfn_size]; decide) | simp [qfn_size, qfn_size]) (fun p => by rw [qfn_size]; kernel_rfl) (fun p => qfn_one _) ?_ ?_
      · rintro p L w1 ⟨hsz, hB, a, r⟩ hk
        have L1 : L 1 = false := hk.1
        rw [L1] at r
        try simp only [cond_true, cond_false] at r
        exact r
      · rintro p L w1 ⟨hsz, hB, a, r⟩ hk
        have L1 : L 1 = false := hk.1
        skip
        refine ⟨(by simpa using hsz), Below.setRow hB (by first | exact Nat.le_trans hW0 hp.1 | exact ge_r | omega | (have := hB.size; simp at this ⊢; omega)) _, a.rowOther (by first | exact ne_a_r | exact Ne.symm ne_r_a | omega) _, ?_⟩
        rw [show upL L 1 1 = true from rfl]
        exact r.row _
    refine stepV 2 rfl rfl (fun _ _ _ h => h) ?_ ?_
    · intros; go_simp; exact ⟨rfl, rfl⟩
    exact AllI.nil
  case hV0 => exact fun p q => AllI.nil
  case he =>
  clear hB a r
  rintro p w1r ⟨hsz, hB, a, r⟩
  replace r : blk w1r (w.heap.size + 1) (qfn (fun _ => 0)) 62 := r
  clear lt_a
  clear lt_r
  clear hsz hW0
  go_wp2_with (fail)
  refine bodyPost_ret (results_vec rfl _ _ _ _ _ _ _ rfl r Try.underlying62 rfl (by first | kernel_rfl | (rw [qfn_size]; kernel_rfl))) rfl ?_
  refine ⟨?_, hB⟩
  rfl
set_option maxRecDepth 100000 in
set_option maxHeartbeats 2000000 in
theorem rnewG_ok (B : Nat → Int) (m : Int) (w : World) (h1 : smallB B 16777216 = true) (h2 : decide (m < 1) = false) (h3 : decide (1099511627776 < m) = false) : Calls Try.prog 31 #[.agg (vfn B), .int .i64 m] w fun e w' => e = .returned (.tuple #[.agg (qfn (gyS B m)), .int .i64 0]) ∧ Below w.heap.size w w' := by
  have WB := Lib.hid (fun w => rgwithin_any B 16777216 w (by omega) (by omega))
  rw [h1] at WB
  go_enter Try.func31, Try.ntmps31
  go_upto_region 1 with (fail)
  simp only [zero_quat]
  have a : blk ((w.alloc (.cells (vfn B) 39)).alloc (.cells (qfn fun _ => 0) 62)) w.heap.size (vfn B) 39 := (blk.new _ _ _).alloc _
  have r : blk ((w.alloc (.cells (vfn B) 39)).alloc (.cells (qfn fun _ => 0) 62)) (w.heap.size + 1) (qfn fun _ => 0) 62 := blk.new' (by simp)
  have hB : Below w.heap.size w ((w.alloc (.cells (vfn B) 39)).alloc (.cells (qfn fun _ => 0) 62)) := by go_grown
  generalize ((w.alloc (.cells (vfn B) 39)).alloc (.cells (qfn fun _ => 0) 62)) = w0 at *
  go_upto_region 3 with (first
    | (refine wpList_load_rowG ?hw _ _ rfl _ rfl _ _ _ _ a Try.underlying39 rfl ?hi ?_; (case hw => (first | rfl | (simp [Region.wanted, yielded]; done))); (case hi => (first | kernel_rfl | (rw [vfn_size]; kernel_rfl))))
    | (go_at_call 77; with_reducible refine (WB.out _).mono ?_; rintro e w1 ⟨rfl, hb⟩; replace hB := hB.trans (hb.mono hB.size); replace a := a.below hb a.lt; replace r := r.below hb r.lt; clear hb))
  have lt_a := a.lt
  have lt_r := r.lt
  have hW0 : w.heap.size ≤ w1.heap.size := by have := hB.size; first | exact this | simpa using this
  apply wp_region_Q 5 [0, 1, 3, 7, 15] [] [_, _, _, (fun _ => undef), _] (fun p L w' => w1.heap.size ≤ w'.heap.size ∧ Below w.heap.size w w' ∧ blk w' w.heap.size (vfn B) 39 ∧ blk w' (w.heap.size + 1) (bif L 3 then (qfn (gyS B m)) else (qfn fun _ => 0)) 62) _ [(0, 18), (1, 19), (2, 20), (4, 5)] [0, 1, 2, 3, 4]
  case hn => rfl
  case hB => kernel_rfl
  case hds => kernel_rfl
  case hA => (intro p; simp only [putsD, Act.put, List.setIfInBounds_toArray, List.set_cons_zero, List.set_cons_succ, List.getD_cons_zero, List.getD_cons_succ]; exact rfl)
  case h0 => exact fun p => ⟨Nat.le_refl _, hB, a, r⟩
  case hmore => exact fun p L w1 w2 ⟨hsz, hB, a, r⟩ hm => ⟨Nat.le_trans hsz hm.size, hB.trans (hm.mono (Nat.le_trans hW0 hsz)), a.below hm a.lt, r.below hm r.lt⟩
  case hs =>
    intro more
    refine stepV 0 rfl rfl (fun _ _ _ h => h) ?_ ?_
    · rintro p L w1 ⟨hsz, hB, a, r⟩ hk
      have L3 : L 3 = false := hk.2.2 3 rfl
      first | exact valR_row _ _ rfl _ rfl _ _ a _ Try.underlying39 rfl (by first | kernel_rfl | (rw [vfn_size]; kernel_rfl)) rfl | (have hc := a.cellIs (vfn_get _ (show 0 < 3 by omega)); go_simp; exact ⟨rfl, rfl⟩)
    refine stepV 1 rfl rfl (fun _ _ _ h => h) ?_ ?_
    · intros; go_simp; exact ⟨rfl, rfl⟩
    refine stepV 2 rfl rfl (fun _ _ _ h => h) ?_ ?_
    · intros; (try simp only [vfn, qfn]); go_simp; exact ⟨rfl, rfl⟩
    refine AllI.cons ?_ ?_
    · refine stepI_store 3 rfl (fun p => rfl) (fun p => rfl) _ _ _ rfl (fun _ => (w.heap.size + 1)) 0 (fun p => rfl) (fun p => (qfn (gyS B m))) (fun p => congrArg Value.agg (gyS_cells B m)) (fun p => (qfn fun _ => 0)) (fun p => (qfn (gyS B m))) 62 (fun p => over_qq _ _) (fun p => by first | (rw [qfn_size, qfn_size]; decide) | simp [qfn_size, qfn_size]) (fun p => by rw [qfn_size]; kernel_rfl) (fun p => qfn_one _) ?_ ?_
      · rintro p L w1 ⟨hsz, hB, a, r⟩ hk
        have L3 : L 3 = false := hk.1
        rw [L3] at r
        try simp only [cond_true, cond_false] at r
        exact r
      · rintro p L w1 ⟨hsz, hB, a, r⟩ hk
        have L3 : L 3 = false := hk.1
        skip
        refine ⟨(by simpa using hsz), Below.setRow hB (by first | exact Nat.le_trans hW0 hp.1 | exact ge_r | omega | (have := hB.size; simp at this ⊢; omega)) _, a.rowOther (by first | exact ne_a_r | exact Ne.symm ne_r_a | omega) _, ?_⟩
        rw [show upL L 3 3 = true from rfl]
        exact r.row _
    refine stepV 4 rfl rfl (fun _ _ _ h => h) ?_ ?_
    · intros; go_simp; exact ⟨rfl, rfl⟩
    exact AllI.nil
  case hV0 => exact fun p q => AllI.nil
  case he =>
  clear hB a r
  rintro p w1r ⟨hsz, hB, a, r⟩
  replace r : blk w1r (w.heap.size + 1) (qfn (gyS B m)) 62 := r
  clear lt_a
  clear lt_r
  clear hsz hW0
  go_wp2_with (fail)
  refine bodyPost_ret (results_vec rfl _ _ _ _ _ _ _ rfl r Try.underlying62 rfl (by first | kernel_rfl | (rw [qfn_size]; kernel_rfl))) rfl ?_
  refine ⟨?_, hB⟩
  rfl
set_option maxRecDepth 100000 in
set_option maxHeartbeats 2000000 in
theorem rgdrift_no (G R : Nat → Int) (w : World) (hR : okV R = false) : Calls Try.prog 33 #[.agg (qfn G), .agg (vfn R)] w fun e w' => e = .returned (.tuple #[.agg (qfn G), .int .i64 2]) ∧ Below w.heap.size w w' := by
  have VR := Lib.hid (fun w => rvalid_any R w)
  rw [hR] at VR
  go_enter Try.func33, Try.ntmps33
  go_upto_region 1 with (fail)
  simp only [zero_quat]
  have g : blk (((w.alloc (.cells (qfn G) 62)).alloc (.cells (vfn R) 39)).alloc (.cells (qfn fun _ => 0) 62)) w.heap.size (qfn G) 62 := ((blk.new _ _ _).alloc _).alloc _
  have a : blk (((w.alloc (.cells (qfn G) 62)).alloc (.cells (vfn R) 39)).alloc (.cells (qfn fun _ => 0) 62)) (w.heap.size + 1) (vfn R) 39 := (blk.new' (by simp)).alloc _
  have r : blk (((w.alloc (.cells (qfn G) 62)).alloc (.cells (vfn R) 39)).alloc (.cells (qfn fun _ => 0) 62)) (w.heap.size + 2) (qfn fun _ => 0) 62 := blk.new' (by simp)
  have hB : Below w.heap.size w (((w.alloc (.cells (qfn G) 62)).alloc (.cells (vfn R) 39)).alloc (.cells (qfn fun _ => 0) 62)) := by go_grown
  generalize (((w.alloc (.cells (qfn G) 62)).alloc (.cells (vfn R) 39)).alloc (.cells (qfn fun _ => 0) 62)) = w0 at *
  go_upto_region 2 with (first
    | (refine wpList_load_rowG ?hw _ _ rfl _ rfl _ _ _ _ a Try.underlying39 rfl ?hi ?_; (case hw => (first | rfl | (simp [Region.wanted, yielded]; done))); (case hi => (first | kernel_rfl | (rw [vfn_size]; kernel_rfl))))
    | (go_at_call 81; with_reducible refine (VR.out _).mono ?_; rintro e w1 ⟨rfl, hb⟩; replace hB := hB.trans (hb.mono hB.size); replace g := g.below hb g.lt; replace a := a.below hb a.lt; replace r := r.below hb r.lt; clear hb))
  have lt_g := g.lt
  have lt_a := a.lt
  have lt_r := r.lt
  have hW0 : w.heap.size ≤ w1.heap.size := by have := hB.size; first | exact this | simpa using this
  apply wp_region_Q 3 [0, 1, 3] [] [_, (fun _ => undef), _] (fun p L w' => w1.heap.size ≤ w'.heap.size ∧ Below w.heap.size w w' ∧ blk w' w.heap.size (qfn G) 62 ∧ blk w' (w.heap.size + 1) (vfn R) 39 ∧ blk w' (w.heap.size + 2) (bif L 1 then (qfn G) else (qfn fun _ => 0)) 62) _ [(0, 10), (2, 5)] [0, 1, 2]
  case hn => rfl
  case hB => kernel_rfl
  case hds => kernel_rfl
  case hA => (intro p; simp only [putsD, Act.put, List.setIfInBounds_toArray, List.set_cons_zero, List.set_cons_succ, List.getD_cons_zero, List.getD_cons_succ]; exact rfl)
  case h0 => exact fun p => ⟨Nat.le_refl _, hB, g, a, r⟩
  case hmore => exact fun p L w1 w2 ⟨hsz, hB, g, a, r⟩ hm => ⟨Nat.le_trans hsz hm.size, hB.trans (hm.mono (Nat.le_trans hW0 hsz)), g.below hm g.lt, a.below hm a.lt, r.below hm r.lt⟩
  case hs =>
    intro more
    refine stepV 0 rfl rfl (fun _ _ _ h => h) ?_ ?_
    · rintro p L w1 ⟨hsz, hB, g, a, r⟩ hk
      have L1 : L 1 = false := hk.2.2 1 rfl
      first | exact valR_row _ _ rfl _ rfl _ _ g _ Try.underlying62 rfl (by first | kernel_rfl | (rw [qfn_size]; kernel_rfl)) rfl | (have hc := g.cellIs (qfn_get _ (show 0 < 4 by omega)); go_simp; exact ⟨rfl, rfl⟩)
    refine AllI.cons ?_ ?_
    · refine stepI_store 1 rfl (fun p => rfl) (fun p => rfl) _ _ _ rfl (fun _ => (w.heap.size + 2)) 0 (fun p => rfl) (fun p => (qfn G)) (fun p => rfl) (fun p => (qfn fun _ => 0)) (fun p => (qfn G)) 62 (fun p => over_qq _ _) (fun p => by first | (rw [qfn_size, qfn_size]; decide) | simp [qfn_size, qfn_size]) (fun p => by rw [qfn_size]; kernel_rfl) (fun p => qfn_one _) ?_ ?_
      · rintro p L w1 ⟨hsz, hB, g, a, r⟩ hk
        have L1 : L 1 = false := hk.1
        rw [L1] at r
        try simp only [cond_true, cond_false] at r
        exact r
      · rintro p L w1 ⟨hsz, hB, g, a, r⟩ hk
        have L1 : L 1 = false := hk.1
        skip
        refine ⟨(by simpa using hsz), Below.setRow hB (by first | exact Nat.le_trans hW0 hp.1 | exact ge_r | omega | (have := hB.size; simp at this ⊢; omega)) _, g.rowOther (by first | exact ne_g_r | exact Ne.symm ne_r_g | omega) _, a.rowOther (by first | exact ne_a_r | exact Ne.symm ne_r_a | omega) _, ?_⟩
        rw [show upL L 1 1 = true from rfl]
        exact r.row _
    refine stepV 2 rfl rfl (fun _ _ _ h => h) ?_ ?_
    · intros; go_simp; exact ⟨rfl, rfl⟩
    exact AllI.nil
  case hV0 => exact fun p q => AllI.nil
  case he =>
  clear hB g a r
  rintro p w1r ⟨hsz, hB, g, a, r⟩
  replace r : blk w1r (w.heap.size + 2) (qfn G) 62 := r
  clear lt_g
  clear lt_a
  clear lt_r
  clear hsz hW0
  go_wp2_with (fail)
  refine bodyPost_ret (results_vec rfl _ _ _ _ _ _ _ rfl r Try.underlying62 rfl (by first | kernel_rfl | (rw [qfn_size]; kernel_rfl))) rfl ?_
  refine ⟨?_, hB⟩
  rfl
set_option maxRecDepth 100000 in
set_option maxHeartbeats 4000000 in
theorem rgdrift_ok (G R : Nat → Int) (w : World) (hG : ∀ i, i < 3 → -16777216 ≤ G i ∧ G i ≤ 16777216) (hR : okV R = true) : Calls Try.prog 33 #[.agg (qfn G), .agg (vfn R)] w fun e w' => e = .returned (.tuple #[.agg (qfn (drF G R)), .int .i64 0]) ∧ Below w.heap.size w w' := by
  have VR := Lib.hid (fun w => rvalid_any R w)
  have HG := Lib.hid hG
  have HR := Lib.hid (ok_bd hR)
  rw [hR] at VR
  clear hR hG
  go_enter Try.func33, Try.ntmps33
  go_upto_region 1 with (fail)
  simp only [zero_quat]
  have g : blk (((w.alloc (.cells (qfn G) 62)).alloc (.cells (vfn R) 39)).alloc (.cells (qfn fun _ => 0) 62)) w.heap.size (qfn G) 62 := ((blk.new _ _ _).alloc _).alloc _
  have a : blk (((w.alloc (.cells (qfn G) 62)).alloc (.cells (vfn R) 39)).alloc (.cells (qfn fun _ => 0) 62)) (w.heap.size + 1) (vfn R) 39 := (blk.new' (by simp)).alloc _
  have r : blk (((w.alloc (.cells (qfn G) 62)).alloc (.cells (vfn R) 39)).alloc (.cells (qfn fun _ => 0) 62)) (w.heap.size + 2) (qfn fun _ => 0) 62 := blk.new' (by simp)
  have hB : Below w.heap.size w (((w.alloc (.cells (qfn G) 62)).alloc (.cells (vfn R) 39)).alloc (.cells (qfn fun _ => 0) 62)) := by go_grown
  generalize (((w.alloc (.cells (qfn G) 62)).alloc (.cells (vfn R) 39)).alloc (.cells (qfn fun _ => 0) 62)) = w0 at *
  go_upto_region 3 with (first
    | (refine wpList_load_rowG ?hw _ _ rfl _ rfl _ _ _ _ a Try.underlying39 rfl ?hi ?_; (case hw => (first | rfl | (simp [Region.wanted, yielded]; done))); (case hi => (first | kernel_rfl | (rw [vfn_size]; kernel_rfl))))
    | (go_at_call 81; with_reducible refine (VR.out _).mono ?_; rintro e w1 ⟨rfl, hb⟩; replace hB := hB.trans (hb.mono hB.size); replace g := g.below hb g.lt; replace a := a.below hb a.lt; replace r := r.below hb r.lt; clear hb))
  rw [show qfn G = qfn (preG (drF G R) G 0) from by rw [preG_zero]] at g
  go_wp2_with (fail)
  go_loopg [6] 3 (fun g_ iv wr => ∃ k : Nat, g_ + k = 3 ∧ iv = .int .i64 k ∧ blk wr w.heap.size (qfn (preG (drF G R) G k)) 62 ∧ blk wr (w.heap.size + 1) (vfn R) 39 ∧ blk wr (w.heap.size + 2) (qfn fun _ => 0) 62 ∧ Below w.heap.size w wr)
  case atStart => exact ⟨0, rfl, rfl, g, a, r, hB⟩
  case round =>
    clear g a r hB
    obtain ⟨k, hk, rfl, g, a, r, hB⟩ := hrel
    by_cases hkn : k < 3
    · have hdk : decide ((k : Int) < 3) = true := decide_eq_true (by omega)
      have hdk' : decide (k < 3) = true := decide_eq_true (by omega)
      have hk3 : (k : Int) < 3 := by omega
      have hw3 : IntKind.i64.wrap ((k : Int) + 1) = ((k + 1 : Nat) : Int) := by rw [IntKind.wrap_i64]; omega
      have H0 := HG.out k hkn
      have H1 := HR.out k hkn
      have e1 : IntKind.i64.wrap (G k + R k) = G k + R k := by rw [IntKind.wrap_i64]; omega
      have CL := Lib.hid (fun w => rclamp_any (G k + R k) (-16777216) 16777216 w)
      clear H0 H1
      have ev : clampV (G k + R k) (-16777216) 16777216 = drF G R k := (drF_at G R hkn).symm
      go_upto_region 6 with (fail)
      have lt_g := g.lt
      have lt_a := a.lt
      have lt_r := r.lt
      have hW0 : w.heap.size ≤ wr.heap.size := by have := hB.size; first | exact this | simpa using this
      apply wp_region_I 13 [0, 0, 0, 6, 14, 0, 32, 96, 254, 510, 0, 2047, 4095] [] [_, _, _, _, _, _, _, _, _, _, _, _, (fun _ => undef)] (fun p L w' => wr.heap.size ≤ w'.heap.size ∧ Below w.heap.size w w' ∧ blk w' w.heap.size (bif L 12 then (qfn (preG (drF G R) G (k + 1))) else (qfn (preG (drF G R) G k))) 62 ∧ blk w' (w.heap.size + 1) (vfn R) 39 ∧ blk w' (w.heap.size + 2) (qfn fun _ => 0) 62) _ [(0, 15), (1, 16), (2, 17), (3, 18), (4, 19), (5, 20), (6, 21), (7, 22), (8, 23), (9, 24), (10, 25), (11, 26)] [0, 1, 2, 3, 4, 5, 6, 7, 8, 9, 10, 11, 12]
      case hn => rfl
      case hm => kernel_rfl
      case hB => kernel_rfl
      case hds => kernel_rfl
      case hA => (intro p; simp only [putsD, Act.put, List.setIfInBounds_toArray, List.set_cons_zero, List.set_cons_succ, List.getD_cons_zero, List.getD_cons_succ]; exact rfl)
      case h0 => exact fun p => ⟨Nat.le_refl _, hB.drew, g.drew, a.drew, r.drew⟩
      case hmore => exact fun p L w1 w2 ⟨hsz, hB, g, a, r⟩ hm => ⟨Nat.le_trans hsz hm.size, hB.trans (hm.mono (Nat.le_trans hW0 hsz)), g.below hm g.lt, a.below hm a.lt, r.below hm r.lt⟩
      case hs =>
        intro more
        refine stepV 0 rfl rfl (fun _ _ _ h => h) ?_ ?_
        · intros; go_simp; exact ⟨rfl, rfl⟩
        refine stepV 1 rfl rfl (fun _ _ _ h => h) ?_ ?_
        · intros; go_simp; exact ⟨rfl, rfl⟩
        refine stepV 2 rfl rfl (fun _ _ _ h => h) ?_ ?_
        · intros; go_simp; exact ⟨rfl, rfl⟩
        refine stepV 3 rfl rfl (fun _ _ _ h => h) ?_ ?_
        · intros; go_simp; exact ⟨rfl, rfl⟩
        refine stepV 4 rfl rfl (fun _ _ _ h => h) ?_ ?_
        · rintro p L w1 ⟨hsz, hB, g, a, r⟩ hk
          have L12 : L 12 = false := hk.2.2 12 rfl
          rw [L12] at g
          try simp only [cond_true, cond_false] at g
          have hc : w1.cell? ⟨w.heap.size, k, none⟩ = some (.int .i64 (G k)) := by have := g.cellIs (qfn_get _ (show k < 4 by omega)); rw [preG_at] at this; exact this
          go_simp
          exact ⟨rfl, rfl⟩
        refine stepV 5 rfl rfl (fun _ _ _ h => h) ?_ ?_
        · intros; go_simp; exact ⟨rfl, rfl⟩
        refine stepV 6 rfl rfl (fun _ _ _ h => h) ?_ ?_
        · intros; go_simp; exact ⟨rfl, rfl⟩
        refine stepV 7 rfl rfl (fun _ _ _ h => h) ?_ ?_
        · rintro p L w1 ⟨hsz, hB, g, a, r⟩ hk
          have L12 : L 12 = false := hk.2.2 12 rfl
          have hc : w1.cell? ⟨w.heap.size + 1, k, none⟩ = some (.int .i64 (R k)) := a.cellIs (vfn_get _ hkn)
          go_simp
          exact ⟨rfl, rfl⟩
        refine stepV 8 rfl rfl (fun _ _ _ h => h) ?_ ?_
        · intros; go_simp; exact ⟨rfl, rfl⟩
        refine stepD 9 rfl (fun p => rfl) (fun _ _ _ h => h) more ?_ ?_
        · rintro p L w1 ⟨hsz, hB, g, a, r⟩ hk
          go_simp
          refine (CL.out _).mono ?_
          rintro e w2 ⟨rfl, h2⟩
          first | exact ⟨rfl, h2⟩ | (subst h2; exact ⟨rfl, Below.refl _ _⟩)
        refine stepV 10 rfl rfl (fun _ _ _ h => h) ?_ ?_
        · intros; go_simp; exact ⟨rfl, rfl⟩
        refine stepV 11 rfl rfl (fun _ _ _ h => h) ?_ ?_
        · intros; go_simp; exact ⟨rfl, rfl⟩
        refine AllI.cons ?_ ?_
        · refine stepI_cell 12 rfl (fun p => rfl) (fun p => rfl) (fun _ => w.heap.size) (k) (fun p => .int .i64 (clampV (G k + R k) (-16777216) 16777216)) (fun p => (qfn (preG (drF G R) G k))) (fun p => (qfn (preG (drF G R) G (k + 1)))) 62 (fun p => by rw [ev]; exact preG_set _ _ hkn) ?_ ?_ ?_
          · rintro p L w1 ⟨hsz, hB, g, a, r⟩ hk
            have L12 : L 12 = false := hk.1
            rw [L12] at g
            try simp only [cond_true, cond_false] at g
            exact g
          · intro p w1 hb
            have fz : w1.frozen? ⟨w.heap.size, k, none⟩ = false := hb.free _
            have cz : ∃ u, w1.cell? ⟨w.heap.size, k, none⟩ = some u := ⟨_, hb.cellIs (qfn_get _ (by omega))⟩
            obtain ⟨u, cz⟩ := cz
            go_simp
            try exact ⟨_, rfl, by first | exact .inl rfl | exact .inr rfl⟩
          · rintro p L w1 ⟨hsz, hB, g, a, r⟩ hk
            have L12 : L 12 = false := hk.1
            refine ⟨(by simpa using hsz), Below.setRow hB (by first | exact Nat.le_trans hW0 hp.1 | exact ge_g | omega | (have := hB.size; simp at this ⊢; omega)) _, ?_, a.rowOther (by first | exact ne_a_g | exact Ne.symm ne_g_a | omega) _, r.rowOther (by first | exact ne_r_g | exact Ne.symm ne_g_r | omega) _⟩
            rw [show upL L 12 12 = true from rfl]
            exact g.row _
        exact AllI.nil
      case hV0 => exact fun p q => AllI.nil
      case he =>
      clear hB g a r
      rintro p wrr ⟨hsz, hB, g, a, r⟩
      replace g : blk wrr w.heap.size (qfn (preG (drF G R) G (k + 1))) 62 := g
      clear lt_g
      clear lt_a
      clear lt_r
      clear hsz hW0
      go_wp2_with (fail)
      go_roundg (3 - (k + 1))
      case rel =>
        exact ⟨k + 1, by omega, rfl, g, a, r, hB⟩
      case measure => omega
    · obtain rfl : k = 3 := by omega
      rw [preG_all] at g
      go_upto_region 7 with (fail)
      have lt_g := g.lt
      have lt_a := a.lt
      have lt_r := r.lt
      have hW0 : w.heap.size ≤ wr.heap.size := by have := hB.size; first | exact this | simpa using this
      apply wp_region_Q 3 [0, 1, 3] [] [_, (fun _ => undef), _] (fun p L w' => wr.heap.size ≤ w'.heap.size ∧ Below w.heap.size w w' ∧ blk w' w.heap.size (qfn (drF G R)) 62 ∧ blk w' (w.heap.size + 1) (vfn R) 39 ∧ blk w' (w.heap.size + 2) (bif L 1 then (qfn (drF G R)) else (qfn fun _ => 0)) 62) _ [(0, 27), (2, 5)] [0, 1, 2]
      case hn => rfl
      case hB => kernel_rfl
      case hds => kernel_rfl
      case hA => (intro p; simp only [putsD, Act.put, List.setIfInBounds_toArray, List.set_cons_zero, List.set_cons_succ, List.getD_cons_zero, List.getD_cons_succ]; exact rfl)
      case h0 => exact fun p => ⟨Nat.le_refl _, hB, g, a, r⟩
      case hmore => exact fun p L w1 w2 ⟨hsz, hB, g, a, r⟩ hm => ⟨Nat.le_trans hsz hm.size, hB.trans (hm.mono (Nat.le_trans hW0 hsz)), g.below hm g.lt, a.below hm a.lt, r.below hm r.lt⟩
      case hs =>
        intro more
        refine stepV 0 rfl rfl (fun _ _ _ h => h) ?_ ?_
        · rintro p L w1 ⟨hsz, hB, g, a, r⟩ hk
          have L1 : L 1 = false := hk.2.2 1 rfl
          first | exact valR_row _ _ rfl _ rfl _ _ g _ Try.underlying62 rfl (by first | kernel_rfl | (rw [qfn_size]; kernel_rfl)) rfl | (have hc := g.cellIs (qfn_get _ (show 0 < 4 by omega)); go_simp; exact ⟨rfl, rfl⟩)
        refine AllI.cons ?_ ?_
        · refine stepI_store 1 rfl (fun p => rfl) (fun p => rfl) _ _ _ rfl (fun _ => (w.heap.size + 2)) 0 (fun p => rfl) (fun p => (qfn (drF G R))) (fun p => rfl) (fun p => (qfn fun _ => 0)) (fun p => (qfn (drF G R))) 62 (fun p => over_qq _ _) (fun p => by first | (rw [qfn_size, qfn_size]; decide) | simp [qfn_size, qfn_size]) (fun p => by rw [qfn_size]; kernel_rfl) (fun p => qfn_one _) ?_ ?_
          · rintro p L w1 ⟨hsz, hB, g, a, r⟩ hk
            have L1 : L 1 = false := hk.1
            rw [L1] at r
            try simp only [cond_true, cond_false] at r
            exact r
          · rintro p L w1 ⟨hsz, hB, g, a, r⟩ hk
            have L1 : L 1 = false := hk.1
            skip
            refine ⟨(by simpa using hsz), Below.setRow hB (by first | exact Nat.le_trans hW0 hp.1 | exact ge_r | omega | (have := hB.size; simp at this ⊢; omega)) _, g.rowOther (by first | exact ne_g_r | exact Ne.symm ne_r_g | omega) _, a.rowOther (by first | exact ne_a_r | exact Ne.symm ne_r_a | omega) _, ?_⟩
            rw [show upL L 1 1 = true from rfl]
            exact r.row _
        refine stepV 2 rfl rfl (fun _ _ _ h => h) ?_ ?_
        · intros; go_simp; exact ⟨rfl, rfl⟩
        exact AllI.nil
      case hV0 => exact fun p q => AllI.nil
      case he =>
      clear hB g a r
      rintro p wrr ⟨hsz, hB, g, a, r⟩
      replace r : blk wrr (w.heap.size + 2) (qfn (drF G R)) 62 := r
      clear lt_g
      clear lt_a
      clear lt_r
      clear hsz hW0
      go_wp2_with (fail)
      refine bodyPost_ret (results_vec rfl _ _ _ _ _ _ _ rfl r Try.underlying62 rfl (by first | kernel_rfl | (rw [qfn_size]; kernel_rfl))) rfl ?_
      refine ⟨?_, hB⟩
      rfl
set_option maxRecDepth 100000 in
set_option maxHeartbeats 2000000 in
theorem rfnew_no (q : Nat → Int) (w : World) (hq : ∀ i, i < 4 → I64 (q i)) (hv : validQ q = false) : Calls Try.prog 37 #[.agg (qfn q)] w fun e w' => e = .returned (.tuple #[.agg (fltc (fun _ => 0, fun _ => 0)), .int .i64 2]) ∧ Below w.heap.size w w' := by
  have VA := Lib.hid (fun w => rqvalid_any q w hq)
  rw [hv] at VA
  go_enter Try.func37, Try.ntmps37
  go_upto_region 1 with (fail)
  simp only [fltc_zero]
  have a : blk ((w.alloc (.cells (qfn q) 46)).alloc (.cells (fltc (fun _ => 0, fun _ => 0)) 74)) w.heap.size (qfn q) 46 := (blk.new _ _ _).alloc _
  have r : blk ((w.alloc (.cells (qfn q) 46)).alloc (.cells (fltc (fun _ => 0, fun _ => 0)) 74)) (w.heap.size + 1) (fltc (fun _ => 0, fun _ => 0)) 74 := blk.new' (by simp)
  have hB : Below w.heap.size w ((w.alloc (.cells (qfn q) 46)).alloc (.cells (fltc (fun _ => 0, fun _ => 0)) 74)) := by go_grown
  generalize ((w.alloc (.cells (qfn q) 46)).alloc (.cells (fltc (fun _ => 0, fun _ => 0)) 74)) = w0 at *
  go_upto_region 2 with (first
    | (refine wpList_load_rowG ?hw _ _ rfl _ rfl _ _ _ _ a Try.underlying46 rfl ?hi ?_; (case hw => (first | rfl | (simp [Region.wanted, yielded]; done))); (case hi => (first | kernel_rfl | (rw [qfn_size]; kernel_rfl))))
    | (go_at_call 83; with_reducible refine (VA.out _).mono ?_; rintro e w1 ⟨rfl, hb⟩; replace hB := hB.trans (hb.mono hB.size); replace a := a.below hb a.lt; replace r := r.below hb r.lt; clear hb))
  have lt_a := a.lt
  have lt_r := r.lt
  have hW0 : w.heap.size ≤ w1.heap.size := by have := hB.size; first | exact this | simpa using this
  apply wp_region_Q 3 [0, 1, 3] [] [_, (fun _ => undef), _] (fun p L w' => w1.heap.size ≤ w'.heap.size ∧ Below w.heap.size w w' ∧ blk w' w.heap.size (qfn q) 46 ∧ blk w' (w.heap.size + 1) (bif L 1 then (fltc (fun _ => 0, fun _ => 0)) else (fltc (fun _ => 0, fun _ => 0))) 74) _ [(0, 7), (2, 3)] [0, 1, 2]
  case hn => rfl
  case hB => kernel_rfl
  case hds => kernel_rfl
  case hA => (intro p; simp only [putsD, Act.put, List.setIfInBounds_toArray, List.set_cons_zero, List.set_cons_succ, List.getD_cons_zero, List.getD_cons_succ]; exact rfl)
  case h0 => exact fun p => ⟨Nat.le_refl _, hB, a, r⟩
  case hmore => exact fun p L w1 w2 ⟨hsz, hB, a, r⟩ hm => ⟨Nat.le_trans hsz hm.size, hB.trans (hm.mono (Nat.le_trans hW0 hsz)), a.below hm a.lt, r.below hm r.lt⟩
  case hs =>
    intro more
    refine stepV 0 rfl rfl (fun _ _ _ h => h) ?_ ?_
    · intros; (try simp only [vfn, qfn]); go_simp; exact ⟨rfl, rfl⟩
    refine AllI.cons ?_ ?_
    · refine stepI_store 1 rfl (fun p => rfl) (fun p => rfl) _ _ _ rfl (fun _ => (w.heap.size + 1)) 0 (fun p => rfl) (fun p => (fltc (fun _ => 0, fun _ => 0))) (fun p => rfl) (fun p => (fltc (fun _ => 0, fun _ => 0))) (fun p => (fltc (fun _ => 0, fun _ => 0))) 74 (fun p => rfl) (fun p => by first | (rw [fltc_size, fltc_size]; decide) | simp [fltc_size, fltc_size]) (fun p => by rw [fltc_size]; kernel_rfl) (fun p => fltc_one _) ?_ ?_
      · rintro p L w1 ⟨hsz, hB, a, r⟩ hk
        have L1 : L 1 = false := hk.1
        rw [L1] at r
        try simp only [cond_true, cond_false] at r
        exact r
      · rintro p L w1 ⟨hsz, hB, a, r⟩ hk
        have L1 : L 1 = false := hk.1
        skip
        refine ⟨(by simpa using hsz), Below.setRow hB (by first | exact Nat.le_trans hW0 hp.1 | exact ge_r | omega | (have := hB.size; simp at this ⊢; omega)) _, a.rowOther (by first | exact ne_a_r | exact Ne.symm ne_r_a | omega) _, ?_⟩
        rw [show upL L 1 1 = true from rfl]
        exact r.row _
    refine stepV 2 rfl rfl (fun _ _ _ h => h) ?_ ?_
    · intros; go_simp; exact ⟨rfl, rfl⟩
    exact AllI.nil
  case hV0 => exact fun p q => AllI.nil
  case he =>
  clear hB a r
  rintro p w1r ⟨hsz, hB, a, r⟩
  replace r : blk w1r (w.heap.size + 1) (fltc (fun _ => 0, fun _ => 0)) 74 := r
  clear lt_a
  clear lt_r
  clear hsz hW0
  go_wp2_with (fail)
  refine bodyPost_ret (results_vec rfl _ _ _ _ _ _ _ rfl r Try.underlying74 rfl (by first | kernel_rfl | (rw [fltc_size]; kernel_rfl))) rfl ?_
  refine ⟨?_, hB⟩
  rfl
set_option maxRecDepth 100000 in
set_option maxHeartbeats 2000000 in
theorem rfnew_ok (q : Nat → Int) (w : World) (hq : ∀ i, i < 4 → I64 (q i)) (hv : validQ q = true) : Calls Try.prog 37 #[.agg (qfn q)] w fun e w' => e = .returned (.tuple #[.agg (fltc (q, fun _ => 0)), .int .i64 0]) ∧ Below w.heap.size w w' := by
  have VA := Lib.hid (fun w => rqvalid_any q w hq)
  rw [hv] at VA
  go_enter Try.func37, Try.ntmps37
  go_upto_region 1 with (fail)
  simp only [fltc_zero]
  have a : blk ((w.alloc (.cells (qfn q) 46)).alloc (.cells (fltc (fun _ => 0, fun _ => 0)) 74)) w.heap.size (qfn q) 46 := (blk.new _ _ _).alloc _
  have r : blk ((w.alloc (.cells (qfn q) 46)).alloc (.cells (fltc (fun _ => 0, fun _ => 0)) 74)) (w.heap.size + 1) (fltc (fun _ => 0, fun _ => 0)) 74 := blk.new' (by simp)
  have hB : Below w.heap.size w ((w.alloc (.cells (qfn q) 46)).alloc (.cells (fltc (fun _ => 0, fun _ => 0)) 74)) := by go_grown
  generalize ((w.alloc (.cells (qfn q) 46)).alloc (.cells (fltc (fun _ => 0, fun _ => 0)) 74)) = w0 at *
  go_upto_region 3 with (first
    | (refine wpList_load_rowG ?hw _ _ rfl _ rfl _ _ _ _ a Try.underlying46 rfl ?hi ?_; (case hw => (first | rfl | (simp [Region.wanted, yielded]; done))); (case hi => (first | kernel_rfl | (rw [qfn_size]; kernel_rfl))))
    | (go_at_call 83; with_reducible refine (VA.out _).mono ?_; rintro e w1 ⟨rfl, hb⟩; replace hB := hB.trans (hb.mono hB.size); replace a := a.below hb a.lt; replace r := r.below hb r.lt; clear hb))
  have lt_a := a.lt
  have lt_r := r.lt
  have hW0 : w.heap.size ≤ w1.heap.size := by have := hB.size; first | exact this | simpa using this
  apply wp_region_Q 4 [0, 1, 3, 7] [] [_, _, (fun _ => undef), _] (fun p L w' => w1.heap.size ≤ w'.heap.size ∧ Below w.heap.size w w' ∧ blk w' w.heap.size (qfn q) 46 ∧ blk w' (w.heap.size + 1) (bif L 2 then (fltc (q, fun _ => 0)) else (fltc (fun _ => 0, fun _ => 0))) 74) _ [(0, 8), (1, 9), (3, 3)] [0, 1, 2, 3]
  case hn => rfl
  case hB => kernel_rfl
  case hds => kernel_rfl
  case hA => (intro p; simp only [putsD, Act.put, List.setIfInBounds_toArray, List.set_cons_zero, List.set_cons_succ, List.getD_cons_zero, List.getD_cons_succ]; exact rfl)
  case h0 => exact fun p => ⟨Nat.le_refl _, hB, a, r⟩
  case hmore => exact fun p L w1 w2 ⟨hsz, hB, a, r⟩ hm => ⟨Nat.le_trans hsz hm.size, hB.trans (hm.mono (Nat.le_trans hW0 hsz)), a.below hm a.lt, r.below hm r.lt⟩
  case hs =>
    intro more
    refine stepV 0 rfl rfl (fun _ _ _ h => h) ?_ ?_
    · rintro p L w1 ⟨hsz, hB, a, r⟩ hk
      have L2 : L 2 = false := hk.2.2 2 rfl
      first | exact valR_row _ _ rfl _ rfl _ _ a _ Try.underlying46 rfl (by first | kernel_rfl | (rw [qfn_size]; kernel_rfl)) rfl | (have hc := a.cellIs (qfn_get _ (show 0 < 4 by omega)); go_simp; exact ⟨rfl, rfl⟩)
    refine stepV 1 rfl rfl (fun _ _ _ h => h) ?_ ?_
    · intros; (try simp only [vfn, qfn]); go_simp; exact ⟨rfl, rfl⟩
    refine AllI.cons ?_ ?_
    · refine stepI_store 2 rfl (fun p => rfl) (fun p => rfl) _ _ _ rfl (fun _ => (w.heap.size + 1)) 0 (fun p => rfl) (fun p => (fltc (q, fun _ => 0))) (fun p => rfl) (fun p => (fltc (fun _ => 0, fun _ => 0))) (fun p => (fltc (q, fun _ => 0))) 74 (fun p => rfl) (fun p => by first | (rw [fltc_size, fltc_size]; decide) | simp [fltc_size, fltc_size]) (fun p => by rw [fltc_size]; kernel_rfl) (fun p => fltc_one _) ?_ ?_
      · rintro p L w1 ⟨hsz, hB, a, r⟩ hk
        have L2 : L 2 = false := hk.1
        rw [L2] at r
        try simp only [cond_true, cond_false] at r
        exact r
      · rintro p L w1 ⟨hsz, hB, a, r⟩ hk
        have L2 : L 2 = false := hk.1
        skip
        refine ⟨(by simpa using hsz), Below.setRow hB (by first | exact Nat.le_trans hW0 hp.1 | exact ge_r | omega | (have := hB.size; simp at this ⊢; omega)) _, a.rowOther (by first | exact ne_a_r | exact Ne.symm ne_r_a | omega) _, ?_⟩
        rw [show upL L 2 2 = true from rfl]
        exact r.row _
    refine stepV 3 rfl rfl (fun _ _ _ h => h) ?_ ?_
    · intros; go_simp; exact ⟨rfl, rfl⟩
    exact AllI.nil
  case hV0 => exact fun p q => AllI.nil
  case he =>
  clear hB a r
  rintro p w1r ⟨hsz, hB, a, r⟩
  replace r : blk w1r (w.heap.size + 1) (fltc (q, fun _ => 0)) 74 := r
  clear lt_a
  clear lt_r
  clear hsz hW0
  go_wp2_with (fail)
  refine bodyPost_ret (results_vec rfl _ _ _ _ _ _ _ rfl r Try.underlying74 rfl (by first | kernel_rfl | (rw [fltc_size]; kernel_rfl))) rfl ?_
  refine ⟨?_, hB⟩
  rfl
set_option maxRecDepth 100000 in
set_option maxHeartbeats 2000000 in
theorem near_any (a n : Int) (w : World) (ha : I64 a) (hn : I64 n) : Calls Try.prog 86 #[.int .i64 a, .int .i64 n] w fun e w' => e = .returned (.int .i64 (ratioV a 1 n)) ∧ Below w.heap.size w w' := by
  have RA := Lib.hid (fun w => rratio_any a 1 n w ha ⟨by omega, by omega⟩ hn)
  have hB : Below w.heap.size w w := Below.refl _ _
  go_enter Try.func86, Try.ntmps86
  go_wp2_with (first
    | (go_at_call 98; with_reducible refine (RA.out _).mono ?_; rintro e w1 ⟨rfl, hb⟩; replace hB := hB.trans (hb.mono hB.size); clear hb))
  go_ret
  exact ⟨rfl, hB⟩
end Go.Proofs.Ytnkjbdfhdenbcaa
