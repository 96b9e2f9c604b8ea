/-
  Bodies that are nil or were not made.
-/
import Derived.Test.YtjnocbjngojigaaBdD
set_option linter.unusedSimpArgs false
set_option linter.unusedVariables false
namespace Go.Proofs.Ytjnocbjngojigaa
open Go.RowKit PM Dt
theorem spd_eq (f g : Nat → Int) (w : World) :
    (Op.equalIn 10000 22 (.agg (qfn f)) (.agg (qfn g))).run Try.prog w = .ok ((List.range 4).all fun j => f j == g j) w := by
  obtain ⟨i, hi⟩ : ∃ i, Try.prog.info? 2 = some i := Option.isSome_iff_exists.1 (by kernel_rfl)
  have hc : Try.prog.cellsOf 2 = 1 := by kernel_rfl
  exact run_equalIn_ints (P := Try.prog) Try.underlying22 hi hc Try.underlying2 f g (qfn f) (qfn g) (fun j hj => qfn_get _ hj) (fun j hj => qfn_get _ hj) 9998 w
theorem spd_eq_self (f : Nat → Int) (w : World) : (Op.equalIn 10000 22 (.agg (qfn f)) (.agg (qfn f))).run Try.prog w = .ok true w := by
  rw [spd_eq]; congr 1; simp
def zbd (_ : Unit) : Array Value := #[.int .i64 0, .int .i64 0, .int .i64 0, .int .i64 0, .int .i64 0, .int .i64 0, .int .i64 0, .pointer none]
def prow (b : Nat) : Array Value := #[.pointer none, .pointer (some ⟨b, 0, none⟩)]
set_option maxRecDepth 100000 in
set_option maxHeartbeats 2000000 in
theorem bnoneZ_any (b : Nat) (w : World) (hg : blk w b (zbd ()) 75) : Calls Try.prog 53 #[.pointer (some ⟨b, 0, none⟩)] w fun e w' => e = .returned (.bool true) ∧ w = w' := by
  have hc : w.cell? ⟨b, 7, none⟩ = some (.pointer none) := hg.cellIs rfl
  clear hg
  go_enter Try.func53, Try.ntmps53
  go_wp2_with (fail)
  go_ret
  exact ⟨rfl, rfl⟩
set_option maxRecDepth 100000 in
set_option maxHeartbeats 2000000 in
theorem battitudeN (v : Value) (w : World) (hn : ∀ w', Below w.heap.size w w' → Calls Try.prog 53 #[v] w' fun e w2 => e = .returned (.bool true) ∧ w' = w2) : Calls Try.prog 31 #[v] w fun e w' => e = .returned (.agg (qfn fun _ => 0)) ∧ Below w.heap.size w w' := by
  have NN := Lib.hid hn
  clear hn
  go_enter Try.func31, Try.ntmps31
  go_upto_region 1 with (fail)
  simp only [zero_quat]
  have r : blk (w.alloc (.cells (qfn fun _ => 0) 23)) w.heap.size (qfn fun _ => 0) 23 := blk.new _ _ _
  have hB : Below w.heap.size w (w.alloc (.cells (qfn fun _ => 0) 23)) := by go_grown
  generalize (w.alloc (.cells (qfn fun _ => 0) 23)) = w0 at *
  go_wp2_with (first
    | (go_at_call 53; with_reducible refine (NN.out _ hB).mono ?_; rintro e w9 ⟨rfl, rfl⟩)
    | (rw [zero_quat]; refine wpList_store_row rfl _ _ _ rfl _ rfl _ rfl _ _ r (by first | kernel_rfl | (rw [qfn_size]; kernel_rfl)) (by first | rfl | simp only [qfn_size]) (by first | exact qfn_one _ | rfl) ?_))
  refine bodyPost_ret (results_cell_row rfl _ _ _ _ _ _ _ rfl (r.row (qfn (fun _ => 0))) Try.underlying23 rfl (by first | kernel_rfl | (rw [qfn_size]; kernel_rfl))) rfl ?_
  refine ⟨?_, Below.setRow hB (by omega) _⟩
  rfl
set_option maxRecDepth 100000 in
set_option maxHeartbeats 2000000 in
theorem btotalN (v : Value) (w : World) (hn : ∀ w', Below w.heap.size w w' → Calls Try.prog 53 #[v] w' fun e w2 => e = .returned (.bool true) ∧ w' = w2) : Calls Try.prog 29 #[v] w fun e w' => e = .returned (.agg (vfn fun _ => 0)) ∧ Below w.heap.size w w' := by
  have NN := Lib.hid hn
  clear hn
  go_enter Try.func29, Try.ntmps29
  go_upto_region 1 with (fail)
  simp only [zero_vec]
  have r : blk (w.alloc (.cells (vfn fun _ => 0) 25)) w.heap.size (vfn fun _ => 0) 25 := blk.new _ _ _
  have hB : Below w.heap.size w (w.alloc (.cells (vfn fun _ => 0) 25)) := by go_grown
  generalize (w.alloc (.cells (vfn fun _ => 0) 25)) = w0 at *
  go_wp2_with (first
    | (go_at_call 53; with_reducible refine (NN.out _ hB).mono ?_; rintro e w9 ⟨rfl, rfl⟩)
    | (rw [zero_vec]; refine wpList_store_row rfl _ _ _ rfl _ rfl _ rfl _ _ r (by first | kernel_rfl | (rw [vfn_size]; kernel_rfl)) (by first | rfl | simp only [vfn_size]) (by first | exact vfn_one _ | rfl) ?_))
  refine bodyPost_ret (results_cell_row rfl _ _ _ _ _ _ _ rfl (r.row (vfn (fun _ => 0))) Try.underlying25 rfl (by first | kernel_rfl | (rw [vfn_size]; kernel_rfl))) rfl ?_
  refine ⟨?_, Below.setRow hB (by omega) _⟩
  rfl
set_option maxRecDepth 100000 in
set_option maxHeartbeats 2000000 in
theorem bspeedsN (v : Value) (w : World) (hn : ∀ w', Below w.heap.size w w' → Calls Try.prog 53 #[v] w' fun e w2 => e = .returned (.bool true) ∧ w' = w2) : Calls Try.prog 36 #[v] w fun e w' => e = .returned (.agg (qfn fun _ => 0)) ∧ Below w.heap.size w w' := by
  have NN := Lib.hid hn
  clear hn
  go_enter Try.func36, Try.ntmps36
  go_upto_region 1 with (fail)
  simp only [zero_spd]
  have r : blk (w.alloc (.cells (qfn fun _ => 0) 22)) w.heap.size (qfn fun _ => 0) 22 := blk.new _ _ _
  have hB : Below w.heap.size w (w.alloc (.cells (qfn fun _ => 0) 22)) := by go_grown
  generalize (w.alloc (.cells (qfn fun _ => 0) 22)) = w0 at *
  go_wp2_with (first
    | (go_at_call 53; with_reducible refine (NN.out _ hB).mono ?_; rintro e w9 ⟨rfl, rfl⟩)
    | (rw [zero_spd]; refine wpList_store_row rfl _ _ _ rfl _ rfl _ rfl _ _ r (by first | kernel_rfl | (rw [qfn_size]; kernel_rfl)) (by first | rfl | simp only [qfn_size]) (by first | exact qfn_one _ | rfl) ?_))
  refine bodyPost_ret (results_cell_row rfl _ _ _ _ _ _ _ rfl (r.row (qfn (fun _ => 0))) Try.underlying22 rfl (by first | kernel_rfl | (rw [qfn_size]; kernel_rfl))) rfl ?_
  refine ⟨?_, Below.setRow hB (by omega) _⟩
  rfl
set_option maxRecDepth 100000 in
set_option maxHeartbeats 2000000 in
theorem bmomentumN (v : Value) (w : World) (hn : ∀ w', Below w.heap.size w w' → Calls Try.prog 53 #[v] w' fun e w2 => e = .returned (.bool true) ∧ w' = w2) : Calls Try.prog 28 #[v] w fun e w' => e = .returned (.agg (vfn fun _ => 0)) ∧ Below w.heap.size w w' := by
  have NN := Lib.hid hn
  clear hn
  go_enter Try.func28, Try.ntmps28
  go_upto_region 1 with (fail)
  simp only [zero_vec]
  have r : blk (w.alloc (.cells (vfn fun _ => 0) 25)) w.heap.size (vfn fun _ => 0) 25 := blk.new _ _ _
  have hB : Below w.heap.size w (w.alloc (.cells (vfn fun _ => 0) 25)) := by go_grown
  generalize (w.alloc (.cells (vfn fun _ => 0) 25)) = w0 at *
  go_wp2_with (first
    | (go_at_call 53; with_reducible refine (NN.out _ hB).mono ?_; rintro e w9 ⟨rfl, rfl⟩)
    | (rw [zero_vec]; refine wpList_store_row rfl _ _ _ rfl _ rfl _ rfl _ _ r (by first | kernel_rfl | (rw [vfn_size]; kernel_rfl)) (by first | rfl | simp only [vfn_size]) (by first | exact vfn_one _ | rfl) ?_))
  refine bodyPost_ret (results_cell_row rfl _ _ _ _ _ _ _ rfl (r.row (vfn (fun _ => 0))) Try.underlying25 rfl (by first | kernel_rfl | (rw [vfn_size]; kernel_rfl))) rfl ?_
  refine ⟨?_, Below.setRow hB (by omega) _⟩
  rfl
set_option maxRecDepth 100000 in
set_option maxHeartbeats 2000000 in
theorem brateN (v : Value) (w : World) (hn : ∀ w', Below w.heap.size w w' → Calls Try.prog 53 #[v] w' fun e w2 => e = .returned (.bool true) ∧ w' = w2) : Calls Try.prog 37 #[v] w fun e w' => e = .returned (.agg (vfn fun _ => 0)) ∧ Below w.heap.size w w' := by
  have MO := Lib.hid (fun w1 (hb : Below w.heap.size w w1) => bmomentumN v w1 (fun w9 hb9 => hn w9 (hb.trans (hb9.mono hb.size))))
  clear hn
  go_enter Try.func37, Try.ntmps37
  go_upto_region 1 with (fail)
  simp only [zero_vec]
  have r : blk (w.alloc (.cells (vfn fun _ => 0) 25)) w.heap.size (vfn fun _ => 0) 25 := blk.new _ _ _
  have hB : Below w.heap.size w (w.alloc (.cells (vfn fun _ => 0) 25)) := by go_grown
  generalize (w.alloc (.cells (vfn fun _ => 0) 25)) = w0 at *
  have lt_r := r.lt
  have hW0 : w.heap.size ≤ w0.heap.size := by have := hB.size; first | exact this | simpa using this
  apply wp_region_Q 4 [0, 1, 3, 7] [2] [_, _, (fun p => .pointer (some ⟨p 2, 0, none⟩)), (fun _ => undef)] (fun p L w' => w0.heap.size ≤ w'.heap.size ∧ Below w.heap.size w w' ∧ blk w' w.heap.size (vfn fun _ => 0) 25 ∧ (L 2 = true → w0.heap.size ≤ p 2 ∧ blk w' (p 2) (bif L 3 then (vfn (fun _ => 0)) else (vfn fun _ => 0)) 25)) _ [(0, 4), (1, 5), (2, 3)] [0, 1, 2, 3]
  case hn => rfl
  case hB => kernel_rfl
  case hds => kernel_rfl
  case hA => (intro p; simp only [putsD, Act.put, List.setIfInBounds_toArray, List.set_cons_zero, List.set_cons_succ, List.getD_cons_zero, List.getD_cons_succ]; exact rfl)
  case h0 => exact fun p => ⟨Nat.le_refl _, hB, r, fun h => absurd h (by decide)⟩
  case hmore => exact fun p L w1 w2 ⟨hsz, hB, r, h_x⟩ hm => ⟨Nat.le_trans hsz hm.size, hB.trans (hm.mono (Nat.le_trans hW0 hsz)), r.below hm r.lt, fun hl => ⟨(h_x hl).1, (h_x hl).2.below hm (h_x hl).2.lt⟩⟩
  case hs =>
    intro more
    refine stepV 0 rfl rfl (fun _ _ _ h => h) ?_ ?_
    · intros; go_simp; exact ⟨rfl, rfl⟩
    refine stepD 1 rfl (fun p => rfl) (fun _ _ _ h => h) more ?_ ?_
    · rintro p L w1 ⟨hsz, hB, r, h_x⟩ hk
      go_simp
      refine (MO.out _ hB).mono ?_
      rintro e w2 ⟨rfl, h2⟩
      first | exact ⟨rfl, h2⟩ | (subst h2; exact ⟨rfl, Below.refl _ _⟩)
    refine AllI.cons ?_ ?_
    · refine stepI_alloc 2 rfl (fun p => rfl) rfl (vfn fun _ => 0) 25 (fun p => rfl) ?_ ?_
      · intro p w1
        go_simp
        first | rfl | rw [zero_vec]
      rintro p L w1 ⟨hsz, hB, r, h_x⟩ hk
      have L3 : L 3 = false := hk.2.2 3 rfl
      refine ⟨Nat.le_trans hsz (by simp), hB.alloc (Nat.le_trans (by first | exact hW0 | (have := hB.size; simp at this ⊢; omega)) hsz) _, r.alloc _, fun _ => ⟨hsz, ?_⟩⟩
      rw [show upL L 2 3 = false from L3]
      exact blk.new _ _ _
    refine AllI.cons ?_ ?_
    · refine stepI_store 3 rfl (fun p => rfl) (fun p => rfl) _ _ _ rfl (fun p => p 2) 0 (fun p => rfl) (fun p => (vfn (fun _ => 0))) (fun p => rfl) (fun p => (vfn fun _ => 0)) (fun p => (vfn (fun _ => 0))) 25 (fun p => over_v _ _) (fun p => by first | (rw [vfn_size, vfn_size]; decide) | simp [vfn_size, vfn_size]) (fun p => by rw [vfn_size]; kernel_rfl) (fun p => vfn_one _) ?_ ?_
      · rintro p L w1 ⟨hsz, hB, r, h_x⟩ hk
        have L3 : L 3 = false := hk.1
        have hh := (h_x (hk.2.1 2 rfl)).2
        rw [L3] at hh
        try simp only [cond_true, cond_false] at hh
        exact hh
      · rintro p L w1 ⟨hsz, hB, r, h_x⟩ hk
        have L3 : L 3 = false := hk.1
        skip
        have hp := h_x (hk.2.1 2 rfl)
        refine ⟨(by simpa using hsz), Below.setRow hB (by first | exact Nat.le_trans hW0 hp.1 | exact ge_x | omega | (have := hB.size; simp at this ⊢; omega)) _, r.rowOther (by first | exact Nat.ne_of_lt (Nat.lt_of_lt_of_le lt_r hp.1) | omega) _, fun _ => ⟨hp.1, ?_⟩⟩
        rw [show upL L 3 3 = true from rfl]
        exact hp.2.row _
    exact AllI.nil
  case hV0 =>
    intro p q
    refine AllI.cons ?_ ?_
    · skip
      iterate 4 (refine AllI.cons (by first | exact .inl rfl | (refine .inr ?_; simp only [List.getD_cons_zero, List.getD_cons_succ]; done) | exact .inr rfl) ?_)
      exact AllI.nil
    exact AllI.nil
  case he =>
  clear hB r
  rintro p w0r ⟨hsz, hB, r, h_x⟩
  obtain ⟨le_x, x⟩ := h_x rfl
  clear h_x
  replace x : blk w0r (p 2) (vfn (fun _ => 0)) 25 := x
  have ne_r_x : w.heap.size ≠ p 2 := Nat.ne_of_lt (Nat.lt_of_lt_of_le lt_r le_x)
  have ge_x : w.heap.size ≤ p 2 := Nat.le_trans hW0 le_x
  generalize p 2 = x_b at *
  clear lt_r
  clear hsz hW0
  go_upto_region 2 with (fail)
  have lt_r := r.lt
  have lt_x := x.lt
  have hW0 : w.heap.size ≤ w0r.heap.size := by have := hB.size; first | exact this | simpa using this
  apply wp_region_Q 11 [0, 1, 3, 7, 15, 31, 63, 127, 255, 511, 1023] [] [_, _, _, _, _, _, _, _, _, _, (fun _ => undef)] (fun p L w' => w0r.heap.size ≤ w'.heap.size ∧ Below w.heap.size w w' ∧ blk w' w.heap.size (bif L 10 then (vfn (fun _ => 0)) else (vfn fun _ => 0)) 25 ∧ blk w' x_b (vfn (fun _ => 0)) 25) _ [(0, 6), (1, 7), (2, 8), (3, 9), (4, 10), (5, 11), (6, 12), (7, 13), (8, 14), (9, 15)] [0, 1, 2, 3, 4, 5, 6, 7, 8, 9, 10]
  case hn => rfl
  case hB => kernel_rfl
  case hds => kernel_rfl
  case hA => (intro p; simp only [putsD, Act.put, List.setIfInBounds_toArray, List.set_cons_zero, List.set_cons_succ, List.getD_cons_zero, List.getD_cons_succ]; exact rfl)
  case h0 => exact fun p => ⟨Nat.le_refl _, hB, r, x⟩
  case hmore => exact fun p L w1 w2 ⟨hsz, hB, r, x⟩ hm => ⟨Nat.le_trans hsz hm.size, hB.trans (hm.mono (Nat.le_trans hW0 hsz)), r.below hm r.lt, x.below hm x.lt⟩
  case hs =>
    intro more
    refine stepV 0 rfl rfl (fun _ _ _ h => h) ?_ ?_
    · intros; go_simp; exact ⟨rfl, rfl⟩
    refine stepV 1 rfl rfl (fun _ _ _ h => h) ?_ ?_
    · rintro p L w1 ⟨hsz, hB, r, x⟩ hk
      have L10 : L 10 = false := hk.2.2 10 rfl
      have hc : w1.cell? ⟨x_b, 0, none⟩ = some (.int .i64 0) := x.cellIs (vfn_get (fun _ => 0) (show 0 < 3 by omega))
      go_simp
      exact ⟨rfl, rfl⟩
    refine stepV 2 rfl rfl (fun _ _ _ h => h) ?_ ?_
    · intros; go_simp; exact ⟨rfl, rfl⟩
    refine stepV 3 rfl rfl (fun _ _ _ h => h) ?_ ?_
    · intros; go_simp; exact ⟨rfl, rfl⟩
    refine stepV 4 rfl rfl (fun _ _ _ h => h) ?_ ?_
    · rintro p L w1 ⟨hsz, hB, r, x⟩ hk
      have L10 : L 10 = false := hk.2.2 10 rfl
      have hc : w1.cell? ⟨x_b, 1, none⟩ = some (.int .i64 0) := x.cellIs (vfn_get (fun _ => 0) (show 1 < 3 by omega))
      go_simp
      exact ⟨rfl, rfl⟩
    refine stepV 5 rfl rfl (fun _ _ _ h => h) ?_ ?_
    · intros; go_simp; exact ⟨rfl, rfl⟩
    refine stepV 6 rfl rfl (fun _ _ _ h => h) ?_ ?_
    · intros; go_simp; exact ⟨rfl, rfl⟩
    refine stepV 7 rfl rfl (fun _ _ _ h => h) ?_ ?_
    · rintro p L w1 ⟨hsz, hB, r, x⟩ hk
      have L10 : L 10 = false := hk.2.2 10 rfl
      have hc : w1.cell? ⟨x_b, 2, none⟩ = some (.int .i64 0) := x.cellIs (vfn_get (fun _ => 0) (show 2 < 3 by omega))
      go_simp
      exact ⟨rfl, rfl⟩
    refine stepV 8 rfl rfl (fun _ _ _ h => h) ?_ ?_
    · intros; go_simp; exact ⟨rfl, rfl⟩
    refine stepV 9 rfl rfl (fun _ _ _ h => h) ?_ ?_
    · intros; (try simp only [vfn, qfn]); go_simp; exact ⟨rfl, rfl⟩
    refine AllI.cons ?_ ?_
    · refine stepI_store 10 rfl (fun p => rfl) (fun p => rfl) _ _ _ rfl (fun _ => w.heap.size) 0 (fun p => rfl) (fun p => (vfn (fun _ => 0))) (fun p => (congrArg Value.agg zero_vec)) (fun p => (vfn fun _ => 0)) (fun p => (vfn (fun _ => 0))) 25 (fun p => over_v _ _) (fun p => by first | (rw [vfn_size, vfn_size]; decide) | simp [vfn_size, vfn_size]) (fun p => by rw [vfn_size]; kernel_rfl) (fun p => vfn_one _) ?_ ?_
      · rintro p L w1 ⟨hsz, hB, r, x⟩ hk
        have L10 : L 10 = false := hk.1
        rw [L10] at r
        try simp only [cond_true, cond_false] at r
        exact r
      · rintro p L w1 ⟨hsz, hB, r, x⟩ hk
        have L10 : L 10 = false := hk.1
        skip
        refine ⟨(by simpa using hsz), Below.setRow hB (by first | exact Nat.le_trans hW0 hp.1 | exact ge_r | omega | (have := hB.size; simp at this ⊢; omega)) _, ?_, x.rowOther (by first | exact ne_x_r | exact Ne.symm ne_r_x | omega) _⟩
        rw [show upL L 10 10 = true from rfl]
        exact r.row _
    exact AllI.nil
  case hV0 => exact fun p q => AllI.nil
  case he =>
  clear hB r x
  rintro p w0rr ⟨hsz, hB, r, x⟩
  replace r : blk w0rr w.heap.size (vfn (fun _ => 0)) 25 := r
  clear lt_r
  clear lt_x
  clear hsz hW0
  go_wp2_with (fail)
  refine bodyPost_ret (results_cell_row rfl _ _ _ _ _ _ _ rfl r Try.underlying25 rfl (by first | kernel_rfl | (rw [vfn_size]; kernel_rfl))) rfl ?_
  refine ⟨?_, hB⟩
  rfl
set_option maxRecDepth 100000 in
set_option maxHeartbeats 2000000 in
theorem bfailedN (v : Value) (w : World) (hn : ∀ w', Below w.heap.size w w' → Calls Try.prog 53 #[v] w' fun e w2 => e = .returned (.bool true) ∧ w' = w2) : Calls Try.prog 35 #[v] w fun e w' => e = .returned (.int .i64 (-1)) ∧ Below w.heap.size w w' := by
  have NN := Lib.hid hn
  clear hn
  have hB : Below w.heap.size w w := Below.refl _ _
  go_enter Try.func35, Try.ntmps35
  go_wp2_with (first
    | (go_at_call 53; with_reducible refine (NN.out _ hB).mono ?_; rintro e w9 ⟨rfl, rfl⟩))
  go_ret
  exact ⟨rfl, hB⟩
set_option maxRecDepth 100000 in
set_option maxHeartbeats 2000000 in
theorem bfailN (v : Value) (i : Int) (w : World) (hn : ∀ w', Below w.heap.size w w' → Calls Try.prog 53 #[v] w' fun e w2 => e = .returned (.bool true) ∧ w' = w2) : Calls Try.prog 33 #[v, .int .i64 i] w fun e w' => e = .returned (.int .i64 1) ∧ Below w.heap.size w w' := by
  have NN := Lib.hid hn
  clear hn
  have hB : Below w.heap.size w w := Below.refl _ _
  go_enter Try.func33, Try.ntmps33
  go_wp2_with (first
    | (go_at_call 53; with_reducible refine (NN.out _ hB).mono ?_; rintro e w9 ⟨rfl, rfl⟩))
  go_ret
  exact ⟨rfl, hB⟩
set_option maxRecDepth 100000 in
set_option maxHeartbeats 2000000 in
theorem bseeN (v : Value) (u : Nat → Int) (w : World) (hn : ∀ w', Below w.heap.size w w' → Calls Try.prog 53 #[v] w' fun e w2 => e = .returned (.bool true) ∧ w' = w2) : Calls Try.prog 17 #[v, .agg (vfn u)] w fun e w' => e = .returned (.tuple #[.agg (vfn fun _ => 0), .int .i64 1]) ∧ Below w.heap.size w w' := by
  have NN := Lib.hid hn
  clear hn
  go_enter Try.func17, Try.ntmps17
  go_upto_region 1 with (fail)
  simp only [zero_vec]
  have a : blk ((w.alloc (.cells (vfn u) 25)).alloc (.cells (vfn fun _ => 0) 25)) w.heap.size (vfn u) 25 := (blk.new _ _ _).alloc _
  have r : blk ((w.alloc (.cells (vfn u) 25)).alloc (.cells (vfn fun _ => 0) 25)) (w.heap.size + 1) (vfn fun _ => 0) 25 := blk.new' (by simp)
  have hB : Below w.heap.size w ((w.alloc (.cells (vfn u) 25)).alloc (.cells (vfn fun _ => 0) 25)) := by go_grown
  generalize ((w.alloc (.cells (vfn u) 25)).alloc (.cells (vfn fun _ => 0) 25)) = w0 at *
  go_wp2_with (first
    | (go_at_call 53; with_reducible refine (NN.out _ hB).mono ?_; rintro e w9 ⟨rfl, rfl⟩)
    | (rw [zero_vec]; refine wpList_store_row rfl _ _ _ rfl _ rfl _ rfl _ _ r (by first | kernel_rfl | (rw [vfn_size]; kernel_rfl)) (by first | rfl | simp only [vfn_size]) (by first | exact vfn_one _ | rfl) ?_))
  refine bodyPost_ret (results_vec rfl _ _ _ _ _ _ _ rfl (r.row (vfn (fun _ => 0))) Try.underlying25 rfl (by first | kernel_rfl | (rw [vfn_size]; kernel_rfl))) rfl ?_
  refine ⟨?_, Below.setRow hB (by omega) _⟩
  rfl
set_option maxRecDepth 100000 in
set_option maxHeartbeats 2000000 in
theorem btickN (v : Value) (c t : Nat → Int) (w : World) (hn : ∀ w', Below w.heap.size w w' → Calls Try.prog 53 #[v] w' fun e w2 => e = .returned (.bool true) ∧ w' = w2) : Calls Try.prog 34 #[v, .agg (qfn c), .agg (vfn t)] w fun e w' => e = .returned (.tuple #[.agg (vfn fun _ => 0), .int .i64 1]) ∧ Below w.heap.size w w' := by
  have NN := Lib.hid hn
  clear hn
  go_enter Try.func34, Try.ntmps34
  go_upto_region 1 with (fail)
  simp only [zero_vec]
  have a : blk (((w.alloc (.cells (qfn c) 22)).alloc (.cells (vfn t) 25)).alloc (.cells (vfn fun _ => 0) 25)) w.heap.size (qfn c) 22 := ((blk.new _ _ _).alloc _).alloc _
  have t2 : blk (((w.alloc (.cells (qfn c) 22)).alloc (.cells (vfn t) 25)).alloc (.cells (vfn fun _ => 0) 25)) (w.heap.size + 1) (vfn t) 25 := (blk.new' (by simp)).alloc _
  have r : blk (((w.alloc (.cells (qfn c) 22)).alloc (.cells (vfn t) 25)).alloc (.cells (vfn fun _ => 0) 25)) (w.heap.size + 2) (vfn fun _ => 0) 25 := blk.new' (by simp)
  have hB : Below w.heap.size w (((w.alloc (.cells (qfn c) 22)).alloc (.cells (vfn t) 25)).alloc (.cells (vfn fun _ => 0) 25)) := by go_grown
  generalize (((w.alloc (.cells (qfn c) 22)).alloc (.cells (vfn t) 25)).alloc (.cells (vfn fun _ => 0) 25)) = w0 at *
  go_wp2_with (first
    | (go_at_call 53; with_reducible refine (NN.out _ hB).mono ?_; rintro e w9 ⟨rfl, rfl⟩)
    | (rw [zero_vec]; refine wpList_store_row rfl _ _ _ rfl _ rfl _ rfl _ _ r (by first | kernel_rfl | (rw [vfn_size]; kernel_rfl)) (by first | rfl | simp only [vfn_size]) (by first | exact vfn_one _ | rfl) ?_))
  refine bodyPost_ret (results_vec rfl _ _ _ _ _ _ _ rfl (r.row (vfn (fun _ => 0))) Try.underlying25 rfl (by first | kernel_rfl | (rw [vfn_size]; kernel_rfl))) rfl ?_
  refine ⟨?_, Below.setRow hB (by omega) _⟩
  rfl
set_option maxRecDepth 100000 in
set_option maxHeartbeats 8000000 in
theorem bnones_any (yw yi : Int) (yc yt u : Nat → Int) (w : World) : Calls Try.prog 9 #[.agg (actc (yw, yc, yt, yi)), .agg (vfn u)] w fun e w' => e = .returned (.bool true) ∧ Below w.heap.size w w' := by
  have E0 : ∀ w, (Op.equalIn 10000 25 (.agg (vfn fun _ => 0)) (.agg #[.int .i64 0, .int .i64 0, .int .i64 0])).run Try.prog w = .ok true w := fun w => by rw [zero_vec]; exact vec_eq_self _ w
  have E1 : ∀ w, (Op.equalIn 10000 23 (.agg (qfn fun _ => 0)) (.agg #[.int .i64 0, .int .i64 0, .int .i64 0, .int .i64 0])).run Try.prog w = .ok true w := fun w => by rw [zero_quat]; exact quat_eq_self _ w
  have E2 : ∀ w, (Op.equalIn 10000 22 (.agg (qfn fun _ => 0)) (.agg #[.int .i64 0, .int .i64 0, .int .i64 0, .int .i64 0])).run Try.prog w = .ok true w := fun w => by rw [zero_quat]; exact spd_eq_self _ w
  go_enter Try.func9, Try.ntmps9
  go_wp2_with (fail)
  simp only [show #[Value.int .i64 0, .int .i64 0, .int .i64 0, .int .i64 0, .int .i64 0, .int .i64 0, .int .i64 0, .pointer none] = zbd () from rfl, show #[Value.pointer none, .pointer (some ⟨w.heap.size + 2, 0, none⟩)] = prow (w.heap.size + 2) from rfl]
  have m : blk ((((w.alloc (.cells (actc (yw, yc, yt, yi)) 70)).alloc (.cells (vfn u) 25)).alloc (.cells (zbd ()) 75)).alloc (.cells (prow (w.heap.size + 2)) 28)) w.heap.size (actc (yw, yc, yt, yi)) 70 := (((blk.new _ _ _).alloc _).alloc _).alloc _
  have l : blk ((((w.alloc (.cells (actc (yw, yc, yt, yi)) 70)).alloc (.cells (vfn u) 25)).alloc (.cells (zbd ()) 75)).alloc (.cells (prow (w.heap.size + 2)) 28)) (w.heap.size + 1) (vfn u) 25 := ((blk.new' (by simp)).alloc _).alloc _
  have z : blk ((((w.alloc (.cells (actc (yw, yc, yt, yi)) 70)).alloc (.cells (vfn u) 25)).alloc (.cells (zbd ()) 75)).alloc (.cells (prow (w.heap.size + 2)) 28)) (w.heap.size + 2) (zbd ()) 75 := (blk.new' (by simp)).alloc _
  have c : blk ((((w.alloc (.cells (actc (yw, yc, yt, yi)) 70)).alloc (.cells (vfn u) 25)).alloc (.cells (zbd ()) 75)).alloc (.cells (prow (w.heap.size + 2)) 28)) (w.heap.size + 3) (prow (w.heap.size + 2)) 28 := blk.new' (by simp)
  have hB : Below w.heap.size w ((((w.alloc (.cells (actc (yw, yc, yt, yi)) 70)).alloc (.cells (vfn u) 25)).alloc (.cells (zbd ()) 75)).alloc (.cells (prow (w.heap.size + 2)) 28)) := by go_grown
  generalize ((((w.alloc (.cells (actc (yw, yc, yt, yi)) 70)).alloc (.cells (vfn u) 25)).alloc (.cells (zbd ()) 75)).alloc (.cells (prow (w.heap.size + 2)) 28)) = w0 at *
  go_loopg [15] 2 (fun g_ iv wr => ∃ k : Nat, g_ + k = 2 ∧ iv = .int .i64 k ∧ blk wr w.heap.size (actc (yw, yc, yt, yi)) 70 ∧ blk wr (w.heap.size + 1) (vfn u) 25 ∧ blk wr (w.heap.size + 2) (zbd ()) 75 ∧ blk wr (w.heap.size + 3) (prow (w.heap.size + 2)) 28 ∧ Below w.heap.size w wr)
  case atStart => exact ⟨0, rfl, rfl, m, l, z, c, hB⟩
  case round =>
    clear m l z c hB
    obtain ⟨k, hk, rfl, m, l, z, c, hB⟩ := hrel
    by_cases hkn : k < 2
    · have hdk : decide ((k : Int) < 2) = true := decide_eq_true (by omega)
      have hdk' : decide (k < 2) = true := decide_eq_true (by omega)
      have hk3 : (k : Int) < 2 := by omega
      have hk0 : (0 : Int) ≤ k := by omega
      have hw3 : IntKind.i64.wrap ((k : Int) + 1) = ((k + 1 : Nat) : Int) := by rw [IntKind.wrap_i64]; omega
      obtain ⟨v, hcv, hvn⟩ : ∃ v, (prow (w.heap.size + 2))[k]? = some v ∧ ∀ w', blk w' (w.heap.size + 2) (zbd ()) 75 → Calls Try.prog 53 #[v] w' fun e w2 => e = .returned (.bool true) ∧ w' = w2 := by
        rcases (show k = 0 ∨ k = 1 by omega) with rfl | rfl
        · exact ⟨_, rfl, fun w' _ => bnoneN_any w'⟩
        · exact ⟨_, rfl, fun w' hz => bnoneZ_any _ w' hz⟩
      replace hvn := Lib.hid hvn
      go_upto_region 3 with (fail)
      have lt_m := m.lt
      have lt_l := l.lt
      have lt_z := z.lt
      have lt_c := c.lt
      have hW0 : w.heap.size ≤ wr.heap.size := by have := hB.size; first | exact this | simpa using this
      apply wp_region_Q 3 [0, 1, 3] [] [_, _, _] (fun p L w' => wr.heap.size ≤ w'.heap.size ∧ Below w.heap.size w w' ∧ blk w' w.heap.size (actc (yw, yc, yt, yi)) 70 ∧ blk w' (w.heap.size + 1) (vfn u) 25 ∧ blk w' (w.heap.size + 2) (zbd ()) 75 ∧ blk w' (w.heap.size + 3) (prow (w.heap.size + 2)) 28) _ [(0, 17), (1, 18), (2, 6)] [0, 1, 2]
      case hn => rfl
      case hB => kernel_rfl
      case hds => kernel_rfl
      case hA => (intro p; simp only [putsD, Act.put, List.setIfInBounds_toArray, List.set_cons_zero, List.set_cons_succ, List.getD_cons_zero, List.getD_cons_succ]; exact rfl)
      case h0 => exact fun p => ⟨Nat.le_refl _, hB, m, l, z, c⟩
      case hmore => exact fun p L w1 w2 ⟨hsz, hB, m, l, z, c⟩ hm => ⟨Nat.le_trans hsz hm.size, hB.trans (hm.mono (Nat.le_trans hW0 hsz)), m.below hm m.lt, l.below hm l.lt, z.below hm z.lt, c.below hm c.lt⟩
      case hs =>
        intro more
        refine stepV 0 rfl rfl (fun _ _ _ h => h) ?_ ?_
        · intros; go_simp; exact ⟨rfl, rfl⟩
        refine stepV 1 rfl rfl (fun _ _ _ h => h) ?_ ?_
        · rintro p L w1 ⟨hsz, hB, m, l, z, c⟩ hk
          have hc : w1.cell? ⟨w.heap.size + 3, k, none⟩ = some (v) := c.cellIs hcv
          go_simp
          exact ⟨rfl, rfl⟩
        refine stepV 2 rfl rfl (fun _ _ _ h => h) ?_ ?_
        · intros; go_simp; exact ⟨rfl, rfl⟩
        exact AllI.nil
      case hV0 => exact fun p q => AllI.nil
      case he =>
      clear hB m l z c
      rintro p wrr ⟨hsz, hB, m, l, z, c⟩
      clear lt_m
      clear lt_l
      clear lt_z
      clear lt_c
      clear hsz hW0
      go_upto_region 4 with (fail)
      have lt_m := m.lt
      have lt_l := l.lt
      have lt_z := z.lt
      have lt_c := c.lt
      have hW0 : w.heap.size ≤ wrr.heap.size := by have := hB.size; first | exact this | simpa using this
      apply wp_region_Q 12 [0, 1, 3, 7, 15, 31, 63, 127, 255, 511, 1023, 2047] [9] [_, _, _, _, _, _, _, _, _, (fun p => .pointer (some ⟨p 9, 0, none⟩)), (fun _ => undef), _] (fun p L w' => wrr.heap.size ≤ w'.heap.size ∧ Below w.heap.size w w' ∧ blk w' w.heap.size (actc (yw, yc, yt, yi)) 70 ∧ blk w' (w.heap.size + 1) (vfn u) 25 ∧ blk w' (w.heap.size + 2) (zbd ()) 75 ∧ blk w' (w.heap.size + 3) (prow (w.heap.size + 2)) 28 ∧ (L 9 = true → wrr.heap.size ≤ p 9 ∧ blk w' (p 9) (bif L 10 then (vfn (fun _ => 0)) else (vfn fun _ => 0)) 25)) _ [(0, 20), (1, 21), (2, 22), (3, 23), (4, 24), (5, 25), (6, 19), (7, 26), (8, 27), (9, 7), (11, 8)] [0, 1, 2, 3, 4, 5, 6, 7, 8, 9, 10, 11]
      case hn => rfl
      case hB => kernel_rfl
      case hds => kernel_rfl
      case hA => (intro p; simp only [putsD, Act.put, List.setIfInBounds_toArray, List.set_cons_zero, List.set_cons_succ, List.getD_cons_zero, List.getD_cons_succ]; exact rfl)
      case h0 => exact fun p => ⟨Nat.le_refl _, hB, m, l, z, c, fun h => absurd h (by decide)⟩
      case hmore => exact fun p L w1 w2 ⟨hsz, hB, m, l, z, c, h_a⟩ hm => ⟨Nat.le_trans hsz hm.size, hB.trans (hm.mono (Nat.le_trans hW0 hsz)), m.below hm m.lt, l.below hm l.lt, z.below hm z.lt, c.below hm c.lt, fun hl => ⟨(h_a hl).1, (h_a hl).2.below hm (h_a hl).2.lt⟩⟩
      case hs =>
        intro more
        refine stepV 0 rfl rfl (fun _ _ _ h => h) ?_ ?_
        · intros; go_simp; exact ⟨rfl, rfl⟩
        refine stepV 1 rfl rfl (fun _ _ _ h => h) ?_ ?_
        · intros; go_simp; exact ⟨rfl, rfl⟩
        refine stepV 2 rfl rfl (fun _ _ _ h => h) ?_ ?_
        · rintro p L w1 ⟨hsz, hB, m, l, z, c, h_a⟩ hk
          have L10 : L 10 = false := hk.2.2 10 rfl
          exact valR_part _ _ rfl _ 1 rfl _ _ m (qfn yc) (act_c yw yc yt yi) _ Try.underlying22 rfl (by rw [qfn_size]; kernel_rfl) rfl
        refine stepV 3 rfl rfl (fun _ _ _ h => h) ?_ ?_
        · intros; go_simp; exact ⟨rfl, rfl⟩
        refine stepV 4 rfl rfl (fun _ _ _ h => h) ?_ ?_
        · rintro p L w1 ⟨hsz, hB, m, l, z, c, h_a⟩ hk
          have L10 : L 10 = false := hk.2.2 10 rfl
          exact valR_part _ _ rfl _ 5 rfl _ _ m (vfn yt) (act_t yw yc yt yi) _ Try.underlying25 rfl (by rw [vfn_size]; kernel_rfl) rfl
        refine stepD 5 rfl (fun p => rfl) (fun _ _ _ h => h) more ?_ ?_
        · rintro p L w1 ⟨hsz, hB, m, l, z, c, h_a⟩ hk
          go_simp
          refine (btickN v yc yt _ (fun w9 hb9 => hvn.out w9 (z.below hb9 z.lt))).mono ?_
          rintro e w2 ⟨rfl, h2⟩
          first | exact ⟨rfl, h2⟩ | (subst h2; exact ⟨rfl, Below.refl _ _⟩)
        refine stepV 6 rfl rfl (fun _ _ _ h => h) ?_ ?_
        · intros; go_simp; exact ⟨rfl, rfl⟩
        refine stepV 7 rfl rfl (fun _ _ _ h => h) ?_ ?_
        · intros; go_simp; exact ⟨rfl, rfl⟩
        refine stepV 8 rfl rfl (fun _ _ _ h => h) ?_ ?_
        · intros; go_simp; exact ⟨rfl, rfl⟩
        refine AllI.cons ?_ ?_
        · refine stepI_alloc 9 rfl (fun p => rfl) rfl (vfn fun _ => 0) 25 (fun p => rfl) ?_ ?_
          · intro p w1
            go_simp
            first | rfl | rw [zero_vec]
          rintro p L w1 ⟨hsz, hB, m, l, z, c, h_a⟩ hk
          have L10 : L 10 = false := hk.2.2 10 rfl
          refine ⟨Nat.le_trans hsz (by simp), hB.alloc (Nat.le_trans (by first | exact hW0 | (have := hB.size; simp at this ⊢; omega)) hsz) _, m.alloc _, l.alloc _, z.alloc _, c.alloc _, fun _ => ⟨hsz, ?_⟩⟩
          rw [show upL L 9 10 = false from L10]
          exact blk.new _ _ _
        refine AllI.cons ?_ ?_
        · refine stepI_store 10 rfl (fun p => rfl) (fun p => rfl) _ _ _ rfl (fun p => p 9) 0 (fun p => rfl) (fun p => (vfn (fun _ => 0))) (fun p => rfl) (fun p => (vfn fun _ => 0)) (fun p => (vfn (fun _ => 0))) 25 (fun p => over_v _ _) (fun p => by first | (rw [vfn_size, vfn_size]; decide) | simp [vfn_size, vfn_size]) (fun p => by rw [vfn_size]; kernel_rfl) (fun p => vfn_one _) ?_ ?_
          · rintro p L w1 ⟨hsz, hB, m, l, z, c, h_a⟩ hk
            have L10 : L 10 = false := hk.1
            have hh := (h_a (hk.2.1 9 rfl)).2
            rw [L10] at hh
            try simp only [cond_true, cond_false] at hh
            exact hh
          · rintro p L w1 ⟨hsz, hB, m, l, z, c, h_a⟩ hk
            have L10 : L 10 = false := hk.1
            skip
            have hp := h_a (hk.2.1 9 rfl)
            refine ⟨(by simpa using hsz), Below.setRow hB (by first | exact Nat.le_trans hW0 hp.1 | exact ge_a | omega | (have := hB.size; simp at this ⊢; omega)) _, m.rowOther (by first | exact Nat.ne_of_lt (Nat.lt_of_lt_of_le lt_m hp.1) | omega) _, l.rowOther (by first | exact Nat.ne_of_lt (Nat.lt_of_lt_of_le lt_l hp.1) | omega) _, z.rowOther (by first | exact Nat.ne_of_lt (Nat.lt_of_lt_of_le lt_z hp.1) | omega) _, c.rowOther (by first | exact Nat.ne_of_lt (Nat.lt_of_lt_of_le lt_c hp.1) | omega) _, fun _ => ⟨hp.1, ?_⟩⟩
            rw [show upL L 10 10 = true from rfl]
            exact hp.2.row _
        refine stepV 11 rfl rfl (fun _ _ _ h => h) ?_ ?_
        · intros; go_simp; exact ⟨rfl, rfl⟩
        exact AllI.nil
      case hV0 =>
        intro p q
        refine AllI.cons ?_ ?_
        · skip
          iterate 12 (refine AllI.cons (by first | exact .inl rfl | (refine .inr ?_; simp only [List.getD_cons_zero, List.getD_cons_succ]; done) | exact .inr rfl) ?_)
          exact AllI.nil
        exact AllI.nil
      case he =>
      clear hB m l z c
      rintro p wrrr ⟨hsz, hB, m, l, z, c, h_a⟩
      obtain ⟨le_a, a⟩ := h_a rfl
      clear h_a
      replace a : blk wrrr (p 9) (vfn (fun _ => 0)) 25 := a
      have ne_m_a : w.heap.size ≠ p 9 := Nat.ne_of_lt (Nat.lt_of_lt_of_le lt_m le_a)
      have ne_l_a : (w.heap.size + 1) ≠ p 9 := Nat.ne_of_lt (Nat.lt_of_lt_of_le lt_l le_a)
      have ne_z_a : (w.heap.size + 2) ≠ p 9 := Nat.ne_of_lt (Nat.lt_of_lt_of_le lt_z le_a)
      have ne_c_a : (w.heap.size + 3) ≠ p 9 := Nat.ne_of_lt (Nat.lt_of_lt_of_le lt_c le_a)
      have ge_a : w.heap.size ≤ p 9 := Nat.le_trans hW0 le_a
      generalize p 9 = a_b at *
      clear lt_m
      clear lt_l
      clear lt_z
      clear lt_c
      clear hsz hW0
      go_upto_region 5 with (fail)
      have lt_m := m.lt
      have lt_l := l.lt
      have lt_z := z.lt
      have lt_c := c.lt
      have lt_a := a.lt
      have hW0 : w.heap.size ≤ wrrr.heap.size := by have := hB.size; first | exact this | simpa using this
      apply wp_region_Q 9 [0, 1, 3, 7, 15, 31, 63, 127, 255] [6] [_, _, _, _, _, _, (fun p => .pointer (some ⟨p 6, 0, none⟩)), (fun _ => undef), _] (fun p L w' => wrrr.heap.size ≤ w'.heap.size ∧ Below w.heap.size w w' ∧ blk w' w.heap.size (actc (yw, yc, yt, yi)) 70 ∧ blk w' (w.heap.size + 1) (vfn u) 25 ∧ blk w' (w.heap.size + 2) (zbd ()) 75 ∧ blk w' (w.heap.size + 3) (prow (w.heap.size + 2)) 28 ∧ blk w' a_b (vfn (fun _ => 0)) 25 ∧ (L 6 = true → wrrr.heap.size ≤ p 6 ∧ blk w' (p 6) (bif L 7 then (vfn (fun _ => 0)) else (vfn fun _ => 0)) 25)) _ [(0, 29), (1, 30), (2, 31), (3, 28), (4, 32), (5, 33), (6, 9), (8, 10)] [0, 1, 2, 3, 4, 5, 6, 7, 8]
      case hn => rfl
      case hB => kernel_rfl
      case hds => kernel_rfl
      case hA => (intro p; simp only [putsD, Act.put, List.setIfInBounds_toArray, List.set_cons_zero, List.set_cons_succ, List.getD_cons_zero, List.getD_cons_succ]; exact rfl)
      case h0 => exact fun p => ⟨Nat.le_refl _, hB, m, l, z, c, a, fun h => absurd h (by decide)⟩
      case hmore => exact fun p L w1 w2 ⟨hsz, hB, m, l, z, c, a, h_b⟩ hm => ⟨Nat.le_trans hsz hm.size, hB.trans (hm.mono (Nat.le_trans hW0 hsz)), m.below hm m.lt, l.below hm l.lt, z.below hm z.lt, c.below hm c.lt, a.below hm a.lt, fun hl => ⟨(h_b hl).1, (h_b hl).2.below hm (h_b hl).2.lt⟩⟩
      case hs =>
        intro more
        refine stepV 0 rfl rfl (fun _ _ _ h => h) ?_ ?_
        · intros; go_simp; exact ⟨rfl, rfl⟩
        refine stepV 1 rfl rfl (fun _ _ _ h => h) ?_ ?_
        · rintro p L w1 ⟨hsz, hB, m, l, z, c, a, h_b⟩ hk
          have L7 : L 7 = false := hk.2.2 7 rfl
          first | exact valR_row _ _ rfl _ rfl _ _ l _ Try.underlying25 rfl (by first | kernel_rfl | (rw [vfn_size]; kernel_rfl)) rfl | (have hc := l.cellIs (vfn_get _ (show 0 < 3 by omega)); go_simp; exact ⟨rfl, rfl⟩)
        refine stepD 2 rfl (fun p => rfl) (fun _ _ _ h => h) more ?_ ?_
        · rintro p L w1 ⟨hsz, hB, m, l, z, c, a, h_b⟩ hk
          go_simp
          refine (bseeN v u _ (fun w9 hb9 => hvn.out w9 (z.below hb9 z.lt))).mono ?_
          rintro e w2 ⟨rfl, h2⟩
          first | exact ⟨rfl, h2⟩ | (subst h2; exact ⟨rfl, Below.refl _ _⟩)
        refine stepV 3 rfl rfl (fun _ _ _ h => h) ?_ ?_
        · intros; go_simp; exact ⟨rfl, rfl⟩
        refine stepV 4 rfl rfl (fun _ _ _ h => h) ?_ ?_
        · intros; go_simp; exact ⟨rfl, rfl⟩
        refine stepV 5 rfl rfl (fun _ _ _ h => h) ?_ ?_
        · intros; go_simp; exact ⟨rfl, rfl⟩
        refine AllI.cons ?_ ?_
        · refine stepI_alloc 6 rfl (fun p => rfl) rfl (vfn fun _ => 0) 25 (fun p => rfl) ?_ ?_
          · intro p w1
            go_simp
            first | rfl | rw [zero_vec]
          rintro p L w1 ⟨hsz, hB, m, l, z, c, a, h_b⟩ hk
          have L7 : L 7 = false := hk.2.2 7 rfl
          refine ⟨Nat.le_trans hsz (by simp), hB.alloc (Nat.le_trans (by first | exact hW0 | (have := hB.size; simp at this ⊢; omega)) hsz) _, m.alloc _, l.alloc _, z.alloc _, c.alloc _, a.alloc _, fun _ => ⟨hsz, ?_⟩⟩
          rw [show upL L 6 7 = false from L7]
          exact blk.new _ _ _
        refine AllI.cons ?_ ?_
        · refine stepI_store 7 rfl (fun p => rfl) (fun p => rfl) _ _ _ rfl (fun p => p 6) 0 (fun p => rfl) (fun p => (vfn (fun _ => 0))) (fun p => rfl) (fun p => (vfn fun _ => 0)) (fun p => (vfn (fun _ => 0))) 25 (fun p => over_v _ _) (fun p => by first | (rw [vfn_size, vfn_size]; decide) | simp [vfn_size, vfn_size]) (fun p => by rw [vfn_size]; kernel_rfl) (fun p => vfn_one _) ?_ ?_
          · rintro p L w1 ⟨hsz, hB, m, l, z, c, a, h_b⟩ hk
            have L7 : L 7 = false := hk.1
            have hh := (h_b (hk.2.1 6 rfl)).2
            rw [L7] at hh
            try simp only [cond_true, cond_false] at hh
            exact hh
          · rintro p L w1 ⟨hsz, hB, m, l, z, c, a, h_b⟩ hk
            have L7 : L 7 = false := hk.1
            skip
            have hp := h_b (hk.2.1 6 rfl)
            refine ⟨(by simpa using hsz), Below.setRow hB (by first | exact Nat.le_trans hW0 hp.1 | exact ge_b | omega | (have := hB.size; simp at this ⊢; omega)) _, m.rowOther (by first | exact Nat.ne_of_lt (Nat.lt_of_lt_of_le lt_m hp.1) | omega) _, l.rowOther (by first | exact Nat.ne_of_lt (Nat.lt_of_lt_of_le lt_l hp.1) | omega) _, z.rowOther (by first | exact Nat.ne_of_lt (Nat.lt_of_lt_of_le lt_z hp.1) | omega) _, c.rowOther (by first | exact Nat.ne_of_lt (Nat.lt_of_lt_of_le lt_c hp.1) | omega) _, a.rowOther (by first | exact Nat.ne_of_lt (Nat.lt_of_lt_of_le lt_a hp.1) | omega) _, fun _ => ⟨hp.1, ?_⟩⟩
            rw [show upL L 7 7 = true from rfl]
            exact hp.2.row _
        refine stepV 8 rfl rfl (fun _ _ _ h => h) ?_ ?_
        · intros; go_simp; exact ⟨rfl, rfl⟩
        exact AllI.nil
      case hV0 =>
        intro p q
        refine AllI.cons ?_ ?_
        · skip
          iterate 9 (refine AllI.cons (by first | exact .inl rfl | (refine .inr ?_; simp only [List.getD_cons_zero, List.getD_cons_succ]; done) | exact .inr rfl) ?_)
          exact AllI.nil
        exact AllI.nil
      case he =>
      clear hB m l z c a
      rintro p wrrrr ⟨hsz, hB, m, l, z, c, a, h_b⟩
      obtain ⟨le_b, b⟩ := h_b rfl
      clear h_b
      replace b : blk wrrrr (p 6) (vfn (fun _ => 0)) 25 := b
      have ne_m_b : w.heap.size ≠ p 6 := Nat.ne_of_lt (Nat.lt_of_lt_of_le lt_m le_b)
      have ne_l_b : (w.heap.size + 1) ≠ p 6 := Nat.ne_of_lt (Nat.lt_of_lt_of_le lt_l le_b)
      have ne_z_b : (w.heap.size + 2) ≠ p 6 := Nat.ne_of_lt (Nat.lt_of_lt_of_le lt_z le_b)
      have ne_c_b : (w.heap.size + 3) ≠ p 6 := Nat.ne_of_lt (Nat.lt_of_lt_of_le lt_c le_b)
      have ne_a_b : a_b ≠ p 6 := Nat.ne_of_lt (Nat.lt_of_lt_of_le lt_a le_b)
      have ge_b : w.heap.size ≤ p 6 := Nat.le_trans hW0 le_b
      generalize p 6 = b_b at *
      clear lt_m
      clear lt_l
      clear lt_z
      clear lt_c
      clear lt_a
      clear hsz hW0
      go_upto_region 6 with (fail)
      have lt_m := m.lt
      have lt_l := l.lt
      have lt_z := z.lt
      have lt_c := c.lt
      have lt_a := a.lt
      have lt_b := b.lt
      have hW0 : w.heap.size ≤ wrrrr.heap.size := by have := hB.size; first | exact this | simpa using this
      apply wp_region_Q 28 [0, 1, 3, 7, 15, 31, 63, 127, 255, 511, 1023, 2047, 4095, 8191, 16383, 32767, 65535, 131071, 262143, 524287, 1048575, 2097151, 4194303, 8388607, 16777215, 33554431, 67108863, 134217727] [] [_, _, _, _, _, _, _, _, _, _, _, _, _, _, _, _, _, _, _, _, _, _, _, _, _, _, _, _] (fun p L w' => wrrrr.heap.size ≤ w'.heap.size ∧ Below w.heap.size w w' ∧ blk w' w.heap.size (actc (yw, yc, yt, yi)) 70 ∧ blk w' (w.heap.size + 1) (vfn u) 25 ∧ blk w' (w.heap.size + 2) (zbd ()) 75 ∧ blk w' (w.heap.size + 3) (prow (w.heap.size + 2)) 28 ∧ blk w' a_b (vfn (fun _ => 0)) 25 ∧ blk w' b_b (vfn (fun _ => 0)) 25) _ [(0, 34), (1, 35), (2, 36), (3, 37), (4, 38), (5, 39), (6, 40), (7, 41), (8, 42), (9, 43), (10, 44), (11, 45), (12, 46), (13, 47), (14, 48), (15, 49), (16, 50), (17, 51), (18, 52), (19, 53), (20, 54), (21, 55), (22, 56), (23, 57), (24, 58), (25, 59), (26, 60), (27, 61)] [0, 1, 2, 3, 4, 5, 6, 7, 8, 9, 10, 11, 12, 13, 14, 15, 16, 17, 18, 19, 20, 21, 22, 23, 24, 25, 26, 27]
      case hn => rfl
      case hB => kernel_rfl
      case hds => kernel_rfl
      case hA => (intro p; simp only [putsD, Act.put, List.setIfInBounds_toArray, List.set_cons_zero, List.set_cons_succ, List.getD_cons_zero, List.getD_cons_succ]; exact rfl)
      case h0 => exact fun p => ⟨Nat.le_refl _, hB, m, l, z, c, a, b⟩
      case hmore => exact fun p L w1 w2 ⟨hsz, hB, m, l, z, c, a, b⟩ hm => ⟨Nat.le_trans hsz hm.size, hB.trans (hm.mono (Nat.le_trans hW0 hsz)), m.below hm m.lt, l.below hm l.lt, z.below hm z.lt, c.below hm c.lt, a.below hm a.lt, b.below hm b.lt⟩
      case hs =>
        intro more
        refine stepV 0 rfl rfl (fun _ _ _ h => h) ?_ ?_
        · rintro p L w1 ⟨hsz, hB, m, l, z, c, a, b⟩ hk
          first | exact valR_row _ _ rfl _ rfl _ _ a _ Try.underlying25 rfl (by first | kernel_rfl | (rw [vfn_size]; kernel_rfl)) rfl | (have hc := a.cellIs (vfn_get _ (show 0 < 3 by omega)); go_simp; exact ⟨rfl, rfl⟩)
        refine stepV 1 rfl rfl (fun _ _ _ h => h) ?_ ?_
        · intros; (try simp only [vfn, qfn]); go_simp; exact ⟨rfl, rfl⟩
        refine stepV 2 rfl rfl (fun _ _ _ h => h) ?_ ?_
        · intros; go_simp; exact ⟨rfl, rfl⟩
        refine stepV 3 rfl rfl (fun _ _ _ h => h) ?_ ?_
        · intros; go_simp; exact ⟨rfl, rfl⟩
        refine stepVg 4 rfl (fun p => (by first | rfl | (simp [Region.wanted, yielded]; done))) (fun _ _ _ h => h) ?_ ?_
        · intros; go_simp; exact ⟨rfl, rfl⟩
        refine stepVg 5 rfl (fun p => (by first | rfl | (simp [Region.wanted, yielded]; done))) (fun _ _ _ h => h) ?_ ?_
        · intros; go_simp; exact ⟨rfl, rfl⟩
        refine stepV 6 rfl rfl (fun _ _ _ h => h) ?_ ?_
        · intros; go_simp; exact ⟨rfl, rfl⟩
        refine stepV 7 rfl rfl (fun _ _ _ h => h) ?_ ?_
        · intros; go_simp; exact ⟨rfl, rfl⟩
        refine stepVg 8 rfl (fun p => (by first | rfl | (simp [Region.wanted, yielded]; done))) (fun _ _ _ h => h) ?_ ?_
        · rintro p L w1 ⟨hsz, hB, m, l, z, c, a, b⟩ hk
          first | exact valR_row _ _ rfl _ rfl _ _ b _ Try.underlying25 rfl (by first | kernel_rfl | (rw [vfn_size]; kernel_rfl)) rfl | (have hc := b.cellIs (vfn_get _ (show 0 < 3 by omega)); go_simp; exact ⟨rfl, rfl⟩)
        refine stepVg 9 rfl (fun p => (by first | rfl | (simp [Region.wanted, yielded]; done))) (fun _ _ _ h => h) ?_ ?_
        · intros; (try simp only [vfn, qfn]); go_simp; exact ⟨rfl, rfl⟩
        refine stepVg 10 rfl (fun p => (by first | rfl | (simp [Region.wanted, yielded]; done))) (fun _ _ _ h => h) ?_ ?_
        · intros; go_simp; exact ⟨rfl, rfl⟩
        refine stepV 11 rfl rfl (fun _ _ _ h => h) ?_ ?_
        · intros; go_simp; exact ⟨rfl, rfl⟩
        refine stepV 12 rfl rfl (fun _ _ _ h => h) ?_ ?_
        · intros; go_simp; exact ⟨rfl, rfl⟩
        refine stepVg 13 rfl (fun p => (by first | rfl | (simp [Region.wanted, yielded]; done))) (fun _ _ _ h => h) ?_ ?_
        · intros; go_simp; exact ⟨rfl, rfl⟩
        refine stepVg 14 rfl (fun p => (by first | rfl | (simp [Region.wanted, yielded]; done))) (fun _ _ _ h => h) ?_ ?_
        · intros; go_simp; exact ⟨rfl, rfl⟩
        refine stepV 15 rfl rfl (fun _ _ _ h => h) ?_ ?_
        · intros; go_simp; exact ⟨rfl, rfl⟩
        refine stepV 16 rfl rfl (fun _ _ _ h => h) ?_ ?_
        · intros; go_simp; exact ⟨rfl, rfl⟩
        refine stepVg 17 rfl (fun p => (by first | rfl | (simp [Region.wanted, yielded]; done))) (fun _ _ _ h => h) ?_ ?_
        · intros; go_simp; exact ⟨rfl, rfl⟩
        refine stepVg 18 rfl (fun p => (by first | rfl | (simp [Region.wanted, yielded]; done))) (fun _ _ _ h => h) ?_ ?_
        · intros; go_simp; exact ⟨rfl, rfl⟩
        refine stepVg 19 rfl (fun p => (by first | rfl | (simp [Region.wanted, yielded]; done))) (fun _ _ _ h => h) ?_ ?_
        · rintro p L w1 ⟨hsz, hB, m, l, z, c, a, b⟩ hk
          have hc : w1.cell? ⟨w.heap.size, 8, none⟩ = some (.int .i64 yi) := m.cellIs rfl
          go_simp
          exact ⟨rfl, rfl⟩
        refine stepD 20 rfl (fun p => (by first | rfl | (simp [Region.wanted, yielded]; done))) (fun _ _ _ h => h) more ?_ ?_
        · rintro p L w1 ⟨hsz, hB, m, l, z, c, a, b⟩ hk
          go_simp
          refine (bfailN v yi _ (fun w9 hb9 => hvn.out w9 (z.below hb9 z.lt))).mono ?_
          rintro e w2 ⟨rfl, h2⟩
          first | exact ⟨rfl, h2⟩ | (subst h2; exact ⟨rfl, Below.refl _ _⟩)
        refine stepVg 21 rfl (fun p => (by first | rfl | (simp [Region.wanted, yielded]; done))) (fun _ _ _ h => h) ?_ ?_
        · intros; go_simp; exact ⟨rfl, rfl⟩
        refine stepV 22 rfl rfl (fun _ _ _ h => h) ?_ ?_
        · intros; go_simp; exact ⟨rfl, rfl⟩
        refine stepV 23 rfl rfl (fun _ _ _ h => h) ?_ ?_
        · intros; go_simp; exact ⟨rfl, rfl⟩
        refine stepVg 24 rfl (fun p => (by first | rfl | (simp [Region.wanted, yielded]; done))) (fun _ _ _ h => h) ?_ ?_
        · intros; go_simp; exact ⟨rfl, rfl⟩
        refine stepD 25 rfl (fun p => (by first | rfl | (simp [Region.wanted, yielded]; done))) (fun _ _ _ h => h) more ?_ ?_
        · rintro p L w1 ⟨hsz, hB, m, l, z, c, a, b⟩ hk
          go_simp
          refine (bfailedN v _ (fun w9 hb9 => hvn.out w9 (z.below hb9 z.lt))).mono ?_
          rintro e w2 ⟨rfl, h2⟩
          first | exact ⟨rfl, h2⟩ | (subst h2; exact ⟨rfl, Below.refl _ _⟩)
        refine stepVg 26 rfl (fun p => (by first | rfl | (simp [Region.wanted, yielded]; done))) (fun _ _ _ h => h) ?_ ?_
        · intros; go_simp; exact ⟨rfl, rfl⟩
        refine stepV 27 rfl rfl (fun _ _ _ h => h) ?_ ?_
        · intros; go_simp; exact ⟨rfl, rfl⟩
        exact AllI.nil
      case hV0 => exact fun p q => AllI.nil
      case he =>
      clear hB m l z c a b
      rintro p wrrrrr ⟨hsz, hB, m, l, z, c, a, b⟩
      clear lt_m
      clear lt_l
      clear lt_z
      clear lt_c
      clear lt_a
      clear lt_b
      clear hsz hW0
      go_upto_region 8 with (fail)
      have lt_m := m.lt
      have lt_l := l.lt
      have lt_z := z.lt
      have lt_c := c.lt
      have lt_a := a.lt
      have lt_b := b.lt
      have hW0 : w.heap.size ≤ wrrrrr.heap.size := by have := hB.size; first | exact this | simpa using this
      apply wp_region_Q 28 [0, 1, 3, 7, 15, 31, 63, 127, 255, 511, 1023, 2047, 4095, 8191, 16383, 32767, 65535, 131071, 262143, 524287, 1048575, 2097151, 4194303, 8388607, 16777215, 33554431, 67108863, 134217727] [] [_, _, _, _, _, _, _, _, _, _, _, _, _, _, _, _, _, _, _, _, _, _, _, _, _, _, _, _] (fun p L w' => wrrrrr.heap.size ≤ w'.heap.size ∧ Below w.heap.size w w' ∧ blk w' w.heap.size (actc (yw, yc, yt, yi)) 70 ∧ blk w' (w.heap.size + 1) (vfn u) 25 ∧ blk w' (w.heap.size + 2) (zbd ()) 75 ∧ blk w' (w.heap.size + 3) (prow (w.heap.size + 2)) 28 ∧ blk w' a_b (vfn (fun _ => 0)) 25 ∧ blk w' b_b (vfn (fun _ => 0)) 25) _ [(0, 62), (1, 63), (2, 64), (3, 65), (4, 66), (5, 67), (6, 68), (7, 69), (8, 70), (9, 71), (10, 72), (11, 73), (12, 74), (13, 75), (14, 76), (15, 77), (16, 78), (17, 79), (18, 80), (19, 81), (20, 82), (21, 83), (22, 84), (23, 85), (24, 86), (25, 87), (26, 88), (27, 89)] [0, 1, 2, 3, 4, 5, 6, 7, 8, 9, 10, 11, 12, 13, 14, 15, 16, 17, 18, 19, 20, 21, 22, 23, 24, 25, 26, 27]
      case hn => rfl
      case hB => kernel_rfl
      case hds => kernel_rfl
      case hA => (intro p; simp only [putsD, Act.put, List.setIfInBounds_toArray, List.set_cons_zero, List.set_cons_succ, List.getD_cons_zero, List.getD_cons_succ]; exact rfl)
      case h0 => exact fun p => ⟨Nat.le_refl _, hB, m, l, z, c, a, b⟩
      case hmore => exact fun p L w1 w2 ⟨hsz, hB, m, l, z, c, a, b⟩ hm => ⟨Nat.le_trans hsz hm.size, hB.trans (hm.mono (Nat.le_trans hW0 hsz)), m.below hm m.lt, l.below hm l.lt, z.below hm z.lt, c.below hm c.lt, a.below hm a.lt, b.below hm b.lt⟩
      case hs =>
        intro more
        refine stepV 0 rfl rfl (fun _ _ _ h => h) ?_ ?_
        · intros; go_simp; exact ⟨rfl, rfl⟩
        refine stepD 1 rfl (fun p => rfl) (fun _ _ _ h => h) more ?_ ?_
        · rintro p L w1 ⟨hsz, hB, m, l, z, c, a, b⟩ hk
          go_simp
          refine (bspeedsN v _ (fun w9 hb9 => hvn.out w9 (z.below hb9 z.lt))).mono ?_
          rintro e w2 ⟨rfl, h2⟩
          first | exact ⟨rfl, h2⟩ | (subst h2; exact ⟨rfl, Below.refl _ _⟩)
        refine stepV 2 rfl rfl (fun _ _ _ h => h) ?_ ?_
        · intros; (try simp only [vfn, qfn]); go_simp; exact ⟨rfl, rfl⟩
        refine stepV 3 rfl rfl (fun _ _ _ h => h) ?_ ?_
        · intros; go_simp; exact ⟨rfl, rfl⟩
        refine stepV 4 rfl rfl (fun _ _ _ h => h) ?_ ?_
        · intros; go_simp; exact ⟨rfl, rfl⟩
        refine stepVg 5 rfl (fun p => (by first | rfl | (simp [Region.wanted, yielded]; done))) (fun _ _ _ h => h) ?_ ?_
        · intros; go_simp; exact ⟨rfl, rfl⟩
        refine stepD 6 rfl (fun p => (by first | rfl | (simp [Region.wanted, yielded]; done))) (fun _ _ _ h => h) more ?_ ?_
        · rintro p L w1 ⟨hsz, hB, m, l, z, c, a, b⟩ hk
          go_simp
          refine (battitudeN v _ (fun w9 hb9 => hvn.out w9 (z.below hb9 z.lt))).mono ?_
          rintro e w2 ⟨rfl, h2⟩
          first | exact ⟨rfl, h2⟩ | (subst h2; exact ⟨rfl, Below.refl _ _⟩)
        refine stepVg 7 rfl (fun p => (by first | rfl | (simp [Region.wanted, yielded]; done))) (fun _ _ _ h => h) ?_ ?_
        · intros; (try simp only [vfn, qfn]); go_simp; exact ⟨rfl, rfl⟩
        refine stepVg 8 rfl (fun p => (by first | rfl | (simp [Region.wanted, yielded]; done))) (fun _ _ _ h => h) ?_ ?_
        · intros; go_simp; exact ⟨rfl, rfl⟩
        refine stepV 9 rfl rfl (fun _ _ _ h => h) ?_ ?_
        · intros; go_simp; exact ⟨rfl, rfl⟩
        refine stepV 10 rfl rfl (fun _ _ _ h => h) ?_ ?_
        · intros; go_simp; exact ⟨rfl, rfl⟩
        refine stepVg 11 rfl (fun p => (by first | rfl | (simp [Region.wanted, yielded]; done))) (fun _ _ _ h => h) ?_ ?_
        · intros; go_simp; exact ⟨rfl, rfl⟩
        refine stepD 12 rfl (fun p => (by first | rfl | (simp [Region.wanted, yielded]; done))) (fun _ _ _ h => h) more ?_ ?_
        · rintro p L w1 ⟨hsz, hB, m, l, z, c, a, b⟩ hk
          go_simp
          refine (btotalN v _ (fun w9 hb9 => hvn.out w9 (z.below hb9 z.lt))).mono ?_
          rintro e w2 ⟨rfl, h2⟩
          first | exact ⟨rfl, h2⟩ | (subst h2; exact ⟨rfl, Below.refl _ _⟩)
        refine stepVg 13 rfl (fun p => (by first | rfl | (simp [Region.wanted, yielded]; done))) (fun _ _ _ h => h) ?_ ?_
        · intros; (try simp only [vfn, qfn]); go_simp; exact ⟨rfl, rfl⟩
        refine stepVg 14 rfl (fun p => (by first | rfl | (simp [Region.wanted, yielded]; done))) (fun _ _ _ h => h) ?_ ?_
        · intros; go_simp; exact ⟨rfl, rfl⟩
        refine stepV 15 rfl rfl (fun _ _ _ h => h) ?_ ?_
        · intros; go_simp; exact ⟨rfl, rfl⟩
        refine stepV 16 rfl rfl (fun _ _ _ h => h) ?_ ?_
        · intros; go_simp; exact ⟨rfl, rfl⟩
        refine stepVg 17 rfl (fun p => (by first | rfl | (simp [Region.wanted, yielded]; done))) (fun _ _ _ h => h) ?_ ?_
        · intros; go_simp; exact ⟨rfl, rfl⟩
        refine stepD 18 rfl (fun p => (by first | rfl | (simp [Region.wanted, yielded]; done))) (fun _ _ _ h => h) more ?_ ?_
        · rintro p L w1 ⟨hsz, hB, m, l, z, c, a, b⟩ hk
          go_simp
          refine (bmomentumN v _ (fun w9 hb9 => hvn.out w9 (z.below hb9 z.lt))).mono ?_
          rintro e w2 ⟨rfl, h2⟩
          first | exact ⟨rfl, h2⟩ | (subst h2; exact ⟨rfl, Below.refl _ _⟩)
        refine stepVg 19 rfl (fun p => (by first | rfl | (simp [Region.wanted, yielded]; done))) (fun _ _ _ h => h) ?_ ?_
        · intros; (try simp only [vfn, qfn]); go_simp; exact ⟨rfl, rfl⟩
        refine stepVg 20 rfl (fun p => (by first | rfl | (simp [Region.wanted, yielded]; done))) (fun _ _ _ h => h) ?_ ?_
        · intros; go_simp; exact ⟨rfl, rfl⟩
        refine stepV 21 rfl rfl (fun _ _ _ h => h) ?_ ?_
        · intros; go_simp; exact ⟨rfl, rfl⟩
        refine stepV 22 rfl rfl (fun _ _ _ h => h) ?_ ?_
        · intros; go_simp; exact ⟨rfl, rfl⟩
        refine stepVg 23 rfl (fun p => (by first | rfl | (simp [Region.wanted, yielded]; done))) (fun _ _ _ h => h) ?_ ?_
        · intros; go_simp; exact ⟨rfl, rfl⟩
        refine stepD 24 rfl (fun p => (by first | rfl | (simp [Region.wanted, yielded]; done))) (fun _ _ _ h => h) more ?_ ?_
        · rintro p L w1 ⟨hsz, hB, m, l, z, c, a, b⟩ hk
          go_simp
          refine (brateN v _ (fun w9 hb9 => hvn.out w9 (z.below hb9 z.lt))).mono ?_
          rintro e w2 ⟨rfl, h2⟩
          first | exact ⟨rfl, h2⟩ | (subst h2; exact ⟨rfl, Below.refl _ _⟩)
        refine stepVg 25 rfl (fun p => (by first | rfl | (simp [Region.wanted, yielded]; done))) (fun _ _ _ h => h) ?_ ?_
        · intros; (try simp only [vfn, qfn]); go_simp; exact ⟨rfl, rfl⟩
        refine stepVg 26 rfl (fun p => (by first | rfl | (simp [Region.wanted, yielded]; done))) (fun _ _ _ h => h) ?_ ?_
        · intros; go_simp; exact ⟨rfl, rfl⟩
        refine stepV 27 rfl rfl (fun _ _ _ h => h) ?_ ?_
        · intros; go_simp; exact ⟨rfl, rfl⟩
        exact AllI.nil
      case hV0 => exact fun p q => AllI.nil
      case he =>
      clear hB m l z c a b
      rintro p wrrrrrr ⟨hsz, hB, m, l, z, c, a, b⟩
      clear lt_m
      clear lt_l
      clear lt_z
      clear lt_c
      clear lt_a
      clear lt_b
      clear hsz hW0
      go_wp2_with (fail)
      clear a b
      go_roundg (2 - (k + 1))
      case rel =>
        exact ⟨k + 1, by omega, rfl, m, l, z, c, hB⟩
      case measure => omega
    · obtain rfl : k = 2 := by omega
      have AW := Lib.hid (fun w => awake24_any w)
      go_wp2_with (first
        | (go_at_call 16; with_reducible refine (AW.out _).mono ?_; rintro e w9 ⟨rfl, hb⟩; replace hB := hB.trans (hb.mono hB.size); replace m := m.below hb m.lt; replace l := l.below hb l.lt; replace z := z.below hb z.lt; replace c := c.below hb c.lt; clear hb))
      go_ret
      exact ⟨rfl, hB⟩
end Go.Proofs.Ytjnocbjngojigaa
