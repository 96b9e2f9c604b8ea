/-
  Objects of chapter 21 that are nil or were not made.
-/
import Derived.Test.YtnkjbdfhdenbcaaAw21
set_option linter.unusedSimpArgs false
set_option linter.unusedVariables false
namespace Go.Proofs.Ytnkjbdfhdenbcaa
open Go.RowKit PM Dt
/-- A call of gyros, as it lies in memory. -/
def mot (x : Bool × (Nat → Int) × (Nat → Int)) : Array Value := #[.bool x.1, .int .i64 (x.2.1 0), .int .i64 (x.2.1 1), .int .i64 (x.2.1 2), .int .i64 (x.2.2 0), .int .i64 (x.2.2 1), .int .i64 (x.2.2 2)]
theorem mot_size (x : Bool × (Nat → Int) × (Nat → Int)) : (mot x).size = 7 := rfl
theorem mot_a (x : Bool × (Nat → Int) × (Nat → Int)) (j : Nat) (hj : j < (vfn x.2.1).size) : (mot x)[1 + j]? = (vfn x.2.1)[j]? := by
  rw [vfn_size] at hj; rw [vfn_get _ hj]
  rcases (show j = 0 ∨ j = 1 ∨ j = 2 by omega) with rfl | rfl | rfl <;> rfl
theorem mot_b (x : Bool × (Nat → Int) × (Nat → Int)) (j : Nat) (hj : j < (vfn x.2.2).size) : (mot x)[4 + j]? = (vfn x.2.2)[j]? := by
  rw [vfn_size] at hj; rw [vfn_get _ hj]
  rcases (show j = 0 ∨ j = 1 ∨ j = 2 by omega) with rfl | rfl | rfl <;> rfl
/-- A call of a filter, as it lies in memory. -/
def lok (x : Bool × (Nat → Int) × (Nat → Int)) : Array Value := #[.bool x.1, .int .i64 (x.2.1 0), .int .i64 (x.2.1 1), .int .i64 (x.2.1 2), .int .i64 (x.2.2 0), .int .i64 (x.2.2 1), .int .i64 (x.2.2 2), .int .i64 (x.2.2 3)]
theorem lok_size (x : Bool × (Nat → Int) × (Nat → Int)) : (lok x).size = 8 := rfl
theorem lok_r (x : Bool × (Nat → Int) × (Nat → Int)) (j : Nat) (hj : j < (vfn x.2.1).size) : (lok x)[1 + j]? = (vfn x.2.1)[j]? := by
  rw [vfn_size] at hj; rw [vfn_get _ hj]
  rcases (show j = 0 ∨ j = 1 ∨ j = 2 by omega) with rfl | rfl | rfl <;> rfl
theorem lok_q (x : Bool × (Nat → Int) × (Nat → Int)) (j : Nat) (hj : j < (qfn x.2.2).size) : (lok x)[4 + j]? = (qfn x.2.2)[j]? := by
  rw [qfn_size] at hj; rw [qfn_get _ hj]
  rcases (show j = 0 ∨ j = 1 ∨ j = 2 ∨ j = 3 by omega) with rfl | rfl | rfl | rfl <;> rfl
/-- A row of nil and a pointer. -/
def prow (b : Nat) : Array Value := #[.pointer none, .pointer (some ⟨b, 0, none⟩)]
set_option maxRecDepth 100000 in
set_option maxHeartbeats 2000000 in
theorem gread_none (v : Value) (R Z : Nat → Int) (w : World) (hn : ∀ w', Below w.heap.size w w' → Calls Try.prog 78 #[v] w' fun e w2 => e = .returned (.bool true) ∧ w' = w2) : Calls Try.prog 34 #[v, .agg (vfn R), .agg (vfn Z)] w fun e w' => e = .returned (.tuple #[.agg (vfn fun _ => 0), .int .i64 1]) ∧ Below w.heap.size w w' := by
  have NN := Lib.hid hn
  clear hn
  go_enter Try.func34, Try.ntmps34
  go_upto_region 1 with (fail)
  simp only [zero_vec]
  have a : blk (((w.alloc (.cells (vfn R) 39)).alloc (.cells (vfn Z) 39)).alloc (.cells (vfn fun _ => 0) 39)) w.heap.size (vfn R) 39 := ((blk.new _ _ _).alloc _).alloc _
  have c : blk (((w.alloc (.cells (vfn R) 39)).alloc (.cells (vfn Z) 39)).alloc (.cells (vfn fun _ => 0) 39)) (w.heap.size + 1) (vfn Z) 39 := (blk.new' (by simp)).alloc _
  have r : blk (((w.alloc (.cells (vfn R) 39)).alloc (.cells (vfn Z) 39)).alloc (.cells (vfn fun _ => 0) 39)) (w.heap.size + 2) (vfn fun _ => 0) 39 := blk.new' (by simp)
  have hB : Below w.heap.size w (((w.alloc (.cells (vfn R) 39)).alloc (.cells (vfn Z) 39)).alloc (.cells (vfn fun _ => 0) 39)) := by go_grown
  generalize (((w.alloc (.cells (vfn R) 39)).alloc (.cells (vfn Z) 39)).alloc (.cells (vfn fun _ => 0) 39)) = w0 at *
  go_wp2_with (first
    | (go_at_call 78; with_reducible refine (NN.out _ hB).mono ?_; rintro e w9 ⟨rfl, rfl⟩)
    | (rw [zero_vec]; refine wpList_store_row rfl _ _ _ rfl _ rfl _ rfl _ _ r (by first | kernel_rfl | (rw [vfn_size]; kernel_rfl)) (by first | rfl | simp only [vfn_size]) (by first | exact vfn_one _ | rfl) ?_))
  refine bodyPost_ret (results_vec rfl _ _ _ _ _ _ _ rfl (r.row (vfn (fun _ => 0))) Try.underlying39 rfl (by first | kernel_rfl | (rw [vfn_size]; kernel_rfl))) rfl ?_
  refine ⟨?_, Below.setRow hB (by omega) _⟩
  rfl
set_option maxRecDepth 100000 in
set_option maxHeartbeats 8000000 in
theorem gnones_any (x y : Bool × (Nat → Int) × (Nat → Int)) (w : World) : Calls Try.prog 10 #[.agg (mot x), .agg (lok y)] w fun e w' => e = .returned (.bool true) ∧ Below w.heap.size w w' := by
  have E0 : ∀ w, (Op.equalIn 10000 39 (.agg (vfn fun _ => 0)) (.agg #[.int .i64 0, .int .i64 0, .int .i64 0])).run Try.prog w = .ok true w := fun w => by rw [zero_vec]; exact vec_eq_self _ w
  have E1 : ∀ w, (Op.equalIn 10000 46 (.agg (qfn fun _ => 0)) (.agg #[.int .i64 0, .int .i64 0, .int .i64 0, .int .i64 0])).run Try.prog w = .ok true w := fun w => by rw [zero_quat]; exact quat_eq_self _ w
  go_enter Try.func10, Try.ntmps10
  go_wp2_with (fail)
  simp only [show #[Value.int .i64 0, .int .i64 0, .int .i64 0, .int .i64 0] = qfn fun _ => 0 from zero_quat, show #[Value.pointer none, .pointer (some ⟨w.heap.size + 2, 0, none⟩)] = prow (w.heap.size + 2) from rfl]
  have m : blk ((((w.alloc (.cells (mot x) 66)).alloc (.cells (lok y) 78)).alloc (.cells (qfn (fun _ => 0)) 88)).alloc (.cells (prow (w.heap.size + 2)) 58)) w.heap.size (mot x) 66 := (((blk.new _ _ _).alloc _).alloc _).alloc _
  have l : blk ((((w.alloc (.cells (mot x) 66)).alloc (.cells (lok y) 78)).alloc (.cells (qfn (fun _ => 0)) 88)).alloc (.cells (prow (w.heap.size + 2)) 58)) (w.heap.size + 1) (lok y) 78 := ((blk.new' (by simp)).alloc _).alloc _
  have z : blk ((((w.alloc (.cells (mot x) 66)).alloc (.cells (lok y) 78)).alloc (.cells (qfn (fun _ => 0)) 88)).alloc (.cells (prow (w.heap.size + 2)) 58)) (w.heap.size + 2) (qfn (fun _ => 0)) 88 := (blk.new' (by simp)).alloc _
  have c : blk ((((w.alloc (.cells (mot x) 66)).alloc (.cells (lok y) 78)).alloc (.cells (qfn (fun _ => 0)) 88)).alloc (.cells (prow (w.heap.size + 2)) 58)) (w.heap.size + 3) (prow (w.heap.size + 2)) 58 := blk.new' (by simp)
  have hB : Below w.heap.size w ((((w.alloc (.cells (mot x) 66)).alloc (.cells (lok y) 78)).alloc (.cells (qfn (fun _ => 0)) 88)).alloc (.cells (prow (w.heap.size + 2)) 58)) := by go_grown
  generalize ((((w.alloc (.cells (mot x) 66)).alloc (.cells (lok y) 78)).alloc (.cells (qfn (fun _ => 0)) 88)).alloc (.cells (prow (w.heap.size + 2)) 58)) = w0 at *
  go_loopg [15] 2 (fun g_ iv wr => ∃ k : Nat, g_ + k = 2 ∧ iv = .int .i64 k ∧ blk wr w.heap.size (mot x) 66 ∧ blk wr (w.heap.size + 1) (lok y) 78 ∧ blk wr (w.heap.size + 2) (qfn (fun _ => 0)) 88 ∧ blk wr (w.heap.size + 3) (prow (w.heap.size + 2)) 58 ∧ Below w.heap.size w wr)
  case atStart => exact ⟨0, rfl, rfl, m, l, z, c, hB⟩
  case round =>
    clear m l z c hB
    obtain ⟨k, hk, rfl, m, l, z, c, hB⟩ := hrel
    by_cases hkn : k < 2
    · have hdk : decide ((k : Int) < 2) = true := decide_eq_true (by omega)
      have hdk' : decide (k < 2) = true := decide_eq_true (by omega)
      have hk3 : (k : Int) < 2 := by omega
      have hk0 : (0 : Int) ≤ k := by omega
      have hw3 : IntKind.i64.wrap ((k : Int) + 1) = ((k + 1 : Nat) : Int) := by rw [IntKind.wrap_i64]; omega
      obtain ⟨v, hcv, hvn⟩ : ∃ v, (prow (w.heap.size + 2))[k]? = some v ∧ ∀ w', blk w' (w.heap.size + 2) (qfn (fun _ => 0)) 88 → Calls Try.prog 78 #[v] w' fun e w2 => e = .returned (.bool true) ∧ w' = w2 := by
        rcases (show k = 0 ∨ k = 1 by omega) with rfl | rfl
        · exact ⟨_, rfl, fun w' _ => gnoneN_any w'⟩
        · exact ⟨_, rfl, fun w' hz => (gnone_any (fun _ => 0) _ w' hz).mono fun e w2 h => ⟨h.1, h.2⟩⟩
      replace hvn := Lib.hid hvn
      go_upto_region 3 with (fail)
      have lt_m := m.lt
      have lt_l := l.lt
      have lt_z := z.lt
      have lt_c := c.lt
      have hW0 : w.heap.size ≤ wr.heap.size := by have := hB.size; first | exact this | simpa using this
      apply wp_region_Q 3 [0, 1, 3] [] [_, _, _] (fun p L w' => wr.heap.size ≤ w'.heap.size ∧ Below w.heap.size w w' ∧ blk w' w.heap.size (mot x) 66 ∧ blk w' (w.heap.size + 1) (lok y) 78 ∧ blk w' (w.heap.size + 2) (qfn (fun _ => 0)) 88 ∧ blk w' (w.heap.size + 3) (prow (w.heap.size + 2)) 58) _ [(0, 17), (1, 18), (2, 6)] [0, 1, 2]
      case hn => rfl
      case hB => kernel_rfl
      case hds => kernel_rfl
      case hA => (intro p; simp only [putsD, Act.put, List.setIfInBounds_toArray, List.set_cons_zero, List.set_cons_succ, List.getD_cons_zero, List.getD_cons_succ]; exact rfl)
      case h0 => exact fun p => ⟨Nat.le_refl _, hB, m, l, z, c⟩
      case hmore => exact fun p L w1 w2 ⟨hsz, hB, m, l, z, c⟩ hm => ⟨Nat.le_trans hsz hm.size, hB.trans (hm.mono (Nat.le_trans hW0 hsz)), m.below hm m.lt, l.below hm l.lt, z.below hm z.lt, c.below hm c.lt⟩
      case hs =>
        intro more
        refine stepV 0 rfl rfl (fun _ _ _ h => h) ?_ ?_
        · intros; go_simp; exact ⟨rfl, rfl⟩
        refine stepV 1 rfl rfl (fun _ _ _ h => h) ?_ ?_
        · rintro p L w1 ⟨hsz, hB, m, l, z, c⟩ hk
          have hc : w1.cell? ⟨w.heap.size + 3, k, none⟩ = some (v) := c.cellIs hcv
          go_simp
          exact ⟨rfl, rfl⟩
        refine stepV 2 rfl rfl (fun _ _ _ h => h) ?_ ?_
        · intros; go_simp; exact ⟨rfl, rfl⟩
        exact AllI.nil
      case hV0 => exact fun p q => AllI.nil
      case he =>
      clear hB m l z c
      rintro p wrr ⟨hsz, hB, m, l, z, c⟩
      clear lt_m
      clear lt_l
      clear lt_z
      clear lt_c
      clear hsz hW0
      go_upto_region 4 with (fail)
      have lt_m := m.lt
      have lt_l := l.lt
      have lt_z := z.lt
      have lt_c := c.lt
      have hW0 : w.heap.size ≤ wrr.heap.size := by have := hB.size; first | exact this | simpa using this
      apply wp_region_Q 12 [0, 1, 3, 7, 15, 31, 63, 127, 255, 511, 1023, 2047] [9] [_, _, _, _, _, _, _, _, _, (fun p => .pointer (some ⟨p 9, 0, none⟩)), (fun _ => undef), _] (fun p L w' => wrr.heap.size ≤ w'.heap.size ∧ Below w.heap.size w w' ∧ blk w' w.heap.size (mot x) 66 ∧ blk w' (w.heap.size + 1) (lok y) 78 ∧ blk w' (w.heap.size + 2) (qfn (fun _ => 0)) 88 ∧ blk w' (w.heap.size + 3) (prow (w.heap.size + 2)) 58 ∧ (L 9 = true → wrr.heap.size ≤ p 9 ∧ blk w' (p 9) (bif L 10 then (vfn (fun _ => 0)) else (vfn fun _ => 0)) 39)) _ [(0, 20), (1, 21), (2, 22), (3, 23), (4, 24), (5, 25), (6, 19), (7, 26), (8, 27), (9, 7), (11, 8)] [0, 1, 2, 3, 4, 5, 6, 7, 8, 9, 10, 11]
      case hn => rfl
      case hB => kernel_rfl
      case hds => kernel_rfl
      case hA => (intro p; simp only [putsD, Act.put, List.setIfInBounds_toArray, List.set_cons_zero, List.set_cons_succ, List.getD_cons_zero, List.getD_cons_succ]; exact rfl)
      case h0 => exact fun p => ⟨Nat.le_refl _, hB, m, l, z, c, fun h => absurd h (by decide)⟩
      case hmore => exact fun p L w1 w2 ⟨hsz, hB, m, l, z, c, h_r⟩ hm => ⟨Nat.le_trans hsz hm.size, hB.trans (hm.mono (Nat.le_trans hW0 hsz)), m.below hm m.lt, l.below hm l.lt, z.below hm z.lt, c.below hm c.lt, fun hl => ⟨(h_r hl).1, (h_r hl).2.below hm (h_r hl).2.lt⟩⟩
      case hs =>
        intro more
        refine stepV 0 rfl rfl (fun _ _ _ h => h) ?_ ?_
        · intros; go_simp; exact ⟨rfl, rfl⟩
        refine stepV 1 rfl rfl (fun _ _ _ h => h) ?_ ?_
        · intros; go_simp; exact ⟨rfl, rfl⟩
        refine stepV 2 rfl rfl (fun _ _ _ h => h) ?_ ?_
        · rintro p L w1 ⟨hsz, hB, m, l, z, c, h_r⟩ hk
          have L10 : L 10 = false := hk.2.2 10 rfl
          exact valR_part _ _ rfl _ 1 rfl _ _ m (vfn x.2.1) (mot_a x) _ Try.underlying39 rfl (by rw [vfn_size]; kernel_rfl) rfl
        refine stepV 3 rfl rfl (fun _ _ _ h => h) ?_ ?_
        · intros; go_simp; exact ⟨rfl, rfl⟩
        refine stepV 4 rfl rfl (fun _ _ _ h => h) ?_ ?_
        · rintro p L w1 ⟨hsz, hB, m, l, z, c, h_r⟩ hk
          have L10 : L 10 = false := hk.2.2 10 rfl
          exact valR_part _ _ rfl _ 4 rfl _ _ m (vfn x.2.2) (mot_b x) _ Try.underlying39 rfl (by rw [vfn_size]; kernel_rfl) rfl
        refine stepD 5 rfl (fun p => rfl) (fun _ _ _ h => h) more ?_ ?_
        · rintro p L w1 ⟨hsz, hB, m, l, z, c, h_r⟩ hk
          go_simp
          refine (gread_none v x.2.1 x.2.2 _ (fun w9 hb9 => hvn.out w9 (z.below hb9 z.lt))).mono ?_
          rintro e w2 ⟨rfl, h2⟩
          first | exact ⟨rfl, h2⟩ | (subst h2; exact ⟨rfl, Below.refl _ _⟩)
        refine stepV 6 rfl rfl (fun _ _ _ h => h) ?_ ?_
        · intros; go_simp; exact ⟨rfl, rfl⟩
        refine stepV 7 rfl rfl (fun _ _ _ h => h) ?_ ?_
        · intros; go_simp; exact ⟨rfl, rfl⟩
        refine stepV 8 rfl rfl (fun _ _ _ h => h) ?_ ?_
        · intros; go_simp; exact ⟨rfl, rfl⟩
        refine AllI.cons ?_ ?_
        · refine stepI_alloc 9 rfl (fun p => rfl) rfl (vfn fun _ => 0) 39 (fun p => rfl) ?_ ?_
          · intro p w1
            go_simp
            first | rfl | rw [zero_vec]
          rintro p L w1 ⟨hsz, hB, m, l, z, c, h_r⟩ hk
          have L10 : L 10 = false := hk.2.2 10 rfl
          refine ⟨Nat.le_trans hsz (by simp), hB.alloc (Nat.le_trans (by first | exact hW0 | (have := hB.size; simp at this ⊢; omega)) hsz) _, m.alloc _, l.alloc _, z.alloc _, c.alloc _, fun _ => ⟨hsz, ?_⟩⟩
          rw [show upL L 9 10 = false from L10]
          exact blk.new _ _ _
        refine AllI.cons ?_ ?_
        · refine stepI_store 10 rfl (fun p => rfl) (fun p => rfl) _ _ _ rfl (fun p => p 9) 0 (fun p => rfl) (fun p => (vfn (fun _ => 0))) (fun p => rfl) (fun p => (vfn fun _ => 0)) (fun p => (vfn (fun _ => 0))) 39 (fun p => over_v _ _) (fun p => by first | (rw [vfn_size, vfn_size]; decide) | simp [vfn_size, vfn_size]) (fun p => by rw [vfn_size]; kernel_rfl) (fun p => vfn_one _) ?_ ?_
          · rintro p L w1 ⟨hsz, hB, m, l, z, c, h_r⟩ hk
            have L10 : L 10 = false := hk.1
            have hh := (h_r (hk.2.1 9 rfl)).2
            rw [L10] at hh
            try simp only [cond_true, cond_false] at hh
            exact hh
          · rintro p L w1 ⟨hsz, hB, m, l, z, c, h_r⟩ hk
            have L10 : L 10 = false := hk.1
            skip
            have hp := h_r (hk.2.1 9 rfl)
            refine ⟨(by simpa using hsz), Below.setRow hB (by first | exact Nat.le_trans hW0 hp.1 | exact ge_r | omega | (have := hB.size; simp at this ⊢; omega)) _, m.rowOther (by first | exact Nat.ne_of_lt (Nat.lt_of_lt_of_le lt_m hp.1) | omega) _, l.rowOther (by first | exact Nat.ne_of_lt (Nat.lt_of_lt_of_le lt_l hp.1) | omega) _, z.rowOther (by first | exact Nat.ne_of_lt (Nat.lt_of_lt_of_le lt_z hp.1) | omega) _, c.rowOther (by first | exact Nat.ne_of_lt (Nat.lt_of_lt_of_le lt_c hp.1) | omega) _, fun _ => ⟨hp.1, ?_⟩⟩
            rw [show upL L 10 10 = true from rfl]
            exact hp.2.row _
        refine stepV 11 rfl rfl (fun _ _ _ h => h) ?_ ?_
        · intros; go_simp; exact ⟨rfl, rfl⟩
        exact AllI.nil
      case hV0 =>
        intro p q
        refine AllI.cons ?_ ?_
        · skip
          iterate 12 (refine AllI.cons (by first | exact .inl rfl | (refine .inr ?_; simp only [List.getD_cons_zero, List.getD_cons_succ]; done) | exact .inr rfl) ?_)
          exact AllI.nil
        exact AllI.nil
      case he =>
      clear hB m l z c
      rintro p wrrr ⟨hsz, hB, m, l, z, c, h_r⟩
      obtain ⟨le_r, r⟩ := h_r rfl
      clear h_r
      replace r : blk wrrr (p 9) (vfn (fun _ => 0)) 39 := r
      have ne_m_r : w.heap.size ≠ p 9 := Nat.ne_of_lt (Nat.lt_of_lt_of_le lt_m le_r)
      have ne_l_r : (w.heap.size + 1) ≠ p 9 := Nat.ne_of_lt (Nat.lt_of_lt_of_le lt_l le_r)
      have ne_z_r : (w.heap.size + 2) ≠ p 9 := Nat.ne_of_lt (Nat.lt_of_lt_of_le lt_z le_r)
      have ne_c_r : (w.heap.size + 3) ≠ p 9 := Nat.ne_of_lt (Nat.lt_of_lt_of_le lt_c le_r)
      have ge_r : w.heap.size ≤ p 9 := Nat.le_trans hW0 le_r
      generalize p 9 = r_b at *
      clear lt_m
      clear lt_l
      clear lt_z
      clear lt_c
      clear hsz hW0
      go_upto_region 5 with (fail)
      have lt_m := m.lt
      have lt_l := l.lt
      have lt_z := z.lt
      have lt_c := c.lt
      have lt_r := r.lt
      have hW0 : w.heap.size ≤ wrrr.heap.size := by have := hB.size; first | exact this | simpa using this
      apply wp_region_Q 20 [0, 1, 3, 7, 15, 31, 63, 127, 255, 511, 1023, 2047, 4095, 8191, 16383, 32767, 65535, 131071, 262143, 524287] [] [_, _, _, _, _, _, _, _, _, _, _, _, _, _, _, _, _, _, _, _] (fun p L w' => wrrr.heap.size ≤ w'.heap.size ∧ Below w.heap.size w w' ∧ blk w' w.heap.size (mot x) 66 ∧ blk w' (w.heap.size + 1) (lok y) 78 ∧ blk w' (w.heap.size + 2) (qfn (fun _ => 0)) 88 ∧ blk w' (w.heap.size + 3) (prow (w.heap.size + 2)) 58 ∧ blk w' r_b (vfn (fun _ => 0)) 39) _ [(0, 28), (1, 29), (2, 30), (3, 31), (4, 32), (5, 33), (6, 34), (7, 35), (8, 36), (9, 37), (10, 38), (11, 39), (12, 40), (13, 41), (14, 42), (15, 43), (16, 44), (17, 45), (18, 46), (19, 47)] [0, 1, 2, 3, 4, 5, 6, 7, 8, 9, 10, 11, 12, 13, 14, 15, 16, 17, 18, 19]
      case hn => rfl
      case hB => kernel_rfl
      case hds => kernel_rfl
      case hA => (intro p; simp only [putsD, Act.put, List.setIfInBounds_toArray, List.set_cons_zero, List.set_cons_succ, List.getD_cons_zero, List.getD_cons_succ]; exact rfl)
      case h0 => exact fun p => ⟨Nat.le_refl _, hB, m, l, z, c, r⟩
      case hmore => exact fun p L w1 w2 ⟨hsz, hB, m, l, z, c, r⟩ hm => ⟨Nat.le_trans hsz hm.size, hB.trans (hm.mono (Nat.le_trans hW0 hsz)), m.below hm m.lt, l.below hm l.lt, z.below hm z.lt, c.below hm c.lt, r.below hm r.lt⟩
      case hs =>
        intro more
        refine stepV 0 rfl rfl (fun _ _ _ h => h) ?_ ?_
        · rintro p L w1 ⟨hsz, hB, m, l, z, c, r⟩ hk
          first | exact valR_row _ _ rfl _ rfl _ _ r _ Try.underlying39 rfl (by first | kernel_rfl | (rw [vfn_size]; kernel_rfl)) rfl | (have hc := r.cellIs (vfn_get _ (show 0 < 3 by omega)); go_simp; exact ⟨rfl, rfl⟩)
        refine stepV 1 rfl rfl (fun _ _ _ h => h) ?_ ?_
        · intros; (try simp only [vfn, qfn]); go_simp; exact ⟨rfl, rfl⟩
        refine stepV 2 rfl rfl (fun _ _ _ h => h) ?_ ?_
        · intros; go_simp; exact ⟨rfl, rfl⟩
        refine stepV 3 rfl rfl (fun _ _ _ h => h) ?_ ?_
        · intros; go_simp; exact ⟨rfl, rfl⟩
        refine stepVg 4 rfl (fun p => (by first | rfl | (simp [Region.wanted, yielded]; done))) (fun _ _ _ h => h) ?_ ?_
        · intros; go_simp; exact ⟨rfl, rfl⟩
        refine stepVg 5 rfl (fun p => (by first | rfl | (simp [Region.wanted, yielded]; done))) (fun _ _ _ h => h) ?_ ?_
        · intros; go_simp; exact ⟨rfl, rfl⟩
        refine stepV 6 rfl rfl (fun _ _ _ h => h) ?_ ?_
        · intros; go_simp; exact ⟨rfl, rfl⟩
        refine stepV 7 rfl rfl (fun _ _ _ h => h) ?_ ?_
        · intros; go_simp; exact ⟨rfl, rfl⟩
        refine stepVg 8 rfl (fun p => (by first | rfl | (simp [Region.wanted, yielded]; done))) (fun _ _ _ h => h) ?_ ?_
        · intros; go_simp; exact ⟨rfl, rfl⟩
        refine stepVg 9 rfl (fun p => (by first | rfl | (simp [Region.wanted, yielded]; done))) (fun _ _ _ h => h) ?_ ?_
        · intros; go_simp; exact ⟨rfl, rfl⟩
        refine stepVg 10 rfl (fun p => (by first | rfl | (simp [Region.wanted, yielded]; done))) (fun _ _ _ h => h) ?_ ?_
        · rintro p L w1 ⟨hsz, hB, m, l, z, c, r⟩ hk
          exact valR_part _ _ rfl _ 1 rfl _ _ m (vfn x.2.1) (mot_a x) _ Try.underlying39 rfl (by rw [vfn_size]; kernel_rfl) rfl
        refine stepD 11 rfl (fun p => (by first | rfl | (simp [Region.wanted, yielded]; done))) (fun _ _ _ h => h) more ?_ ?_
        · rintro p L w1 ⟨hsz, hB, m, l, z, c, r⟩ hk
          go_simp
          refine (gdrift_none v x.2.1 _ (fun w9 hb9 => hvn.out w9 (z.below hb9 z.lt))).mono ?_
          rintro e w2 ⟨rfl, h2⟩
          first | exact ⟨rfl, h2⟩ | (subst h2; exact ⟨rfl, Below.refl _ _⟩)
        refine stepVg 12 rfl (fun p => (by first | rfl | (simp [Region.wanted, yielded]; done))) (fun _ _ _ h => h) ?_ ?_
        · intros; go_simp; exact ⟨rfl, rfl⟩
        refine stepV 13 rfl rfl (fun _ _ _ h => h) ?_ ?_
        · intros; go_simp; exact ⟨rfl, rfl⟩
        refine stepV 14 rfl rfl (fun _ _ _ h => h) ?_ ?_
        · intros; go_simp; exact ⟨rfl, rfl⟩
        refine stepVg 15 rfl (fun p => (by first | rfl | (simp [Region.wanted, yielded]; done))) (fun _ _ _ h => h) ?_ ?_
        · intros; go_simp; exact ⟨rfl, rfl⟩
        refine stepD 16 rfl (fun p => (by first | rfl | (simp [Region.wanted, yielded]; done))) (fun _ _ _ h => h) more ?_ ?_
        · rintro p L w1 ⟨hsz, hB, m, l, z, c, r⟩ hk
          go_simp
          refine (gbias_none v _ (fun w9 hb9 => hvn.out w9 (z.below hb9 z.lt))).mono ?_
          rintro e w2 ⟨rfl, h2⟩
          first | exact ⟨rfl, h2⟩ | (subst h2; exact ⟨rfl, Below.refl _ _⟩)
        refine stepVg 17 rfl (fun p => (by first | rfl | (simp [Region.wanted, yielded]; done))) (fun _ _ _ h => h) ?_ ?_
        · intros; (try simp only [vfn, qfn]); go_simp; exact ⟨rfl, rfl⟩
        refine stepVg 18 rfl (fun p => (by first | rfl | (simp [Region.wanted, yielded]; done))) (fun _ _ _ h => h) ?_ ?_
        · intros; go_simp; exact ⟨rfl, rfl⟩
        refine stepV 19 rfl rfl (fun _ _ _ h => h) ?_ ?_
        · intros; go_simp; exact ⟨rfl, rfl⟩
        exact AllI.nil
      case hV0 => exact fun p q => AllI.nil
      case he =>
      clear hB m l z c r
      rintro p wrrrr ⟨hsz, hB, m, l, z, c, r⟩
      clear lt_m
      clear lt_l
      clear lt_z
      clear lt_c
      clear lt_r
      clear hsz hW0
      go_wp2_with (fail)
      clear r
      go_roundg (2 - (k + 1))
      case rel =>
        exact ⟨k + 1, by omega, rfl, m, l, z, c, hB⟩
      case measure => omega
    · obtain rfl : k = 2 := by omega
      go_upto_region 8 with (fail)
      clear z
      clear c
      have lt_m := m.lt
      have lt_l := l.lt
      have hW0 : w.heap.size ≤ wr.heap.size := by have := hB.size; first | exact this | simpa using this
      apply wp_region_Q 5 [0, 1, 3, 7, 15] [1, 2] [_, (fun p => .pointer (some ⟨p 1, 0, none⟩)), (fun p => (fun b => .slice (some ⟨b, 0, none⟩) 2 2) (p 2)), _, _] (fun p L w' => wr.heap.size ≤ w'.heap.size ∧ Below w.heap.size w w' ∧ blk w' w.heap.size (mot x) 66 ∧ blk w' (w.heap.size + 1) (lok y) 78 ∧ (L 1 = true → wr.heap.size ≤ p 1 ∧ blk w' (p 1) (fltc (fun _ => 0, fun _ => 0)) 91) ∧ (L 2 = true → wr.heap.size ≤ p 2 ∧ blk w' (p 2) (prow (p 1)) 48) ∧ (L 1 = true → L 2 = true → p 1 ≠ p 2)) _ [(0, 49), (1, 50), (2, 51), (3, 52), (4, 53)] [0, 1, 2, 3, 4]
      case hn => rfl
      case hB => kernel_rfl
      case hds => kernel_rfl
      case hA => (intro p; simp only [putsD, Act.put, List.setIfInBounds_toArray, List.set_cons_zero, List.set_cons_succ, List.getD_cons_zero, List.getD_cons_succ]; exact rfl)
      case h0 => exact fun p => ⟨Nat.le_refl _, hB, m, l, fun h => absurd h (by decide), fun h => absurd h (by decide), fun h => absurd h (by decide)⟩
      case hmore => exact fun p L w1 w2 ⟨hsz, hB, m, l, h_z, h_c, hne_z_c⟩ hm => ⟨Nat.le_trans hsz hm.size, hB.trans (hm.mono (Nat.le_trans hW0 hsz)), m.below hm m.lt, l.below hm l.lt, fun hl => ⟨(h_z hl).1, (h_z hl).2.below hm (h_z hl).2.lt⟩, fun hl => ⟨(h_c hl).1, (h_c hl).2.below hm (h_c hl).2.lt⟩, hne_z_c⟩
      case hs =>
        intro more
        refine stepV 0 rfl rfl (fun _ _ _ h => h) ?_ ?_
        · intros; (try simp only [vfn, qfn]); go_simp; exact ⟨rfl, rfl⟩
        refine AllI.cons ?_ ?_
        · refine stepI_alloc 1 rfl (fun p => rfl) rfl (fltc (fun _ => 0, fun _ => 0)) 91 (fun p => rfl) ?_ ?_
          · intro p w1
            go_simp
            first | rfl | fail
          rintro p L w1 ⟨hsz, hB, m, l, h_z, h_c, hne_z_c⟩ hk
          refine ⟨Nat.le_trans hsz (by simp), hB.alloc (Nat.le_trans (by first | exact hW0 | (have := hB.size; simp at this ⊢; omega)) hsz) _, m.alloc _, l.alloc _, fun _ => ⟨hsz, ?_⟩, fun hl => absurd hl (by rw [show upL L 1 2 = false from hk.2.2 2 rfl]; decide), fun _ hl => absurd hl (by rw [show upL L 1 2 = false from hk.2.2 2 rfl]; decide)⟩
          exact blk.new _ _ _
        refine AllI.cons ?_ ?_
        · refine stepI_fresh 2 rfl (fun p => rfl) rfl (fun b => .slice (some ⟨b, 0, none⟩) 2 2) (fun p => (prow (p 1))) 48 (fun p => rfl) ?_ ?_
          · intro p w1
            simp only [vfn, qfn]
            go_simp
            try rfl
          rintro p L w1 ⟨hsz, hB, m, l, h_z, h_c, hne_z_c⟩ hk
          refine ⟨Nat.le_trans hsz (by simp), hB.alloc (Nat.le_trans (by first | exact hW0 | (have := hB.size; simp at this ⊢; omega)) hsz) _, m.alloc _, l.alloc _, fun hl => ⟨(h_z hl).1, (h_z hl).2.alloc _⟩, fun _ => ⟨hsz, ?_⟩, fun hl _ => Nat.ne_of_lt (h_z hl).2.lt⟩
          exact blk.new _ _ _
        refine stepV 3 rfl rfl (fun _ _ _ h => h) ?_ ?_
        · intros; go_simp; exact ⟨rfl, rfl⟩
        refine stepV 4 rfl rfl (fun _ _ _ h => h) ?_ ?_
        · intros; go_simp; exact ⟨rfl, rfl⟩
        exact AllI.nil
      case hV0 =>
        intro p q
        refine AllI.cons ?_ ?_
        · skip
          iterate 5 (refine AllI.cons (by first | exact .inl rfl | (refine .inr ?_; simp only [List.getD_cons_zero, List.getD_cons_succ]; done) | exact .inr rfl) ?_)
          exact AllI.nil
        refine AllI.cons ?_ ?_
        · skip
          iterate 5 (refine AllI.cons (by first | exact .inl rfl | (refine .inr ?_; simp only [List.getD_cons_zero, List.getD_cons_succ]; done) | exact .inr rfl) ?_)
          exact AllI.nil
        exact AllI.nil
      case he =>
      clear hB m l
      rintro p wrr ⟨hsz, hB, m, l, h_z, h_c, hne_z_c⟩
      obtain ⟨le_z, z⟩ := h_z rfl
      clear h_z
      obtain ⟨le_c, c⟩ := h_c rfl
      clear h_c
      have ne_z_c : p 1 ≠ p 2 := hne_z_c rfl rfl
      clear hne_z_c
      replace z : blk wrr (p 1) (fltc (fun _ => 0, fun _ => 0)) 91 := z
      replace c : blk wrr (p 2) (prow (p 1)) 48 := c
      have ne_m_z : w.heap.size ≠ p 1 := Nat.ne_of_lt (Nat.lt_of_lt_of_le lt_m le_z)
      have ne_l_z : (w.heap.size + 1) ≠ p 1 := Nat.ne_of_lt (Nat.lt_of_lt_of_le lt_l le_z)
      have ge_z : w.heap.size ≤ p 1 := Nat.le_trans hW0 le_z
      have ne_m_c : w.heap.size ≠ p 2 := Nat.ne_of_lt (Nat.lt_of_lt_of_le lt_m le_c)
      have ne_l_c : (w.heap.size + 1) ≠ p 2 := Nat.ne_of_lt (Nat.lt_of_lt_of_le lt_l le_c)
      have ge_c : w.heap.size ≤ p 2 := Nat.le_trans hW0 le_c
      generalize p 1 = z_b at *
      generalize p 2 = c_b at *
      clear lt_m
      clear lt_l
      clear hsz hW0
      go_wp2_with (fail)
      go_loopg [53] 2 (fun g_ iv wr => ∃ k : Nat, g_ + k = 2 ∧ iv = .int .i64 k ∧ blk wr w.heap.size (mot x) 66 ∧ blk wr (w.heap.size + 1) (lok y) 78 ∧ blk wr z_b (fltc (fun _ => 0, fun _ => 0)) 91 ∧ blk wr c_b (prow z_b) 48 ∧ Below w.heap.size w wr)
      case atStart => exact ⟨0, rfl, rfl, m, l, z, c, hB⟩
      case round =>
        clear m l z c hB
        obtain ⟨k, hk, rfl, m, l, z, c, hB⟩ := hrel
        by_cases hkn : k < 2
        · have hdk : decide ((k : Int) < 2) = true := decide_eq_true (by omega)
          have hdk' : decide (k < 2) = true := decide_eq_true (by omega)
          have hk3 : (k : Int) < 2 := by omega
          have hk0 : (0 : Int) ≤ k := by omega
          have hw3 : IntKind.i64.wrap ((k : Int) + 1) = ((k + 1 : Nat) : Int) := by rw [IntKind.wrap_i64]; omega
          obtain ⟨v, hcv, hvn⟩ : ∃ v, (prow z_b)[k]? = some v ∧ ∀ w', blk w' z_b (fltc (fun _ => 0, fun _ => 0)) 91 → Calls Try.prog 67 #[v] w' fun e w2 => e = .returned (.bool true) ∧ w' = w2 := by
            rcases (show k = 0 ∨ k = 1 by omega) with rfl | rfl
            · exact ⟨_, rfl, fun w' _ => fnoneN_any w'⟩
            · exact ⟨_, rfl, fun w' hz => (fnone_any (fun _ => 0) (fun _ => 0) _ w' hz).mono fun e w2 h => ⟨h.1, h.2⟩⟩
          replace hvn := Lib.hid hvn
          go_upto_region 10 with (fail)
          have lt_m := m.lt
          have lt_l := l.lt
          have lt_z := z.lt
          have lt_c := c.lt
          have hW0 : w.heap.size ≤ wr.heap.size := by have := hB.size; first | exact this | simpa using this
          apply wp_region_Q 3 [0, 1, 3] [] [_, _, _] (fun p L w' => wr.heap.size ≤ w'.heap.size ∧ Below w.heap.size w w' ∧ blk w' w.heap.size (mot x) 66 ∧ blk w' (w.heap.size + 1) (lok y) 78 ∧ blk w' z_b (fltc (fun _ => 0, fun _ => 0)) 91 ∧ blk w' c_b (prow z_b) 48) _ [(0, 55), (1, 56), (2, 10)] [0, 1, 2]
          case hn => rfl
          case hB => kernel_rfl
          case hds => kernel_rfl
          case hA => (intro p; simp only [putsD, Act.put, List.setIfInBounds_toArray, List.set_cons_zero, List.set_cons_succ, List.getD_cons_zero, List.getD_cons_succ]; exact rfl)
          case h0 => exact fun p => ⟨Nat.le_refl _, hB, m, l, z, c⟩
          case hmore => exact fun p L w1 w2 ⟨hsz, hB, m, l, z, c⟩ hm => ⟨Nat.le_trans hsz hm.size, hB.trans (hm.mono (Nat.le_trans hW0 hsz)), m.below hm m.lt, l.below hm l.lt, z.below hm z.lt, c.below hm c.lt⟩
          case hs =>
            intro more
            refine stepV 0 rfl rfl (fun _ _ _ h => h) ?_ ?_
            · intros; go_simp; exact ⟨rfl, rfl⟩
            refine stepV 1 rfl rfl (fun _ _ _ h => h) ?_ ?_
            · rintro p L w1 ⟨hsz, hB, m, l, z, c⟩ hk
              have hc : w1.cell? ⟨c_b, k, none⟩ = some (v) := c.cellIs hcv
              go_simp
              exact ⟨rfl, rfl⟩
            refine stepV 2 rfl rfl (fun _ _ _ h => h) ?_ ?_
            · intros; go_simp; exact ⟨rfl, rfl⟩
            exact AllI.nil
          case hV0 => exact fun p q => AllI.nil
          case he =>
          clear hB m l z c
          rintro p wrr ⟨hsz, hB, m, l, z, c⟩
          clear lt_m
          clear lt_l
          clear lt_z
          clear lt_c
          clear hsz hW0
          go_upto_region 11 with (fail)
          have lt_m := m.lt
          have lt_l := l.lt
          have lt_z := z.lt
          have lt_c := c.lt
          have hW0 : w.heap.size ≤ wrr.heap.size := by have := hB.size; first | exact this | simpa using this
          apply wp_region_Q 24 [0, 1, 3, 7, 15, 31, 63, 127, 255, 511, 1023, 2047, 4095, 8191, 16383, 32767, 65535, 131071, 262143, 524287, 1048575, 2097151, 4194303, 8388607] [] [_, _, _, _, _, _, _, _, _, _, _, _, _, _, _, _, _, _, _, _, _, _, _, _] (fun p L w' => wrr.heap.size ≤ w'.heap.size ∧ Below w.heap.size w w' ∧ blk w' w.heap.size (mot x) 66 ∧ blk w' (w.heap.size + 1) (lok y) 78 ∧ blk w' z_b (fltc (fun _ => 0, fun _ => 0)) 91 ∧ blk w' c_b (prow z_b) 48) _ [(0, 57), (1, 58), (2, 59), (3, 60), (4, 61), (5, 62), (6, 63), (7, 64), (8, 65), (9, 66), (10, 67), (11, 68), (12, 69), (13, 70), (14, 71), (15, 72), (16, 73), (17, 74), (18, 75), (19, 76), (20, 77), (21, 78), (22, 79), (23, 80)] [0, 1, 2, 3, 4, 5, 6, 7, 8, 9, 10, 11, 12, 13, 14, 15, 16, 17, 18, 19, 20, 21, 22, 23]
          case hn => rfl
          case hB => kernel_rfl
          case hds => kernel_rfl
          case hA => (intro p; simp only [putsD, Act.put, List.setIfInBounds_toArray, List.set_cons_zero, List.set_cons_succ, List.getD_cons_zero, List.getD_cons_succ]; exact rfl)
          case h0 => exact fun p => ⟨Nat.le_refl _, hB, m, l, z, c⟩
          case hmore => exact fun p L w1 w2 ⟨hsz, hB, m, l, z, c⟩ hm => ⟨Nat.le_trans hsz hm.size, hB.trans (hm.mono (Nat.le_trans hW0 hsz)), m.below hm m.lt, l.below hm l.lt, z.below hm z.lt, c.below hm c.lt⟩
          case hs =>
            intro more
            refine stepV 0 rfl rfl (fun _ _ _ h => h) ?_ ?_
            · intros; go_simp; exact ⟨rfl, rfl⟩
            refine stepV 1 rfl rfl (fun _ _ _ h => h) ?_ ?_
            · intros; go_simp; exact ⟨rfl, rfl⟩
            refine stepV 2 rfl rfl (fun _ _ _ h => h) ?_ ?_
            · rintro p L w1 ⟨hsz, hB, m, l, z, c⟩ hk
              exact valR_part _ _ rfl _ 1 rfl _ _ l (vfn y.2.1) (lok_r y) _ Try.underlying39 rfl (by rw [vfn_size]; kernel_rfl) rfl
            refine stepD 3 rfl (fun p => rfl) (fun _ _ _ h => h) more ?_ ?_
            · rintro p L w1 ⟨hsz, hB, m, l, z, c⟩ hk
              go_simp
              refine (fpred_none v y.2.1 _ (fun w9 hb9 => hvn.out w9 (z.below hb9 z.lt))).mono ?_
              rintro e w2 ⟨rfl, h2⟩
              first | exact ⟨rfl, h2⟩ | (subst h2; exact ⟨rfl, Below.refl _ _⟩)
            refine stepV 4 rfl rfl (fun _ _ _ h => h) ?_ ?_
            · intros; go_simp; exact ⟨rfl, rfl⟩
            refine stepV 5 rfl rfl (fun _ _ _ h => h) ?_ ?_
            · intros; go_simp; exact ⟨rfl, rfl⟩
            refine stepVg 6 rfl (fun p => (by first | rfl | (simp [Region.wanted, yielded]; done))) (fun _ _ _ h => h) ?_ ?_
            · intros; go_simp; exact ⟨rfl, rfl⟩
            refine stepVg 7 rfl (fun p => (by first | rfl | (simp [Region.wanted, yielded]; done))) (fun _ _ _ h => h) ?_ ?_
            · intros; go_simp; exact ⟨rfl, rfl⟩
            refine stepVg 8 rfl (fun p => (by first | rfl | (simp [Region.wanted, yielded]; done))) (fun _ _ _ h => h) ?_ ?_
            · rintro p L w1 ⟨hsz, hB, m, l, z, c⟩ hk
              exact valR_part _ _ rfl _ 4 rfl _ _ l (qfn y.2.2) (lok_q y) _ Try.underlying46 rfl (by rw [qfn_size]; kernel_rfl) rfl
            refine stepD 9 rfl (fun p => (by first | rfl | (simp [Region.wanted, yielded]; done))) (fun _ _ _ h => h) more ?_ ?_
            · rintro p L w1 ⟨hsz, hB, m, l, z, c⟩ hk
              go_simp
              refine (fcor_none v y.2.2 _ (fun w9 hb9 => hvn.out w9 (z.below hb9 z.lt))).mono ?_
              rintro e w2 ⟨rfl, h2⟩
              first | exact ⟨rfl, h2⟩ | (subst h2; exact ⟨rfl, Below.refl _ _⟩)
            refine stepVg 10 rfl (fun p => (by first | rfl | (simp [Region.wanted, yielded]; done))) (fun _ _ _ h => h) ?_ ?_
            · intros; go_simp; exact ⟨rfl, rfl⟩
            refine stepV 11 rfl rfl (fun _ _ _ h => h) ?_ ?_
            · intros; go_simp; exact ⟨rfl, rfl⟩
            refine stepV 12 rfl rfl (fun _ _ _ h => h) ?_ ?_
            · intros; go_simp; exact ⟨rfl, rfl⟩
            refine stepVg 13 rfl (fun p => (by first | rfl | (simp [Region.wanted, yielded]; done))) (fun _ _ _ h => h) ?_ ?_
            · intros; go_simp; exact ⟨rfl, rfl⟩
            refine stepD 14 rfl (fun p => (by first | rfl | (simp [Region.wanted, yielded]; done))) (fun _ _ _ h => h) more ?_ ?_
            · rintro p L w1 ⟨hsz, hB, m, l, z, c⟩ hk
              go_simp
              refine (fattitude_none v _ (fun w9 hb9 => hvn.out w9 (z.below hb9 z.lt))).mono ?_
              rintro e w2 ⟨rfl, h2⟩
              first | exact ⟨rfl, h2⟩ | (subst h2; exact ⟨rfl, Below.refl _ _⟩)
            refine stepVg 15 rfl (fun p => (by first | rfl | (simp [Region.wanted, yielded]; done))) (fun _ _ _ h => h) ?_ ?_
            · intros; (try simp only [vfn, qfn]); go_simp; exact ⟨rfl, rfl⟩
            refine stepVg 16 rfl (fun p => (by first | rfl | (simp [Region.wanted, yielded]; done))) (fun _ _ _ h => h) ?_ ?_
            · intros; go_simp; exact ⟨rfl, rfl⟩
            refine stepV 17 rfl rfl (fun _ _ _ h => h) ?_ ?_
            · intros; go_simp; exact ⟨rfl, rfl⟩
            refine stepV 18 rfl rfl (fun _ _ _ h => h) ?_ ?_
            · intros; go_simp; exact ⟨rfl, rfl⟩
            refine stepVg 19 rfl (fun p => (by first | rfl | (simp [Region.wanted, yielded]; done))) (fun _ _ _ h => h) ?_ ?_
            · intros; go_simp; exact ⟨rfl, rfl⟩
            refine stepD 20 rfl (fun p => (by first | rfl | (simp [Region.wanted, yielded]; done))) (fun _ _ _ h => h) more ?_ ?_
            · rintro p L w1 ⟨hsz, hB, m, l, z, c⟩ hk
              go_simp
              refine (fbias_none v _ (fun w9 hb9 => hvn.out w9 (z.below hb9 z.lt))).mono ?_
              rintro e w2 ⟨rfl, h2⟩
              first | exact ⟨rfl, h2⟩ | (subst h2; exact ⟨rfl, Below.refl _ _⟩)
            refine stepVg 21 rfl (fun p => (by first | rfl | (simp [Region.wanted, yielded]; done))) (fun _ _ _ h => h) ?_ ?_
            · intros; (try simp only [vfn, qfn]); go_simp; exact ⟨rfl, rfl⟩
            refine stepVg 22 rfl (fun p => (by first | rfl | (simp [Region.wanted, yielded]; done))) (fun _ _ _ h => h) ?_ ?_
            · intros; go_simp; exact ⟨rfl, rfl⟩
            refine stepV 23 rfl rfl (fun _ _ _ h => h) ?_ ?_
            · intros; go_simp; exact ⟨rfl, rfl⟩
            exact AllI.nil
          case hV0 => exact fun p q => AllI.nil
          case he =>
          clear hB m l z c
          rintro p wrrr ⟨hsz, hB, m, l, z, c⟩
          clear lt_m
          clear lt_l
          clear lt_z
          clear lt_c
          clear hsz hW0
          go_wp2_with (fail)
          go_roundg (2 - (k + 1))
          case rel =>
            exact ⟨k + 1, by omega, rfl, m, l, z, c, hB⟩
          case measure => omega
        · obtain rfl : k = 2 := by omega
          have AW := Lib.hid (fun w => awake21_any w)
          go_wp2_with (first
            | (go_at_call 25; with_reducible refine (AW.out _).mono ?_; rintro e w9 ⟨rfl, hb⟩; replace hB := hB.trans (hb.mono hB.size); replace m := m.below hb m.lt; replace l := l.below hb l.lt; replace z := z.below hb z.lt; replace c := c.below hb c.lt; clear hb))
          go_ret
          exact ⟨rfl, hB⟩
end Go.Proofs.Ytnkjbdfhdenbcaa
