/-
  The filter of the package: none, Attitude, Bias, turn.
-/
import Derived.Test.YtnkjbdfhdenbcaaInv
import Derived.Test.YtnkjbdfhdenbcaaGyG
import Derived.Test.YtnkjbdfhdenbcaaTurn
import Derived.Test.YtnkjbdfhdenbcaaVUnit
set_option linter.unusedSimpArgs false
set_option linter.unusedVariables false
namespace Go.Proofs.Ytnkjbdfhdenbcaa
open Go.RowKit PM Dt
/-- A filter's memory: the attitude and the bias. -/
def flt (Q B : Nat → Int) : Array Value := #[.int .i64 (Q 0), .int .i64 (Q 1), .int .i64 (Q 2), .int .i64 (Q 3), .int .i64 (B 0), .int .i64 (B 1), .int .i64 (B 2)]
def fltc (x : (Nat → Int) × (Nat → Int)) : Array Value := flt x.1 x.2
theorem fltc_size (x : (Nat → Int) × (Nat → Int)) : (fltc x).size = 7 := rfl
theorem fltc_one (x : (Nat → Int) × (Nat → Int)) : (fltc x).all (·.oneCell') = true := by simp [fltc, flt, Value.oneCell']
theorem flt_q (Q B : Nat → Int) (j : Nat) (hj : j < (qfn Q).size) : (fltc (Q, B))[0 + j]? = (qfn Q)[j]? := by
  rw [qfn_size] at hj
  rw [Nat.zero_add, qfn_get _ hj]
  rcases (show j = 0 ∨ j = 1 ∨ j = 2 ∨ j = 3 by omega) with rfl | rfl | rfl | rfl <;> rfl
theorem flt_b (Q B : Nat → Int) (j : Nat) (hj : j < (vfn B).size) : (fltc (Q, B))[4 + j]? = (vfn B)[j]? := by
  rw [vfn_size] at hj
  rw [vfn_get _ hj]
  rcases (show j = 0 ∨ j = 1 ∨ j = 2 by omega) with rfl | rfl | rfl <;> rfl
theorem over_q (Q Q' B : Nat → Int) : over (fltc (Q, B)) 0 (qfn Q').toList = fltc (Q', B) := by unfold qfn; rfl
theorem over_b (Q B B' : Nat → Int) : over (fltc (Q, B)) 4 (vfn B').toList = fltc (Q, B') := by unfold vfn; rfl
/-- The attitude behind a turn. -/
def ftF (Q h : Nat → Int) : Nat → Int := if zV h then Q else turnF Q h
set_option maxRecDepth 100000 in
set_option maxHeartbeats 2000000 in
theorem fnone_any (Q B : Nat → Int) (b : Nat) (w : World) (hg : blk w b (fltc (Q, B)) 91) : Calls Try.prog 67 #[.pointer (some ⟨b, 0, none⟩)] w fun e w' => e = .returned (.bool (zQ Q)) ∧ w = w' := by
  have EQ := quat_eq0 Q
  obtain ⟨z, hz⟩ : ∃ z, zQ Q = z := ⟨_, rfl⟩
  simp only [hz] at EQ ⊢
  clear hz
  go_enter Try.func67, Try.ntmps67
  go_wp2_with (first
    | (refine wpList_load_part ?hw _ _ rfl _ 0 rfl _ _ hg (qfn Q) (flt_q Q B) _ Try.underlying46 rfl ?hi ?_; (case hw => (first | rfl | (simp [Region.wanted, yielded]; done))); (case hi => (rw [qfn_size]; kernel_rfl))))
  go_ret
  exact ⟨by first | rfl | (congr 2; simp), rfl⟩
set_option maxRecDepth 100000 in
set_option maxHeartbeats 2000000 in
theorem fnoneN_any  (w : World) : Calls Try.prog 67 #[.pointer none] w fun e w' => e = .returned (.bool true) ∧ w = w' := by
  go_enter Try.func67, Try.ntmps67
  go_wp2_with (fail)
  go_ret
  exact ⟨rfl, rfl⟩
set_option maxRecDepth 100000 in
set_option maxHeartbeats 2000000 in
theorem fattitude_none (v : Value) (w : World) (hn : ∀ w', Below w.heap.size w w' → Calls Try.prog 67 #[v] w' fun e w2 => e = .returned (.bool true) ∧ w' = w2) : Calls Try.prog 26 #[v] w fun e w' => e = .returned (.agg (qfn fun _ => 0)) ∧ Below w.heap.size w w' := by
  have NN := Lib.hid hn
  clear hn
  go_enter Try.func26, Try.ntmps26
  go_upto_region 1 with (fail)
  simp only [zero_quat]
  have r : blk (w.alloc (.cells (qfn fun _ => 0) 46)) w.heap.size (qfn fun _ => 0) 46 := blk.new _ _ _
  have hB : Below w.heap.size w (w.alloc (.cells (qfn fun _ => 0) 46)) := by go_grown
  generalize (w.alloc (.cells (qfn fun _ => 0) 46)) = w0 at *
  go_wp2_with (first
    | (go_at_call 67; with_reducible refine (NN.out _ hB).mono ?_; rintro e w9 ⟨rfl, rfl⟩)
    | (rw [zero_quat]; refine wpList_store_row rfl _ _ _ rfl _ rfl _ rfl _ _ r (by first | kernel_rfl | (rw [qfn_size]; kernel_rfl)) (by first | rfl | simp only [qfn_size]) (by first | exact qfn_one _ | rfl) ?_))
  refine bodyPost_ret (results_cell_row rfl _ _ _ _ _ _ _ rfl (r.row (qfn (fun _ => 0))) Try.underlying46 rfl (by first | kernel_rfl | (rw [qfn_size]; kernel_rfl))) rfl ?_
  refine ⟨?_, Below.setRow hB (by omega) _⟩
  rfl
set_option maxRecDepth 100000 in
set_option maxHeartbeats 2000000 in
theorem fattitude_any (Q B : Nat → Int) (b : Nat) (w : World) (hg : blk w b (fltc (Q, B)) 91) (hz : zQ Q = false) : Calls Try.prog 26 #[.pointer (some ⟨b, 0, none⟩)] w fun e w' => e = .returned (.agg (qfn Q)) ∧ Below w.heap.size w w' := by
  have NN := Lib.hid (fun w' (hb : Below w.heap.size w w') => fnone_any Q B b w' (hg.below hb hg.lt))
  rw [hz] at NN
  go_enter Try.func26, Try.ntmps26
  go_upto_region 1 with (fail)
  simp only [zero_quat]
  have r : blk (w.alloc (.cells (qfn fun _ => 0) 46)) w.heap.size (qfn fun _ => 0) 46 := blk.new _ _ _
  have hB : Below w.heap.size w (w.alloc (.cells (qfn fun _ => 0) 46)) := by go_grown
  generalize (w.alloc (.cells (qfn fun _ => 0) 46)) = w0 at *
  have f : blk w0 b (fltc (Q, B)) 91 := hg.below hB hg.lt
  clear hg
  go_wp2_with (first
    | (go_at_call 67; with_reducible refine (NN.out _ hB).mono ?_; rintro e w9 ⟨rfl, rfl⟩)
    | (refine wpList_load_part ?hw _ _ rfl _ 0 rfl _ _ f (qfn Q) (flt_q Q B) _ Try.underlying46 rfl ?hi ?_; (case hw => (first | rfl | (simp [Region.wanted, yielded]; done))); (case hi => (rw [qfn_size]; kernel_rfl)))
    | (refine wpList_store_row rfl _ _ _ rfl _ rfl _ rfl _ _ r (by first | kernel_rfl | (rw [qfn_size]; kernel_rfl)) (by first | rfl | simp only [qfn_size]) (by first | exact qfn_one _ | rfl) ?_))
  refine bodyPost_ret (results_cell_row rfl _ _ _ _ _ _ _ rfl (r.row (qfn Q)) Try.underlying46 rfl (by first | kernel_rfl | (rw [qfn_size]; kernel_rfl))) rfl ?_
  refine ⟨?_, Below.setRow hB (by omega) _⟩
  rfl
set_option maxRecDepth 100000 in
set_option maxHeartbeats 2000000 in
theorem fbias_none (v : Value) (w : World) (hn : ∀ w', Below w.heap.size w w' → Calls Try.prog 67 #[v] w' fun e w2 => e = .returned (.bool true) ∧ w' = w2) : Calls Try.prog 41 #[v] w fun e w' => e = .returned (.agg (vfn fun _ => 0)) ∧ Below w.heap.size w w' := by
  have NN := Lib.hid hn
  clear hn
  go_enter Try.func41, Try.ntmps41
  go_upto_region 1 with (fail)
  simp only [zero_vec]
  have r : blk (w.alloc (.cells (vfn fun _ => 0) 39)) w.heap.size (vfn fun _ => 0) 39 := blk.new _ _ _
  have hB : Below w.heap.size w (w.alloc (.cells (vfn fun _ => 0) 39)) := by go_grown
  generalize (w.alloc (.cells (vfn fun _ => 0) 39)) = w0 at *
  go_wp2_with (first
    | (go_at_call 67; with_reducible refine (NN.out _ hB).mono ?_; rintro e w9 ⟨rfl, rfl⟩)
    | (rw [zero_vec]; refine wpList_store_row rfl _ _ _ rfl _ rfl _ rfl _ _ r (by first | kernel_rfl | (rw [vfn_size]; kernel_rfl)) (by first | rfl | simp only [vfn_size]) (by first | exact vfn_one _ | rfl) ?_))
  refine bodyPost_ret (results_cell_row rfl _ _ _ _ _ _ _ rfl (r.row (vfn (fun _ => 0))) Try.underlying39 rfl (by first | kernel_rfl | (rw [vfn_size]; kernel_rfl))) rfl ?_
  refine ⟨?_, Below.setRow hB (by omega) _⟩
  rfl
set_option maxRecDepth 100000 in
set_option maxHeartbeats 2000000 in
theorem fbias_any (Q B : Nat → Int) (b : Nat) (w : World) (hg : blk w b (fltc (Q, B)) 91) (hz : zQ Q = false) : Calls Try.prog 41 #[.pointer (some ⟨b, 0, none⟩)] w fun e w' => e = .returned (.agg (vfn B)) ∧ Below w.heap.size w w' := by
  have NN := Lib.hid (fun w' (hb : Below w.heap.size w w') => fnone_any Q B b w' (hg.below hb hg.lt))
  rw [hz] at NN
  go_enter Try.func41, Try.ntmps41
  go_upto_region 1 with (fail)
  simp only [zero_vec]
  have r : blk (w.alloc (.cells (vfn fun _ => 0) 39)) w.heap.size (vfn fun _ => 0) 39 := blk.new _ _ _
  have hB : Below w.heap.size w (w.alloc (.cells (vfn fun _ => 0) 39)) := by go_grown
  generalize (w.alloc (.cells (vfn fun _ => 0) 39)) = w0 at *
  have f : blk w0 b (fltc (Q, B)) 91 := hg.below hB hg.lt
  clear hg
  go_wp2_with (first
    | (go_at_call 67; with_reducible refine (NN.out _ hB).mono ?_; rintro e w9 ⟨rfl, rfl⟩)
    | (refine wpList_load_part ?hw _ _ rfl _ 4 rfl _ _ f (vfn B) (flt_b Q B) _ Try.underlying39 rfl ?hi ?_; (case hw => (first | rfl | (simp [Region.wanted, yielded]; done))); (case hi => (rw [vfn_size]; kernel_rfl)))
    | (refine wpList_store_row rfl _ _ _ rfl _ rfl _ rfl _ _ r (by first | kernel_rfl | (rw [vfn_size]; kernel_rfl)) (by first | rfl | simp only [vfn_size]) (by first | exact vfn_one _ | rfl) ?_))
  refine bodyPost_ret (results_cell_row rfl _ _ _ _ _ _ _ rfl (r.row (vfn B)) Try.underlying39 rfl (by first | kernel_rfl | (rw [vfn_size]; kernel_rfl))) rfl ?_
  refine ⟨?_, Below.setRow hB (by omega) _⟩
  rfl
set_option maxRecDepth 100000 in
set_option maxHeartbeats 4000000 in
theorem fturn_yes (Q B h : Nat → Int) (b : Nat) (w : World) (hg : blk w b (fltc (Q, B)) 91) (hz : zV h = false) (hQ : ∀ i, i < 4 → I64 (Q i)) (hh : ∀ i, i < 3 → I64 (h i)) : Calls Try.prog 74 #[.pointer (some ⟨b, 0, none⟩), .agg (vfn h)] w fun e w' => e = .returned (.tuple #[]) ∧ Below w.heap.size (w.setRow b (fltc (turnF Q h, B))) w' := by
  have TU := Lib.hid (fun w => turn_any Q h w hQ hh)
  clear hQ hh
  have hgl := hg.lt
  go_enter Try.func74, Try.ntmps74
  go_upto_region 1 with (fail)
  have v : blk (w.alloc (.cells (vfn h) 39)) w.heap.size (vfn h) 39 := blk.new _ _ _
  have hB : Below w.heap.size w (w.alloc (.cells (vfn h) 39)) := by go_grown
  generalize (w.alloc (.cells (vfn h) 39)) = w0 at *
  have f : blk w0 b (fltc (Q, B)) 91 := hg.below hB hg.lt
  clear hg
  have EQ := vec_eq0 h
  simp only [hz] at EQ
  go_upto_region 2 with (first
    | (refine wpList_load_rowG ?hw _ _ rfl _ rfl _ _ _ _ v Try.underlying39 rfl ?hi ?_; (case hw => (first | rfl | (simp [Region.wanted, yielded]; done))); (case hi => (first | kernel_rfl | (rw [vfn_size]; kernel_rfl)))))
  clear EQ
  have ne_v_f : w.heap.size ≠ b := by omega
  have lt_v := v.lt
  have lt_f := f.lt
  have hW0 : w.heap.size ≤ w0.heap.size := by have := hB.size; first | exact this | simpa using this
  apply wp_region_I 13 [0, 0, 2, 6, 14, 0, 62, 126, 254, 254, 511, 1535, 3583] [] [_, _, _, _, _, _, _, _, _, _, _, _, (fun _ => undef)] (fun p L w' => w0.heap.size ≤ w'.heap.size ∧ Below w.heap.size (bif L 12 then w.setRow b (fltc (turnF Q h, B)) else w) w' ∧ blk w' w.heap.size (vfn h) 39 ∧ blk w' b (bif L 12 then (fltc (turnF Q h, B)) else (fltc (Q, B))) 91) _ [(0, 8), (1, 9), (2, 10), (3, 11), (4, 12), (5, 13), (6, 14), (7, 7), (8, 15), (9, 16), (10, 17), (11, 18)] [0, 1, 2, 3, 4, 5, 6, 7, 8, 9, 10, 11, 12]
  case hn => rfl
  case hm => kernel_rfl
  case hB => kernel_rfl
  case hds => kernel_rfl
  case hA => (intro p; simp only [putsD, Act.put, List.setIfInBounds_toArray, List.set_cons_zero, List.set_cons_succ, List.getD_cons_zero, List.getD_cons_succ]; exact rfl)
  case h0 => exact fun p => ⟨Nat.le_refl _, hB.drew, v.drew, f.drew⟩
  case hmore => exact fun p L w1 w2 ⟨hsz, hB, v, f⟩ hm => ⟨Nat.le_trans hsz hm.size, hB.trans (hm.mono (Nat.le_trans hW0 hsz)), v.below hm v.lt, f.below hm f.lt⟩
  case hs =>
    intro more
    refine stepV 0 rfl rfl (fun _ _ _ h => h) ?_ ?_
    · intros; go_simp; exact ⟨rfl, rfl⟩
    refine stepV 1 rfl rfl (fun _ _ _ h => h) ?_ ?_
    · intros; go_simp; exact ⟨rfl, rfl⟩
    refine stepV 2 rfl rfl (fun _ _ _ h => h) ?_ ?_
    · intros; go_simp; exact ⟨rfl, rfl⟩
    refine stepV 3 rfl rfl (fun _ _ _ h => h) ?_ ?_
    · intros; go_simp; exact ⟨rfl, rfl⟩
    refine stepV 4 rfl rfl (fun _ _ _ h => h) ?_ ?_
    · rintro p L w1 ⟨hsz, hB, v, f⟩ hk
      have L12 : L 12 = false := hk.2.2 12 rfl
      rw [L12] at f
      try simp only [cond_true, cond_false] at f
      exact valR_part _ _ rfl _ 0 rfl _ _ f (qfn Q) (flt_q Q B) _ Try.underlying46 rfl (by rw [qfn_size]; kernel_rfl) rfl
    refine stepV 5 rfl rfl (fun _ _ _ h => h) ?_ ?_
    · rintro p L w1 ⟨hsz, hB, v, f⟩ hk
      have L12 : L 12 = false := hk.2.2 12 rfl
      first | exact valR_row _ _ rfl _ rfl _ _ v _ Try.underlying39 rfl (by first | kernel_rfl | (rw [vfn_size]; kernel_rfl)) rfl | (have hc := v.cellIs (vfn_get _ (show 0 < 3 by omega)); go_simp; exact ⟨rfl, rfl⟩)
    refine stepD 6 rfl (fun p => rfl) (fun _ _ _ h => h) more ?_ ?_
    · rintro p L w1 ⟨hsz, hB, v, f⟩ hk
      go_simp
      refine (TU.out _).mono ?_
      rintro e w2 ⟨rfl, h2⟩
      first | exact ⟨rfl, h2⟩ | (subst h2; exact ⟨rfl, Below.refl _ _⟩)
    refine stepV 7 rfl rfl (fun _ _ _ h => h) ?_ ?_
    · intros; go_simp; exact ⟨rfl, rfl⟩
    refine stepV 8 rfl rfl (fun _ _ _ h => h) ?_ ?_
    · intros; go_simp; exact ⟨rfl, rfl⟩
    refine stepV 9 rfl rfl (fun _ _ _ h => h) ?_ ?_
    · intros; go_simp; exact ⟨rfl, rfl⟩
    refine stepV 10 rfl rfl (fun _ _ _ h => h) ?_ ?_
    · intros; go_simp; exact ⟨rfl, rfl⟩
    refine stepV 11 rfl rfl (fun _ _ _ h => h) ?_ ?_
    · intros; go_simp; exact ⟨rfl, rfl⟩
    refine AllI.cons ?_ ?_
    · refine stepI_store 12 rfl (fun p => rfl) (fun p => rfl) _ _ _ rfl (fun _ => b) 0 (fun p => rfl) (fun p => (qfn (turnF Q h))) (fun p => rfl) (fun p => (fltc (Q, B))) (fun p => (fltc (turnF Q h, B))) 91 (fun p => over_q _ _ _) (fun p => by first | (rw [qfn_size, fltc_size]; decide) | simp [qfn_size, fltc_size]) (fun p => by rw [qfn_size]; kernel_rfl) (fun p => qfn_one _) ?_ ?_
      · rintro p L w1 ⟨hsz, hB, v, f⟩ hk
        have L12 : L 12 = false := hk.1
        rw [L12] at f
        try simp only [cond_true, cond_false] at f
        exact f
      · rintro p L w1 ⟨hsz, hB, v, f⟩ hk
        have L12 : L 12 = false := hk.1
        skip
        refine ⟨(by simpa using hsz), ?_, v.rowOther (by first | exact ne_v_f | exact Ne.symm ne_f_v | omega) _, ?_⟩
        · rw [show upL L 12 12 = true from rfl]
          rw [L12] at hB
          have hB2 := rowBoth hB b (fltc (turnF Q h, B))
          try simp only [cond_true, cond_false] at hB2 ⊢
          try rw [setRow_setRow] at hB2
          exact hB2
        · rw [show upL L 12 12 = true from rfl]
          exact f.row _
    exact AllI.nil
  case hV0 => exact fun p q => AllI.nil
  case he =>
  clear hB v f
  rintro p w0r ⟨hsz, hB, v, f⟩
  replace f : blk w0r b (fltc (turnF Q h, B)) 91 := f
  replace hB : Below w.heap.size (w.setRow b (fltc (turnF Q h, B))) w0r := hB
  clear lt_v
  clear lt_f
  clear hsz hW0
  go_wp2_with (fail)
  go_end0
  exact ⟨rfl, hB⟩
set_option maxRecDepth 100000 in
set_option maxHeartbeats 4000000 in
theorem fturn_no (Q B h : Nat → Int) (b : Nat) (w : World) (hg : blk w b (fltc (Q, B)) 91) (hz : zV h = true) : Calls Try.prog 74 #[.pointer (some ⟨b, 0, none⟩), .agg (vfn h)] w fun e w' => e = .returned (.tuple #[]) ∧ Below w.heap.size w w' := by
  have hgl := hg.lt
  go_enter Try.func74, Try.ntmps74
  go_upto_region 1 with (fail)
  have v : blk (w.alloc (.cells (vfn h) 39)) w.heap.size (vfn h) 39 := blk.new _ _ _
  have hB : Below w.heap.size w (w.alloc (.cells (vfn h) 39)) := by go_grown
  generalize (w.alloc (.cells (vfn h) 39)) = w0 at *
  have f : blk w0 b (fltc (Q, B)) 91 := hg.below hB hg.lt
  clear hg
  have EQ := vec_eq0 h
  simp only [hz] at EQ
  go_wp2_with (first
    | (refine wpList_load_rowG ?hw _ _ rfl _ rfl _ _ _ _ v Try.underlying39 rfl ?hi ?_; (case hw => (first | rfl | (simp [Region.wanted, yielded]; done))); (case hi => (first | kernel_rfl | (rw [vfn_size]; kernel_rfl)))))
  go_end0
  exact ⟨rfl, hB⟩
theorem fturn_any (Q B h : Nat → Int) (b : Nat) (w : World) (hg : blk w b (fltc (Q, B)) 91) (hQ : ∀ i, i < 4 → I64 (Q i)) (hh : ∀ i, i < 3 → I64 (h i)) : Calls Try.prog 74 #[.pointer (some ⟨b, 0, none⟩), .agg (vfn h)] w fun e w' => e = .returned (.tuple #[]) ∧ Below w.heap.size (w.setRow b (fltc (ftF Q h, B))) w' := by
  unfold ftF
  by_cases hz : zV h = true
  · rw [if_pos hz, setRow_self w b _ _ _ hg]
    exact fturn_no Q B h b w hg hz
  · rw [if_neg hz]
    exact fturn_yes Q B h b w hg (by simpa using hz) hQ hh
end Go.Proofs.Ytnkjbdfhdenbcaa
