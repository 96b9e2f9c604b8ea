/-
  The filter of the specification: turn, Predict.
-/
import Derived.Test.YtnkjbdfhdenbcaaFlR
import Derived.Test.YtnkjbdfhdenbcaaLawQT
import Derived.Test.YtnkjbdfhdenbcaaFlS
set_option linter.unusedSimpArgs false
set_option linter.unusedVariables false
namespace Go.Proofs.Ytnkjbdfhdenbcaa
open Go.RowKit PM Dt
set_option maxRecDepth 100000 in
set_option maxHeartbeats 2000000 in
theorem rfturn_no (Q B h : Nat → Int) (w : World) (hz : zV h = true) : Calls Try.prog 85 #[.agg (fltc (Q, B)), .agg (vfn h)] w fun e w' => e = .returned (.agg (fltc (Q, B))) ∧ Below w.heap.size w w' := by
  go_enter Try.func85, Try.ntmps85
  go_upto_region 1 with (fail)
  simp only [fltc_zero]
  have f : blk (((w.alloc (.cells (fltc (Q, B)) 74)).alloc (.cells (vfn h) 39)).alloc (.cells (fltc (fun _ => 0, fun _ => 0)) 74)) w.heap.size (fltc (Q, B)) 74 := ((blk.new _ _ _).alloc _).alloc _
  have a : blk (((w.alloc (.cells (fltc (Q, B)) 74)).alloc (.cells (vfn h) 39)).alloc (.cells (fltc (fun _ => 0, fun _ => 0)) 74)) (w.heap.size + 1) (vfn h) 39 := (blk.new' (by simp)).alloc _
  have r : blk (((w.alloc (.cells (fltc (Q, B)) 74)).alloc (.cells (vfn h) 39)).alloc (.cells (fltc (fun _ => 0, fun _ => 0)) 74)) (w.heap.size + 2) (fltc (fun _ => 0, fun _ => 0)) 74 := blk.new' (by simp)
  have hB : Below w.heap.size w (((w.alloc (.cells (fltc (Q, B)) 74)).alloc (.cells (vfn h) 39)).alloc (.cells (fltc (fun _ => 0, fun _ => 0)) 74)) := by go_grown
  generalize (((w.alloc (.cells (fltc (Q, B)) 74)).alloc (.cells (vfn h) 39)).alloc (.cells (fltc (fun _ => 0, fun _ => 0)) 74)) = w0 at *
  have EQ := vec_eq0 h
  simp only [hz] at EQ
  go_upto_region 3 with (first
    | (refine wpList_load_rowG ?hw _ _ rfl _ rfl _ _ _ _ a Try.underlying39 rfl ?hi ?_; (case hw => (first | rfl | (simp [Region.wanted, yielded]; done))); (case hi => (first | kernel_rfl | (rw [vfn_size]; kernel_rfl)))))
  clear EQ
  have lt_f := f.lt
  have lt_a := a.lt
  have lt_r := r.lt
  have hW0 : w.heap.size ≤ w0.heap.size := by have := hB.size; first | exact this | simpa using this
  apply wp_region_Q 2 [0, 1] [] [_, (fun _ => undef)] (fun p L w' => w0.heap.size ≤ w'.heap.size ∧ Below w.heap.size w w' ∧ blk w' w.heap.size (fltc (Q, B)) 74 ∧ blk w' (w.heap.size + 1) (vfn h) 39 ∧ blk w' (w.heap.size + 2) (bif L 1 then (fltc (Q, B)) else (fltc (fun _ => 0, fun _ => 0))) 74) _ [(0, 16)] [0, 1]
  case hn => rfl
  case hB => kernel_rfl
  case hds => kernel_rfl
  case hA => (intro p; simp only [putsD, Act.put, List.setIfInBounds_toArray, List.set_cons_zero, List.set_cons_succ, List.getD_cons_zero, List.getD_cons_succ]; exact rfl)
  case h0 => exact fun p => ⟨Nat.le_refl _, hB, f, a, r⟩
  case hmore => exact fun p L w1 w2 ⟨hsz, hB, f, a, r⟩ hm => ⟨Nat.le_trans hsz hm.size, hB.trans (hm.mono (Nat.le_trans hW0 hsz)), f.below hm f.lt, a.below hm a.lt, r.below hm r.lt⟩
  case hs =>
    intro more
    refine stepV 0 rfl rfl (fun _ _ _ h => h) ?_ ?_
    · rintro p L w1 ⟨hsz, hB, f, a, r⟩ hk
      have L1 : L 1 = false := hk.2.2 1 rfl
      first | exact valR_row _ _ rfl _ rfl _ _ f _ Try.underlying74 rfl (by first | kernel_rfl | (rw [fltc_size]; kernel_rfl)) rfl | (have hc := f.cellIs (show _[0]? = some _ from rfl); go_simp; exact ⟨rfl, rfl⟩)
    refine AllI.cons ?_ ?_
    · refine stepI_store 1 rfl (fun p => rfl) (fun p => rfl) _ _ _ rfl (fun _ => (w.heap.size + 2)) 0 (fun p => rfl) (fun p => (fltc (Q, B))) (fun p => rfl) (fun p => (fltc (fun _ => 0, fun _ => 0))) (fun p => (fltc (Q, B))) 74 (fun p => rfl) (fun p => by first | (rw [fltc_size, fltc_size]; decide) | simp [fltc_size, fltc_size]) (fun p => by rw [fltc_size]; kernel_rfl) (fun p => fltc_one _) ?_ ?_
      · rintro p L w1 ⟨hsz, hB, f, a, r⟩ hk
        have L1 : L 1 = false := hk.1
        rw [L1] at r
        try simp only [cond_true, cond_false] at r
        exact r
      · rintro p L w1 ⟨hsz, hB, f, a, r⟩ hk
        have L1 : L 1 = false := hk.1
        skip
        refine ⟨(by simpa using hsz), Below.setRow hB (by first | exact Nat.le_trans hW0 hp.1 | exact ge_r | omega | (have := hB.size; simp at this ⊢; omega)) _, f.rowOther (by first | exact ne_f_r | exact Ne.symm ne_r_f | omega) _, a.rowOther (by first | exact ne_a_r | exact Ne.symm ne_r_a | omega) _, ?_⟩
        rw [show upL L 1 1 = true from rfl]
        exact r.row _
    exact AllI.nil
  case hV0 => exact fun p q => AllI.nil
  case he =>
  clear hB f a r
  rintro p w0r ⟨hsz, hB, f, a, r⟩
  replace r : blk w0r (w.heap.size + 2) (fltc (Q, B)) 74 := r
  clear lt_f
  clear lt_a
  clear lt_r
  clear hsz hW0
  go_wp2_with (fail)
  refine bodyPost_ret (results_cell_row rfl _ _ _ _ _ _ _ rfl r Try.underlying74 rfl (by first | kernel_rfl | (rw [fltc_size]; kernel_rfl))) rfl ?_
  refine ⟨?_, hB⟩
  rfl
set_option maxRecDepth 100000 in
set_option maxHeartbeats 2000000 in
theorem rfturn_yes (Q B h : Nat → Int) (w : World) (hz : zV h = false) (hQ : ∀ i, i < 4 → I64 (Q i)) (hh : ∀ i, i < 3 → I64 (h i)) : Calls Try.prog 85 #[.agg (fltc (Q, B)), .agg (vfn h)] w fun e w' => e = .returned (.agg (fltc (turnF Q h, B))) ∧ Below w.heap.size w w' := by
  have TU := Lib.hid (fun w => rturn_any Q h w hQ)
  clear hQ hh
  go_enter Try.func85, Try.ntmps85
  go_upto_region 1 with (fail)
  simp only [fltc_zero]
  have f : blk (((w.alloc (.cells (fltc (Q, B)) 74)).alloc (.cells (vfn h) 39)).alloc (.cells (fltc (fun _ => 0, fun _ => 0)) 74)) w.heap.size (fltc (Q, B)) 74 := ((blk.new _ _ _).alloc _).alloc _
  have a : blk (((w.alloc (.cells (fltc (Q, B)) 74)).alloc (.cells (vfn h) 39)).alloc (.cells (fltc (fun _ => 0, fun _ => 0)) 74)) (w.heap.size + 1) (vfn h) 39 := (blk.new' (by simp)).alloc _
  have r : blk (((w.alloc (.cells (fltc (Q, B)) 74)).alloc (.cells (vfn h) 39)).alloc (.cells (fltc (fun _ => 0, fun _ => 0)) 74)) (w.heap.size + 2) (fltc (fun _ => 0, fun _ => 0)) 74 := blk.new' (by simp)
  have hB : Below w.heap.size w (((w.alloc (.cells (fltc (Q, B)) 74)).alloc (.cells (vfn h) 39)).alloc (.cells (fltc (fun _ => 0, fun _ => 0)) 74)) := by go_grown
  generalize (((w.alloc (.cells (fltc (Q, B)) 74)).alloc (.cells (vfn h) 39)).alloc (.cells (fltc (fun _ => 0, fun _ => 0)) 74)) = w0 at *
  have EQ := vec_eq0 h
  simp only [hz] at EQ
  go_upto_region 2 with (first
    | (refine wpList_load_rowG ?hw _ _ rfl _ rfl _ _ _ _ a Try.underlying39 rfl ?hi ?_; (case hw => (first | rfl | (simp [Region.wanted, yielded]; done))); (case hi => (first | kernel_rfl | (rw [vfn_size]; kernel_rfl)))))
  clear EQ
  have lt_f := f.lt
  have lt_a := a.lt
  have lt_r := r.lt
  have hW0 : w.heap.size ≤ w0.heap.size := by have := hB.size; first | exact this | simpa using this
  apply wp_region_Q 9 [0, 1, 3, 7, 15, 31, 63, 127, 255] [] [_, _, _, _, _, _, _, _, (fun _ => undef)] (fun p L w' => w0.heap.size ≤ w'.heap.size ∧ Below w.heap.size w w' ∧ blk w' w.heap.size (bif L 8 then (fltc (turnF Q h, B)) else (fltc (Q, B))) 74 ∧ blk w' (w.heap.size + 1) (vfn h) 39 ∧ blk w' (w.heap.size + 2) (fltc (fun _ => 0, fun _ => 0)) 74) _ [(0, 9), (1, 10), (2, 11), (3, 12), (4, 8), (5, 13), (6, 14), (7, 15)] [0, 1, 2, 3, 4, 5, 6, 7, 8]
  case hn => rfl
  case hB => kernel_rfl
  case hds => kernel_rfl
  case hA => (intro p; simp only [putsD, Act.put, List.setIfInBounds_toArray, List.set_cons_zero, List.set_cons_succ, List.getD_cons_zero, List.getD_cons_succ]; exact rfl)
  case h0 => exact fun p => ⟨Nat.le_refl _, hB, f, a, r⟩
  case hmore => exact fun p L w1 w2 ⟨hsz, hB, f, a, r⟩ hm => ⟨Nat.le_trans hsz hm.size, hB.trans (hm.mono (Nat.le_trans hW0 hsz)), f.below hm f.lt, a.below hm a.lt, r.below hm r.lt⟩
  case hs =>
    intro more
    refine stepV 0 rfl rfl (fun _ _ _ h => h) ?_ ?_
    · intros; go_simp; exact ⟨rfl, rfl⟩
    refine stepV 1 rfl rfl (fun _ _ _ h => h) ?_ ?_
    · rintro p L w1 ⟨hsz, hB, f, a, r⟩ hk
      have L8 : L 8 = false := hk.2.2 8 rfl
      rw [L8] at f
      try simp only [cond_true, cond_false] at f
      exact valR_part _ _ rfl _ 0 rfl _ _ f (qfn Q) (flt_q Q B) _ Try.underlying46 rfl (by rw [qfn_size]; kernel_rfl) rfl
    refine stepV 2 rfl rfl (fun _ _ _ h => h) ?_ ?_
    · rintro p L w1 ⟨hsz, hB, f, a, r⟩ hk
      have L8 : L 8 = false := hk.2.2 8 rfl
      first | exact valR_row _ _ rfl _ rfl _ _ a _ Try.underlying39 rfl (by first | kernel_rfl | (rw [vfn_size]; kernel_rfl)) rfl | (have hc := a.cellIs (vfn_get _ (show 0 < 3 by omega)); go_simp; exact ⟨rfl, rfl⟩)
    refine stepD 3 rfl (fun p => rfl) (fun _ _ _ h => h) more ?_ ?_
    · rintro p L w1 ⟨hsz, hB, f, a, r⟩ hk
      go_simp
      refine (TU.out _).mono ?_
      rintro e w2 ⟨rfl, h2⟩
      first | exact ⟨rfl, h2⟩ | (subst h2; exact ⟨rfl, Below.refl _ _⟩)
    refine stepV 4 rfl rfl (fun _ _ _ h => h) ?_ ?_
    · intros; go_simp; exact ⟨rfl, rfl⟩
    refine stepV 5 rfl rfl (fun _ _ _ h => h) ?_ ?_
    · intros; go_simp; exact ⟨rfl, rfl⟩
    refine stepV 6 rfl rfl (fun _ _ _ h => h) ?_ ?_
    · intros; go_simp; exact ⟨rfl, rfl⟩
    refine stepV 7 rfl rfl (fun _ _ _ h => h) ?_ ?_
    · intros; go_simp; exact ⟨rfl, rfl⟩
    refine AllI.cons ?_ ?_
    · refine stepI_store 8 rfl (fun p => rfl) (fun p => rfl) _ _ _ rfl (fun _ => w.heap.size) 0 (fun p => rfl) (fun p => (qfn (turnF Q h))) (fun p => rfl) (fun p => (fltc (Q, B))) (fun p => (fltc (turnF Q h, B))) 74 (fun p => over_q _ _ _) (fun p => by first | (rw [qfn_size, fltc_size]; decide) | simp [qfn_size, fltc_size]) (fun p => by rw [qfn_size]; kernel_rfl) (fun p => qfn_one _) ?_ ?_
      · rintro p L w1 ⟨hsz, hB, f, a, r⟩ hk
        have L8 : L 8 = false := hk.1
        rw [L8] at f
        try simp only [cond_true, cond_false] at f
        exact f
      · rintro p L w1 ⟨hsz, hB, f, a, r⟩ hk
        have L8 : L 8 = false := hk.1
        skip
        refine ⟨(by simpa using hsz), Below.setRow hB (by first | exact Nat.le_trans hW0 hp.1 | exact ge_f | omega | (have := hB.size; simp at this ⊢; omega)) _, ?_, a.rowOther (by first | exact ne_a_f | exact Ne.symm ne_f_a | omega) _, r.rowOther (by first | exact ne_r_f | exact Ne.symm ne_f_r | omega) _⟩
        rw [show upL L 8 8 = true from rfl]
        exact f.row _
    exact AllI.nil
  case hV0 => exact fun p q => AllI.nil
  case he =>
  clear hB f a r
  rintro p w0r ⟨hsz, hB, f, a, r⟩
  replace f : blk w0r w.heap.size (fltc (turnF Q h, B)) 74 := f
  clear lt_f
  clear lt_a
  clear lt_r
  clear hsz hW0
  go_upto_region 3 with (fail)
  have lt_f := f.lt
  have lt_a := a.lt
  have lt_r := r.lt
  have hW0 : w.heap.size ≤ w0r.heap.size := by have := hB.size; first | exact this | simpa using this
  apply wp_region_Q 2 [0, 1] [] [_, (fun _ => undef)] (fun p L w' => w0r.heap.size ≤ w'.heap.size ∧ Below w.heap.size w w' ∧ blk w' w.heap.size (fltc (turnF Q h, B)) 74 ∧ blk w' (w.heap.size + 1) (vfn h) 39 ∧ blk w' (w.heap.size + 2) (bif L 1 then (fltc (turnF Q h, B)) else (fltc (fun _ => 0, fun _ => 0))) 74) _ [(0, 16)] [0, 1]
  case hn => rfl
  case hB => kernel_rfl
  case hds => kernel_rfl
  case hA => (intro p; simp only [putsD, Act.put, List.setIfInBounds_toArray, List.set_cons_zero, List.set_cons_succ, List.getD_cons_zero, List.getD_cons_succ]; exact rfl)
  case h0 => exact fun p => ⟨Nat.le_refl _, hB, f, a, r⟩
  case hmore => exact fun p L w1 w2 ⟨hsz, hB, f, a, r⟩ hm => ⟨Nat.le_trans hsz hm.size, hB.trans (hm.mono (Nat.le_trans hW0 hsz)), f.below hm f.lt, a.below hm a.lt, r.below hm r.lt⟩
  case hs =>
    intro more
    refine stepV 0 rfl rfl (fun _ _ _ h => h) ?_ ?_
    · rintro p L w1 ⟨hsz, hB, f, a, r⟩ hk
      have L1 : L 1 = false := hk.2.2 1 rfl
      first | exact valR_row _ _ rfl _ rfl _ _ f _ Try.underlying74 rfl (by first | kernel_rfl | (rw [fltc_size]; kernel_rfl)) rfl | (have hc := f.cellIs (show _[0]? = some _ from rfl); go_simp; exact ⟨rfl, rfl⟩)
    refine AllI.cons ?_ ?_
    · refine stepI_store 1 rfl (fun p => rfl) (fun p => rfl) _ _ _ rfl (fun _ => (w.heap.size + 2)) 0 (fun p => rfl) (fun p => (fltc (turnF Q h, B))) (fun p => rfl) (fun p => (fltc (fun _ => 0, fun _ => 0))) (fun p => (fltc (turnF Q h, B))) 74 (fun p => rfl) (fun p => by first | (rw [fltc_size, fltc_size]; decide) | simp [fltc_size, fltc_size]) (fun p => by rw [fltc_size]; kernel_rfl) (fun p => fltc_one _) ?_ ?_
      · rintro p L w1 ⟨hsz, hB, f, a, r⟩ hk
        have L1 : L 1 = false := hk.1
        rw [L1] at r
        try simp only [cond_true, cond_false] at r
        exact r
      · rintro p L w1 ⟨hsz, hB, f, a, r⟩ hk
        have L1 : L 1 = false := hk.1
        skip
        refine ⟨(by simpa using hsz), Below.setRow hB (by first | exact Nat.le_trans hW0 hp.1 | exact ge_r | omega | (have := hB.size; simp at this ⊢; omega)) _, f.rowOther (by first | exact ne_f_r | exact Ne.symm ne_r_f | omega) _, a.rowOther (by first | exact ne_a_r | exact Ne.symm ne_r_a | omega) _, ?_⟩
        rw [show upL L 1 1 = true from rfl]
        exact r.row _
    exact AllI.nil
  case hV0 => exact fun p q => AllI.nil
  case he =>
  clear hB f a r
  rintro p w0rr ⟨hsz, hB, f, a, r⟩
  replace r : blk w0rr (w.heap.size + 2) (fltc (turnF Q h, B)) 74 := r
  clear lt_f
  clear lt_a
  clear lt_r
  clear hsz hW0
  go_wp2_with (fail)
  refine bodyPost_ret (results_cell_row rfl _ _ _ _ _ _ _ rfl r Try.underlying74 rfl (by first | kernel_rfl | (rw [fltc_size]; kernel_rfl))) rfl ?_
  refine ⟨?_, hB⟩
  rfl
theorem rfturn_any (Q B h : Nat → Int) (w : World) (hQ : ∀ i, i < 4 → I64 (Q i)) (hh : ∀ i, i < 3 → I64 (h i)) : Calls Try.prog 85 #[.agg (fltc (Q, B)), .agg (vfn h)] w fun e w' => e = .returned (.agg (fltc (ftF Q h, B))) ∧ Below w.heap.size w w' := by
  unfold ftF
  by_cases hz : zV h = true
  · rw [if_pos hz]; exact rfturn_no Q B h w hz
  · rw [if_neg hz]; exact rfturn_yes Q B h w (by simpa using hz) hQ hh
set_option maxRecDepth 100000 in
set_option maxHeartbeats 2000000 in
theorem rfpred_no (Q B r : Nat → Int) (w : World) (hr : smallB r 268435456 = false) : Calls Try.prog 40 #[.agg (fltc (Q, B)), .agg (vfn r)] w fun e w' => e = .returned (.tuple #[.agg (fltc (Q, B)), .int .i64 2]) ∧ Below w.heap.size w w' := by
  have WI := Lib.hid (fun w => rgwithin_any r 268435456 w (by omega) (by omega))
  rw [hr] at WI
  go_enter Try.func40, Try.ntmps40
  go_upto_region 1 with (fail)
  simp only [fltc_zero]
  have f : blk (((w.alloc (.cells (fltc (Q, B)) 74)).alloc (.cells (vfn r) 39)).alloc (.cells (fltc (fun _ => 0, fun _ => 0)) 74)) w.heap.size (fltc (Q, B)) 74 := ((blk.new _ _ _).alloc _).alloc _
  have a : blk (((w.alloc (.cells (fltc (Q, B)) 74)).alloc (.cells (vfn r) 39)).alloc (.cells (fltc (fun _ => 0, fun _ => 0)) 74)) (w.heap.size + 1) (vfn r) 39 := (blk.new' (by simp)).alloc _
  have o : blk (((w.alloc (.cells (fltc (Q, B)) 74)).alloc (.cells (vfn r) 39)).alloc (.cells (fltc (fun _ => 0, fun _ => 0)) 74)) (w.heap.size + 2) (fltc (fun _ => 0, fun _ => 0)) 74 := blk.new' (by simp)
  have hB : Below w.heap.size w (((w.alloc (.cells (fltc (Q, B)) 74)).alloc (.cells (vfn r) 39)).alloc (.cells (fltc (fun _ => 0, fun _ => 0)) 74)) := by go_grown
  generalize (((w.alloc (.cells (fltc (Q, B)) 74)).alloc (.cells (vfn r) 39)).alloc (.cells (fltc (fun _ => 0, fun _ => 0)) 74)) = w0 at *
  go_upto_region 2 with (first
    | (refine wpList_load_rowG ?hw _ _ rfl _ rfl _ _ _ _ a Try.underlying39 rfl ?hi ?_; (case hw => (first | rfl | (simp [Region.wanted, yielded]; done))); (case hi => (first | kernel_rfl | (rw [vfn_size]; kernel_rfl))))
    | (go_at_call 77; with_reducible refine (WI.out _).mono ?_; rintro e w1 ⟨rfl, hb⟩; replace hB := hB.trans (hb.mono hB.size); replace f := f.below hb f.lt; replace a := a.below hb a.lt; replace o := o.below hb o.lt; clear hb))
  have lt_f := f.lt
  have lt_a := a.lt
  have lt_o := o.lt
  have hW0 : w.heap.size ≤ w1.heap.size := by have := hB.size; first | exact this | simpa using this
  apply wp_region_Q 3 [0, 1, 3] [] [_, (fun _ => undef), _] (fun p L w' => w1.heap.size ≤ w'.heap.size ∧ Below w.heap.size w w' ∧ blk w' w.heap.size (fltc (Q, B)) 74 ∧ blk w' (w.heap.size + 1) (vfn r) 39 ∧ blk w' (w.heap.size + 2) (bif L 1 then (fltc (Q, B)) else (fltc (fun _ => 0, fun _ => 0))) 74) _ [(0, 11), (2, 5)] [0, 1, 2]
  case hn => rfl
  case hB => kernel_rfl
  case hds => kernel_rfl
  case hA => (intro p; simp only [putsD, Act.put, List.setIfInBounds_toArray, List.set_cons_zero, List.set_cons_succ, List.getD_cons_zero, List.getD_cons_succ]; exact rfl)
  case h0 => exact fun p => ⟨Nat.le_refl _, hB, f, a, o⟩
  case hmore => exact fun p L w1 w2 ⟨hsz, hB, f, a, o⟩ hm => ⟨Nat.le_trans hsz hm.size, hB.trans (hm.mono (Nat.le_trans hW0 hsz)), f.below hm f.lt, a.below hm a.lt, o.below hm o.lt⟩
  case hs =>
    intro more
    refine stepV 0 rfl rfl (fun _ _ _ h => h) ?_ ?_
    · rintro p L w1 ⟨hsz, hB, f, a, o⟩ hk
      have L1 : L 1 = false := hk.2.2 1 rfl
      first | exact valR_row _ _ rfl _ rfl _ _ f _ Try.underlying74 rfl (by first | kernel_rfl | (rw [fltc_size]; kernel_rfl)) rfl | (have hc := f.cellIs (show _[0]? = some _ from rfl); go_simp; exact ⟨rfl, rfl⟩)
    refine AllI.cons ?_ ?_
    · refine stepI_store 1 rfl (fun p => rfl) (fun p => rfl) _ _ _ rfl (fun _ => (w.heap.size + 2)) 0 (fun p => rfl) (fun p => (fltc (Q, B))) (fun p => rfl) (fun p => (fltc (fun _ => 0, fun _ => 0))) (fun p => (fltc (Q, B))) 74 (fun p => rfl) (fun p => by first | (rw [fltc_size, fltc_size]; decide) | simp [fltc_size, fltc_size]) (fun p => by rw [fltc_size]; kernel_rfl) (fun p => fltc_one _) ?_ ?_
      · rintro p L w1 ⟨hsz, hB, f, a, o⟩ hk
        have L1 : L 1 = false := hk.1
        rw [L1] at o
        try simp only [cond_true, cond_false] at o
        exact o
      · rintro p L w1 ⟨hsz, hB, f, a, o⟩ hk
        have L1 : L 1 = false := hk.1
        skip
        refine ⟨(by simpa using hsz), Below.setRow hB (by first | exact Nat.le_trans hW0 hp.1 | exact ge_o | omega | (have := hB.size; simp at this ⊢; omega)) _, f.rowOther (by first | exact ne_f_o | exact Ne.symm ne_o_f | omega) _, a.rowOther (by first | exact ne_a_o | exact Ne.symm ne_o_a | omega) _, ?_⟩
        rw [show upL L 1 1 = true from rfl]
        exact o.row _
    refine stepV 2 rfl rfl (fun _ _ _ h => h) ?_ ?_
    · intros; go_simp; exact ⟨rfl, rfl⟩
    exact AllI.nil
  case hV0 => exact fun p q => AllI.nil
  case he =>
  clear hB f a o
  rintro p w1r ⟨hsz, hB, f, a, o⟩
  replace o : blk w1r (w.heap.size + 2) (fltc (Q, B)) 74 := o
  clear lt_f
  clear lt_a
  clear lt_o
  clear hsz hW0
  go_wp2_with (fail)
  refine bodyPost_ret (results_vec rfl _ _ _ _ _ _ _ rfl o Try.underlying74 rfl (by first | kernel_rfl | (rw [fltc_size]; kernel_rfl))) rfl ?_
  refine ⟨?_, hB⟩
  rfl
set_option maxRecDepth 100000 in
set_option maxHeartbeats 4000000 in
theorem rfpred_ok (Q B r : Nat → Int) (w : World) (hr : smallB r 268435456 = true) (hQ : ∀ i, i < 4 → I64 (Q i)) (hB : ∀ i, i < 3 → -16777216 ≤ B i ∧ B i ≤ 16777216) : Calls Try.prog 40 #[.agg (fltc (Q, B)), .agg (vfn r)] w fun e w' => e = .returned (.tuple #[.agg (fltc (ftF Q (partF (vsubF r B) 2), B)), .int .i64 0]) ∧ Below w.heap.size w w' := by
  have WI := Lib.hid (fun w => rgwithin_any r 268435456 w (by omega) (by omega))
  have HR := Lib.hid (small_bd hr)
  have HB := Lib.hid hB
  have ES := Lib.hid (vsub_small hr hB)
  rw [hr] at WI
  clear hr hB
  have TU := Lib.hid (fun w => rfturn_any Q B (partF (vsubF r B) 2) w hQ (partF_I _ _))
  clear hQ
  go_enter Try.func40, Try.ntmps40
  go_upto_region 1 with (fail)
  simp only [fltc_zero]
  have f : blk (((w.alloc (.cells (fltc (Q, B)) 74)).alloc (.cells (vfn r) 39)).alloc (.cells (fltc (fun _ => 0, fun _ => 0)) 74)) w.heap.size (fltc (Q, B)) 74 := ((blk.new _ _ _).alloc _).alloc _
  have a : blk (((w.alloc (.cells (fltc (Q, B)) 74)).alloc (.cells (vfn r) 39)).alloc (.cells (fltc (fun _ => 0, fun _ => 0)) 74)) (w.heap.size + 1) (vfn r) 39 := (blk.new' (by simp)).alloc _
  have o : blk (((w.alloc (.cells (fltc (Q, B)) 74)).alloc (.cells (vfn r) 39)).alloc (.cells (fltc (fun _ => 0, fun _ => 0)) 74)) (w.heap.size + 2) (fltc (fun _ => 0, fun _ => 0)) 74 := blk.new' (by simp)
  have hB : Below w.heap.size w (((w.alloc (.cells (fltc (Q, B)) 74)).alloc (.cells (vfn r) 39)).alloc (.cells (fltc (fun _ => 0, fun _ => 0)) 74)) := by go_grown
  generalize (((w.alloc (.cells (fltc (Q, B)) 74)).alloc (.cells (vfn r) 39)).alloc (.cells (fltc (fun _ => 0, fun _ => 0)) 74)) = w0 at *
  go_upto_region 3 with (first
    | (refine wpList_load_rowG ?hw _ _ rfl _ rfl _ _ _ _ a Try.underlying39 rfl ?hi ?_; (case hw => (first | rfl | (simp [Region.wanted, yielded]; done))); (case hi => (first | kernel_rfl | (rw [vfn_size]; kernel_rfl))))
    | (go_at_call 77; with_reducible refine (WI.out _).mono ?_; rintro e w1 ⟨rfl, hb⟩; replace hB := hB.trans (hb.mono hB.size); replace f := f.below hb f.lt; replace a := a.below hb a.lt; replace o := o.below hb o.lt; clear hb))
  have lt_f := f.lt
  have lt_a := a.lt
  have lt_o := o.lt
  have hW0 : w.heap.size ≤ w1.heap.size := by have := hB.size; first | exact this | simpa using this
  apply wp_region_Q 1 [0] [0] [(fun p => .pointer (some ⟨p 0, 0, none⟩))] (fun p L w' => w1.heap.size ≤ w'.heap.size ∧ Below w.heap.size w w' ∧ blk w' w.heap.size (fltc (Q, B)) 74 ∧ blk w' (w.heap.size + 1) (vfn r) 39 ∧ blk w' (w.heap.size + 2) (fltc (fun _ => 0, fun _ => 0)) 74 ∧ (L 0 = true → w1.heap.size ≤ p 0 ∧ blk w' (p 0) (vfn fun _ => 0) 39)) _ [(0, 6)] [0]
  case hn => rfl
  case hB => kernel_rfl
  case hds => kernel_rfl
  case hA => (intro p; simp only [putsD, Act.put, List.setIfInBounds_toArray, List.set_cons_zero, List.set_cons_succ, List.getD_cons_zero, List.getD_cons_succ]; exact rfl)
  case h0 => exact fun p => ⟨Nat.le_refl _, hB, f, a, o, fun h => absurd h (by decide)⟩
  case hmore => exact fun p L w1 w2 ⟨hsz, hB, f, a, o, h_h⟩ hm => ⟨Nat.le_trans hsz hm.size, hB.trans (hm.mono (Nat.le_trans hW0 hsz)), f.below hm f.lt, a.below hm a.lt, o.below hm o.lt, fun hl => ⟨(h_h hl).1, (h_h hl).2.below hm (h_h hl).2.lt⟩⟩
  case hs =>
    intro more
    refine AllI.cons ?_ ?_
    · refine stepI_alloc 0 rfl (fun p => rfl) rfl (vfn fun _ => 0) 39 (fun p => rfl) ?_ ?_
      · intro p w1
        go_simp
        first | rfl | rw [zero_vec]
      rintro p L w1 ⟨hsz, hB, f, a, o, h_h⟩ hk
      refine ⟨Nat.le_trans hsz (by simp), hB.alloc (Nat.le_trans (by first | exact hW0 | (have := hB.size; simp at this ⊢; omega)) hsz) _, f.alloc _, a.alloc _, o.alloc _, fun _ => ⟨hsz, ?_⟩⟩
      exact blk.new _ _ _
    exact AllI.nil
  case hV0 =>
    intro p q
    refine AllI.cons ?_ ?_
    · skip
      iterate 1 (refine AllI.cons (by first | exact .inl rfl | (refine .inr ?_; simp only [List.getD_cons_zero, List.getD_cons_succ]; done) | exact .inr rfl) ?_)
      exact AllI.nil
    exact AllI.nil
  case he =>
  clear hB f a o
  rintro p w1r ⟨hsz, hB, f, a, o, h_h⟩
  obtain ⟨le_h, h⟩ := h_h rfl
  clear h_h
  replace h : blk w1r (p 0) (vfn fun _ => 0) 39 := h
  have ne_f_h : w.heap.size ≠ p 0 := Nat.ne_of_lt (Nat.lt_of_lt_of_le lt_f le_h)
  have ne_a_h : (w.heap.size + 1) ≠ p 0 := Nat.ne_of_lt (Nat.lt_of_lt_of_le lt_a le_h)
  have ne_o_h : (w.heap.size + 2) ≠ p 0 := Nat.ne_of_lt (Nat.lt_of_lt_of_le lt_o le_h)
  have ge_h : w.heap.size ≤ p 0 := Nat.le_trans hW0 le_h
  generalize p 0 = h_b at *
  clear lt_f
  clear lt_a
  clear lt_o
  clear hsz hW0
  go_upto_region 4 with (fail)
  rw [preF_zero_as (fun _ => 0) (partF (vsubF r B) 2)] at h
  go_wp2_with (fail)
  go_loopg [7] 3 (fun g_ iv wr => ∃ k : Nat, g_ + k = 3 ∧ iv = .int .i64 k ∧ blk wr w.heap.size (fltc (Q, B)) 74 ∧ blk wr (w.heap.size + 1) (vfn r) 39 ∧ blk wr (w.heap.size + 2) (fltc (fun _ => 0, fun _ => 0)) 74 ∧ blk wr h_b (vfn (preF (partF (vsubF r B) 2) (fun _ => 0) k)) 39 ∧ Below w.heap.size w wr)
  case atStart => exact ⟨0, rfl, rfl, f, a, o, h, hB⟩
  case round =>
    clear f a o h hB
    obtain ⟨k, hk, rfl, f, a, o, h, hB⟩ := hrel
    by_cases hkn : k < 3
    · have hdk : decide ((k : Int) < 3) = true := decide_eq_true (by omega)
      have hdk' : decide (k < 3) = true := decide_eq_true (by omega)
      have hk3 : (k : Int) < 3 := by omega
      have hw3 : IntKind.i64.wrap ((k : Int) + 1) = ((k + 1 : Nat) : Int) := by rw [IntKind.wrap_i64]; omega
      have H0 := HR.out k hkn
      have H1 := HB.out k hkn
      have e1 : IntKind.i64.wrap (r k - B k) = r k - B k := by rw [IntKind.wrap_i64]; omega
      have NE := Lib.hid (fun w => near_any (r k - B k) 2 w ⟨by omega, by omega⟩ ⟨by omega, by omega⟩)
      clear H0 H1
      have ev : ratioV (r k - B k) 1 2 = partF (vsubF r B) 2 k := by unfold partF; rw [ES.out k hkn]
      go_upto_region 7 with (fail)
      have lt_f := f.lt
      have lt_a := a.lt
      have lt_o := o.lt
      have lt_h := h.lt
      have hW0 : w.heap.size ≤ wr.heap.size := by have := hB.size; first | exact this | simpa using this
      apply wp_region_I 12 [0, 0, 2, 6, 0, 0, 48, 112, 254, 510, 1023, 2047] [] [_, _, _, _, _, _, _, _, _, _, _, (fun _ => undef)] (fun p L w' => wr.heap.size ≤ w'.heap.size ∧ Below w.heap.size w w' ∧ blk w' w.heap.size (fltc (Q, B)) 74 ∧ blk w' (w.heap.size + 1) (vfn r) 39 ∧ blk w' (w.heap.size + 2) (fltc (fun _ => 0, fun _ => 0)) 74 ∧ blk w' h_b (bif L 11 then (vfn (preF (partF (vsubF r B) 2) (fun _ => 0) (k + 1))) else (vfn (preF (partF (vsubF r B) 2) (fun _ => 0) k))) 39) _ [(0, 16), (1, 17), (2, 18), (3, 19), (4, 20), (5, 21), (6, 22), (7, 23), (8, 24), (9, 25), (10, 26)] [0, 1, 2, 3, 4, 5, 6, 7, 8, 9, 10, 11]
      case hn => rfl
      case hm => kernel_rfl
      case hB => kernel_rfl
      case hds => kernel_rfl
      case hA => (intro p; simp only [putsD, Act.put, List.setIfInBounds_toArray, List.set_cons_zero, List.set_cons_succ, List.getD_cons_zero, List.getD_cons_succ]; exact rfl)
      case h0 => exact fun p => ⟨Nat.le_refl _, hB.drew, f.drew, a.drew, o.drew, h.drew⟩
      case hmore => exact fun p L w1 w2 ⟨hsz, hB, f, a, o, h⟩ hm => ⟨Nat.le_trans hsz hm.size, hB.trans (hm.mono (Nat.le_trans hW0 hsz)), f.below hm f.lt, a.below hm a.lt, o.below hm o.lt, h.below hm h.lt⟩
      case hs =>
        intro more
        refine stepV 0 rfl rfl (fun _ _ _ h => h) ?_ ?_
        · intros; go_simp; exact ⟨rfl, rfl⟩
        refine stepV 1 rfl rfl (fun _ _ _ h => h) ?_ ?_
        · intros; go_simp; exact ⟨rfl, rfl⟩
        refine stepV 2 rfl rfl (fun _ _ _ h => h) ?_ ?_
        · intros; go_simp; exact ⟨rfl, rfl⟩
        refine stepV 3 rfl rfl (fun _ _ _ h => h) ?_ ?_
        · rintro p L w1 ⟨hsz, hB, f, a, o, h⟩ hk
          have L11 : L 11 = false := hk.2.2 11 rfl
          have hc : w1.cell? ⟨w.heap.size + 1, k, none⟩ = some (.int .i64 (r k)) := a.cellIs (vfn_get _ hkn)
          go_simp
          exact ⟨rfl, rfl⟩
        refine stepV 4 rfl rfl (fun _ _ _ h => h) ?_ ?_
        · intros; go_simp; exact ⟨rfl, rfl⟩
        refine stepV 5 rfl rfl (fun _ _ _ h => h) ?_ ?_
        · intros; go_simp; exact ⟨rfl, rfl⟩
        refine stepV 6 rfl rfl (fun _ _ _ h => h) ?_ ?_
        · intros; go_simp; exact ⟨rfl, rfl⟩
        refine stepV 7 rfl rfl (fun _ _ _ h => h) ?_ ?_
        · rintro p L w1 ⟨hsz, hB, f, a, o, h⟩ hk
          have L11 : L 11 = false := hk.2.2 11 rfl
          have hc : w1.cell? ⟨w.heap.size, 4 + k, none⟩ = some (.int .i64 (B k)) := f.cellIs (by have := flt_b Q B k (by rw [vfn_size]; exact hkn); rw [this]; exact vfn_get _ hkn)
          go_simp
          exact ⟨rfl, rfl⟩
        refine stepV 8 rfl rfl (fun _ _ _ h => h) ?_ ?_
        · intros; go_simp; exact ⟨rfl, rfl⟩
        refine stepD 9 rfl (fun p => rfl) (fun _ _ _ h => h) more ?_ ?_
        · rintro p L w1 ⟨hsz, hB, f, a, o, h⟩ hk
          go_simp
          refine (NE.out _).mono ?_
          rintro e w2 ⟨rfl, h2⟩
          first | exact ⟨rfl, h2⟩ | (subst h2; exact ⟨rfl, Below.refl _ _⟩)
        refine stepV 10 rfl rfl (fun _ _ _ h => h) ?_ ?_
        · intros; go_simp; exact ⟨rfl, rfl⟩
        refine AllI.cons ?_ ?_
        · refine stepI_cell 11 rfl (fun p => rfl) (fun p => rfl) (fun _ => h_b) (k) (fun p => .int .i64 (ratioV (r k - B k) 1 2)) (fun p => (vfn (preF (partF (vsubF r B) 2) (fun _ => 0) k))) (fun p => (vfn (preF (partF (vsubF r B) 2) (fun _ => 0) (k + 1)))) 39 (fun p => by rw [ev]; exact preF_set _ _ hkn) ?_ ?_ ?_
          · rintro p L w1 ⟨hsz, hB, f, a, o, h⟩ hk
            have L11 : L 11 = false := hk.1
            rw [L11] at h
            try simp only [cond_true, cond_false] at h
            exact h
          · intro p w1 hb
            have fz : w1.frozen? ⟨h_b, k, none⟩ = false := hb.free _
            have cz : ∃ u, w1.cell? ⟨h_b, k, none⟩ = some u := ⟨_, hb.cellIs (vfn_get _ hkn)⟩
            obtain ⟨u, cz⟩ := cz
            go_simp
            try exact ⟨_, rfl, by first | exact .inl rfl | exact .inr rfl⟩
          · rintro p L w1 ⟨hsz, hB, f, a, o, h⟩ hk
            have L11 : L 11 = false := hk.1
            refine ⟨(by simpa using hsz), Below.setRow hB (by first | exact Nat.le_trans hW0 hp.1 | exact ge_h | omega | (have := hB.size; simp at this ⊢; omega)) _, f.rowOther (by first | exact ne_f_h | exact Ne.symm ne_h_f | omega) _, a.rowOther (by first | exact ne_a_h | exact Ne.symm ne_h_a | omega) _, o.rowOther (by first | exact ne_o_h | exact Ne.symm ne_h_o | omega) _, ?_⟩
            rw [show upL L 11 11 = true from rfl]
            exact h.row _
        exact AllI.nil
      case hV0 => exact fun p q => AllI.nil
      case he =>
      clear hB f a o h
      rintro p wrr ⟨hsz, hB, f, a, o, h⟩
      replace h : blk wrr h_b (vfn (preF (partF (vsubF r B) 2) (fun _ => 0) (k + 1))) 39 := h
      clear lt_f
      clear lt_a
      clear lt_o
      clear lt_h
      clear hsz hW0
      go_wp2_with (fail)
      go_roundg (3 - (k + 1))
      case rel =>
        exact ⟨k + 1, by omega, rfl, f, a, o, h, hB⟩
      case measure => omega
    · obtain rfl : k = 3 := by omega
      rw [preF_all] at h
      go_upto_region 8 with (fail)
      have lt_f := f.lt
      have lt_a := a.lt
      have lt_o := o.lt
      have lt_h := h.lt
      have hW0 : w.heap.size ≤ wr.heap.size := by have := hB.size; first | exact this | simpa using this
      apply wp_region_Q 5 [0, 1, 3, 7, 15] [] [_, _, _, (fun _ => undef), _] (fun p L w' => wr.heap.size ≤ w'.heap.size ∧ Below w.heap.size w w' ∧ blk w' w.heap.size (fltc (Q, B)) 74 ∧ blk w' (w.heap.size + 1) (vfn r) 39 ∧ blk w' (w.heap.size + 2) (bif L 3 then (fltc (ftF Q (partF (vsubF r B) 2), B)) else (fltc (fun _ => 0, fun _ => 0))) 74 ∧ blk w' h_b (vfn (partF (vsubF r B) 2)) 39) _ [(0, 27), (1, 28), (2, 29), (4, 5)] [0, 1, 2, 3, 4]
      case hn => rfl
      case hB => kernel_rfl
      case hds => kernel_rfl
      case hA => (intro p; simp only [putsD, Act.put, List.setIfInBounds_toArray, List.set_cons_zero, List.set_cons_succ, List.getD_cons_zero, List.getD_cons_succ]; exact rfl)
      case h0 => exact fun p => ⟨Nat.le_refl _, hB, f, a, o, h⟩
      case hmore => exact fun p L w1 w2 ⟨hsz, hB, f, a, o, h⟩ hm => ⟨Nat.le_trans hsz hm.size, hB.trans (hm.mono (Nat.le_trans hW0 hsz)), f.below hm f.lt, a.below hm a.lt, o.below hm o.lt, h.below hm h.lt⟩
      case hs =>
        intro more
        refine stepV 0 rfl rfl (fun _ _ _ h => h) ?_ ?_
        · rintro p L w1 ⟨hsz, hB, f, a, o, h⟩ hk
          have L3 : L 3 = false := hk.2.2 3 rfl
          first | exact valR_row _ _ rfl _ rfl _ _ f _ Try.underlying74 rfl (by first | kernel_rfl | (rw [fltc_size]; kernel_rfl)) rfl | (have hc := f.cellIs (show _[0]? = some _ from rfl); go_simp; exact ⟨rfl, rfl⟩)
        refine stepV 1 rfl rfl (fun _ _ _ h => h) ?_ ?_
        · rintro p L w1 ⟨hsz, hB, f, a, o, h⟩ hk
          have L3 : L 3 = false := hk.2.2 3 rfl
          first | exact valR_row _ _ rfl _ rfl _ _ h _ Try.underlying39 rfl (by first | kernel_rfl | (rw [vfn_size]; kernel_rfl)) rfl | (have hc := h.cellIs (vfn_get _ (show 0 < 3 by omega)); go_simp; exact ⟨rfl, rfl⟩)
        refine stepD 2 rfl (fun p => rfl) (fun _ _ _ h => h) more ?_ ?_
        · rintro p L w1 ⟨hsz, hB, f, a, o, h⟩ hk
          go_simp
          refine (TU.out _).mono ?_
          rintro e w2 ⟨rfl, h2⟩
          first | exact ⟨rfl, h2⟩ | (subst h2; exact ⟨rfl, Below.refl _ _⟩)
        refine AllI.cons ?_ ?_
        · refine stepI_store 3 rfl (fun p => rfl) (fun p => rfl) _ _ _ rfl (fun _ => (w.heap.size + 2)) 0 (fun p => rfl) (fun p => (fltc (ftF Q (partF (vsubF r B) 2), B))) (fun p => rfl) (fun p => (fltc (fun _ => 0, fun _ => 0))) (fun p => (fltc (ftF Q (partF (vsubF r B) 2), B))) 74 (fun p => rfl) (fun p => by first | (rw [fltc_size, fltc_size]; decide) | simp [fltc_size, fltc_size]) (fun p => by rw [fltc_size]; kernel_rfl) (fun p => fltc_one _) ?_ ?_
          · rintro p L w1 ⟨hsz, hB, f, a, o, h⟩ hk
            have L3 : L 3 = false := hk.1
            rw [L3] at o
            try simp only [cond_true, cond_false] at o
            exact o
          · rintro p L w1 ⟨hsz, hB, f, a, o, h⟩ hk
            have L3 : L 3 = false := hk.1
            skip
            refine ⟨(by simpa using hsz), Below.setRow hB (by first | exact Nat.le_trans hW0 hp.1 | exact ge_o | omega | (have := hB.size; simp at this ⊢; omega)) _, f.rowOther (by first | exact ne_f_o | exact Ne.symm ne_o_f | omega) _, a.rowOther (by first | exact ne_a_o | exact Ne.symm ne_o_a | omega) _, ?_, h.rowOther (by first | exact ne_h_o | exact Ne.symm ne_o_h | omega) _⟩
            rw [show upL L 3 3 = true from rfl]
            exact o.row _
        refine stepV 4 rfl rfl (fun _ _ _ h => h) ?_ ?_
        · intros; go_simp; exact ⟨rfl, rfl⟩
        exact AllI.nil
      case hV0 => exact fun p q => AllI.nil
      case he =>
      clear hB f a o h
      rintro p wrr ⟨hsz, hB, f, a, o, h⟩
      replace o : blk wrr (w.heap.size + 2) (fltc (ftF Q (partF (vsubF r B) 2), B)) 74 := o
      clear lt_f
      clear lt_a
      clear lt_o
      clear lt_h
      clear hsz hW0
      go_wp2_with (fail)
      refine bodyPost_ret (results_vec rfl _ _ _ _ _ _ _ rfl o Try.underlying74 rfl (by first | kernel_rfl | (rw [fltc_size]; kernel_rfl))) rfl ?_
      refine ⟨?_, hB⟩
      rfl
end Go.Proofs.Ytnkjbdfhdenbcaa
