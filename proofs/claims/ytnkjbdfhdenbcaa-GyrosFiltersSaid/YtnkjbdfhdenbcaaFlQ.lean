/-
  The filter of the specification: Correct.
-/
import Derived.Test.YtnkjbdfhdenbcaaFlP
set_option linter.unusedSimpArgs false
set_option linter.unusedVariables false
namespace Go.Proofs.Ytnkjbdfhdenbcaa
open Go.RowKit PM Dt
theorem part_cells (f : Nat → Int) (d : Int) : #[Value.int .i64 (ratioV (f 0) 1 d), .int .i64 (ratioV (f 1) 1 d), .int .i64 (ratioV (f 2) 1 d)] = vfn (partF f d) := by unfold vfn partF; rfl
theorem flt_set (Q a b : Nat → Int) {k : Nat} (h : k < 3) : (fltc (Q, preF a b k)).setIfInBounds (4 + k) (.int .i64 (a k)) = fltc (Q, preF a b (k + 1)) := by
  unfold fltc flt preF
  rcases (show k = 0 ∨ k = 1 ∨ k = 2 by omega) with rfl | rfl | rfl <;> simp
theorem flt_all (Q a b : Nat → Int) : fltc (Q, preF a b 3) = fltc (Q, a) := by unfold fltc flt preF; simp
theorem part_small {p : Nat → Int} (hp : smallB p 1048576 = true) {i : Nat} (hi : i < 3) : -1048576 ≤ ratioV (p i) 1 32 ∧ ratioV (p i) 1 32 ≤ 1048576 := by
  have := small_bd hp i hi
  rw [ratio1 (by omega) (by omega) ⟨by omega, by omega⟩]
  omega
theorem corF_eq {B p : Nat → Int} (hB : ∀ i, i < 3 → -16777216 ≤ B i ∧ B i ≤ 16777216) (hp : smallB p 1048576 = true) {i : Nat} (hi : i < 3) : corF B p i = clampV (B i - ratioV (p i) 1 32) (-16777216) 16777216 := by
  have o2 : okV B = true := okV_of fun i hi => by have := hB i hi; omega
  have o1 : okV (partF p 32) = true := okV_of fun i hi => by have := part_small hp hi; unfold partF; omega
  have o3 : okV (subF B (partF p 32)) = true := okV_of fun i hi => by have := part_small hp hi; have := hB i hi; unfold subF partF; omega
  have e : vsubF B (partF p 32) = subF B (partF p 32) := by unfold vsubF resF; rw [o1, o2, o3]; rfl
  unfold corF
  rw [e]
  congr 1
  show 0 + subF B (partF p 32) i = _
  unfold subF partF
  omega
set_option maxRecDepth 100000 in
set_option maxHeartbeats 6000000 in
theorem rfcor_no (Q B q : Nat → Int) (w : World) (hQ : ∀ i, i < 4 → I64 (Q i)) (hq : ∀ i, i < 4 → I64 (q i)) (hb : betE Q q = 2) : Calls Try.prog 39 #[.agg (fltc (Q, B)), .agg (qfn q)] w fun e w' => e = .returned (.tuple #[.agg (fltc (Q, B)), .int .i64 2]) ∧ Below w.heap.size w w' := by
  have BE := Lib.hid (fun w => rbetween_any Q q w hQ hq)
  rw [hb] at BE
  clear hb
  clear hQ hq
  go_enter Try.func39, Try.ntmps39
  go_upto_region 1 with (fail)
  simp only [fltc_zero]
  have f : blk (((w.alloc (.cells (fltc (Q, B)) 74)).alloc (.cells (qfn q) 46)).alloc (.cells (fltc (fun _ => 0, fun _ => 0)) 74)) w.heap.size (fltc (Q, B)) 74 := ((blk.new _ _ _).alloc _).alloc _
  have a : blk (((w.alloc (.cells (fltc (Q, B)) 74)).alloc (.cells (qfn q) 46)).alloc (.cells (fltc (fun _ => 0, fun _ => 0)) 74)) (w.heap.size + 1) (qfn q) 46 := (blk.new' (by simp)).alloc _
  have o : blk (((w.alloc (.cells (fltc (Q, B)) 74)).alloc (.cells (qfn q) 46)).alloc (.cells (fltc (fun _ => 0, fun _ => 0)) 74)) (w.heap.size + 2) (fltc (fun _ => 0, fun _ => 0)) 74 := blk.new' (by simp)
  have hB : Below w.heap.size w (((w.alloc (.cells (fltc (Q, B)) 74)).alloc (.cells (qfn q) 46)).alloc (.cells (fltc (fun _ => 0, fun _ => 0)) 74)) := by go_grown
  generalize (((w.alloc (.cells (fltc (Q, B)) 74)).alloc (.cells (qfn q) 46)).alloc (.cells (fltc (fun _ => 0, fun _ => 0)) 74)) = w0 at *
  go_upto_region 1 with (fail)
  have lt_f := f.lt
  have lt_a := a.lt
  have lt_o := o.lt
  have hW0 : w.heap.size ≤ w0.heap.size := by have := hB.size; first | exact this | simpa using this
  apply wp_region_Q 10 [0, 1, 3, 7, 15, 31, 63, 127, 255, 511] [7] [_, _, _, _, _, _, _, (fun p => .pointer (some ⟨p 7, 0, none⟩)), (fun _ => undef), _] (fun p L w' => w0.heap.size ≤ w'.heap.size ∧ Below w.heap.size w w' ∧ blk w' w.heap.size (fltc (Q, B)) 74 ∧ blk w' (w.heap.size + 1) (qfn q) 46 ∧ blk w' (w.heap.size + 2) (fltc (fun _ => 0, fun _ => 0)) 74 ∧ (L 7 = true → w0.heap.size ≤ p 7 ∧ blk w' (p 7) (bif L 8 then (qfn (betF Q q)) else (qfn fun _ => 0)) 46)) _ [(0, 11), (1, 12), (2, 13), (3, 14), (4, 10), (5, 15), (6, 16), (7, 6), (9, 7)] [0, 1, 2, 3, 4, 5, 6, 7, 8, 9]
  case hn => rfl
  case hB => kernel_rfl
  case hds => kernel_rfl
  case hA => (intro p; simp only [putsD, Act.put, List.setIfInBounds_toArray, List.set_cons_zero, List.set_cons_succ, List.getD_cons_zero, List.getD_cons_succ]; exact rfl)
  case h0 => exact fun p => ⟨Nat.le_refl _, hB, f, a, o, fun h => absurd h (by decide)⟩
  case hmore => exact fun p L w1 w2 ⟨hsz, hB, f, a, o, h_d⟩ hm => ⟨Nat.le_trans hsz hm.size, hB.trans (hm.mono (Nat.le_trans hW0 hsz)), f.below hm f.lt, a.below hm a.lt, o.below hm o.lt, fun hl => ⟨(h_d hl).1, (h_d hl).2.below hm (h_d hl).2.lt⟩⟩
  case hs =>
    intro more
    refine stepV 0 rfl rfl (fun _ _ _ h => h) ?_ ?_
    · intros; go_simp; exact ⟨rfl, rfl⟩
    refine stepV 1 rfl rfl (fun _ _ _ h => h) ?_ ?_
    · rintro p L w1 ⟨hsz, hB, f, a, o, h_d⟩ hk
      have L8 : L 8 = false := hk.2.2 8 rfl
      exact valR_part _ _ rfl _ 0 rfl _ _ f (qfn Q) (flt_q Q B) _ Try.underlying46 rfl (by rw [qfn_size]; kernel_rfl) rfl
    refine stepV 2 rfl rfl (fun _ _ _ h => h) ?_ ?_
    · rintro p L w1 ⟨hsz, hB, f, a, o, h_d⟩ hk
      have L8 : L 8 = false := hk.2.2 8 rfl
      first | exact valR_row _ _ rfl _ rfl _ _ a _ Try.underlying46 rfl (by first | kernel_rfl | (rw [qfn_size]; kernel_rfl)) rfl | (have hc := a.cellIs (qfn_get _ (show 0 < 4 by omega)); go_simp; exact ⟨rfl, rfl⟩)
    refine stepD 3 rfl (fun p => rfl) (fun _ _ _ h => h) more ?_ ?_
    · rintro p L w1 ⟨hsz, hB, f, a, o, h_d⟩ hk
      go_simp
      refine (BE.out _).mono ?_
      rintro e w2 ⟨rfl, h2⟩
      first | exact ⟨rfl, h2⟩ | (subst h2; exact ⟨rfl, Below.refl _ _⟩)
    refine stepV 4 rfl rfl (fun _ _ _ h => h) ?_ ?_
    · intros; go_simp; exact ⟨rfl, rfl⟩
    refine stepV 5 rfl rfl (fun _ _ _ h => h) ?_ ?_
    · intros; go_simp; exact ⟨rfl, rfl⟩
    refine stepV 6 rfl rfl (fun _ _ _ h => h) ?_ ?_
    · intros; go_simp; exact ⟨rfl, rfl⟩
    refine AllI.cons ?_ ?_
    · refine stepI_alloc 7 rfl (fun p => rfl) rfl (qfn fun _ => 0) 46 (fun p => rfl) ?_ ?_
      · intro p w1
        go_simp
        first | rfl | rw [zero_quat]
      rintro p L w1 ⟨hsz, hB, f, a, o, h_d⟩ hk
      have L8 : L 8 = false := hk.2.2 8 rfl
      refine ⟨Nat.le_trans hsz (by simp), hB.alloc (Nat.le_trans (by first | exact hW0 | (have := hB.size; simp at this ⊢; omega)) hsz) _, f.alloc _, a.alloc _, o.alloc _, fun _ => ⟨hsz, ?_⟩⟩
      rw [show upL L 7 8 = false from L8]
      exact blk.new _ _ _
    refine AllI.cons ?_ ?_
    · refine stepI_store 8 rfl (fun p => rfl) (fun p => rfl) _ _ _ rfl (fun p => p 7) 0 (fun p => rfl) (fun p => (qfn (betF Q q))) (fun p => rfl) (fun p => (qfn fun _ => 0)) (fun p => (qfn (betF Q q))) 46 (fun p => over_qq _ _) (fun p => by first | (rw [qfn_size, qfn_size]; decide) | simp [qfn_size, qfn_size]) (fun p => by rw [qfn_size]; kernel_rfl) (fun p => qfn_one _) ?_ ?_
      · rintro p L w1 ⟨hsz, hB, f, a, o, h_d⟩ hk
        have L8 : L 8 = false := hk.1
        have hh := (h_d (hk.2.1 7 rfl)).2
        rw [L8] at hh
        try simp only [cond_true, cond_false] at hh
        exact hh
      · rintro p L w1 ⟨hsz, hB, f, a, o, h_d⟩ hk
        have L8 : L 8 = false := hk.1
        skip
        have hp := h_d (hk.2.1 7 rfl)
        refine ⟨(by simpa using hsz), Below.setRow hB (by first | exact Nat.le_trans hW0 hp.1 | exact ge_d | omega | (have := hB.size; simp at this ⊢; omega)) _, f.rowOther (by first | exact Nat.ne_of_lt (Nat.lt_of_lt_of_le lt_f hp.1) | omega) _, a.rowOther (by first | exact Nat.ne_of_lt (Nat.lt_of_lt_of_le lt_a hp.1) | omega) _, o.rowOther (by first | exact Nat.ne_of_lt (Nat.lt_of_lt_of_le lt_o hp.1) | omega) _, fun _ => ⟨hp.1, ?_⟩⟩
        rw [show upL L 8 8 = true from rfl]
        exact hp.2.row _
    refine stepV 9 rfl rfl (fun _ _ _ h => h) ?_ ?_
    · intros; go_simp; exact ⟨rfl, rfl⟩
    exact AllI.nil
  case hV0 =>
    intro p q
    refine AllI.cons ?_ ?_
    · skip
      iterate 10 (refine AllI.cons (by first | exact .inl rfl | (refine .inr ?_; simp only [List.getD_cons_zero, List.getD_cons_succ]; done) | exact .inr rfl) ?_)
      exact AllI.nil
    exact AllI.nil
  case he =>
  clear hB f a o
  rintro p w0r ⟨hsz, hB, f, a, o, h_d⟩
  obtain ⟨le_d, d⟩ := h_d rfl
  clear h_d
  replace d : blk w0r (p 7) (qfn (betF Q q)) 46 := d
  have ne_f_d : w.heap.size ≠ p 7 := Nat.ne_of_lt (Nat.lt_of_lt_of_le lt_f le_d)
  have ne_a_d : (w.heap.size + 1) ≠ p 7 := Nat.ne_of_lt (Nat.lt_of_lt_of_le lt_a le_d)
  have ne_o_d : (w.heap.size + 2) ≠ p 7 := Nat.ne_of_lt (Nat.lt_of_lt_of_le lt_o le_d)
  have ge_d : w.heap.size ≤ p 7 := Nat.le_trans hW0 le_d
  generalize p 7 = d_b at *
  clear lt_f
  clear lt_a
  clear lt_o
  clear hsz hW0
  go_upto_region 3 with (fail)
  have lt_f := f.lt
  have lt_a := a.lt
  have lt_o := o.lt
  have lt_d := d.lt
  have hW0 : w.heap.size ≤ w0r.heap.size := by have := hB.size; first | exact this | simpa using this
  apply wp_region_Q 3 [0, 1, 3] [] [_, (fun _ => undef), _] (fun p L w' => w0r.heap.size ≤ w'.heap.size ∧ Below w.heap.size w w' ∧ blk w' w.heap.size (fltc (Q, B)) 74 ∧ blk w' (w.heap.size + 1) (qfn q) 46 ∧ blk w' (w.heap.size + 2) (bif L 1 then (fltc (Q, B)) else (fltc (fun _ => 0, fun _ => 0))) 74 ∧ blk w' d_b (qfn (betF Q q)) 46) _ [(0, 19), (2, 5)] [0, 1, 2]
  case hn => rfl
  case hB => kernel_rfl
  case hds => kernel_rfl
  case hA => (intro p; simp only [putsD, Act.put, List.setIfInBounds_toArray, List.set_cons_zero, List.set_cons_succ, List.getD_cons_zero, List.getD_cons_succ]; exact rfl)
  case h0 => exact fun p => ⟨Nat.le_refl _, hB, f, a, o, d⟩
  case hmore => exact fun p L w1 w2 ⟨hsz, hB, f, a, o, d⟩ hm => ⟨Nat.le_trans hsz hm.size, hB.trans (hm.mono (Nat.le_trans hW0 hsz)), f.below hm f.lt, a.below hm a.lt, o.below hm o.lt, d.below hm d.lt⟩
  case hs =>
    intro more
    refine stepV 0 rfl rfl (fun _ _ _ h => h) ?_ ?_
    · rintro p L w1 ⟨hsz, hB, f, a, o, d⟩ hk
      have L1 : L 1 = false := hk.2.2 1 rfl
      first | exact valR_row _ _ rfl _ rfl _ _ f _ Try.underlying74 rfl (by first | kernel_rfl | (rw [fltc_size]; kernel_rfl)) rfl | (have hc := f.cellIs (show _[0]? = some _ from rfl); go_simp; exact ⟨rfl, rfl⟩)
    refine AllI.cons ?_ ?_
    · refine stepI_store 1 rfl (fun p => rfl) (fun p => rfl) _ _ _ rfl (fun _ => (w.heap.size + 2)) 0 (fun p => rfl) (fun p => (fltc (Q, B))) (fun p => rfl) (fun p => (fltc (fun _ => 0, fun _ => 0))) (fun p => (fltc (Q, B))) 74 (fun p => rfl) (fun p => by first | (rw [fltc_size, fltc_size]; decide) | simp [fltc_size, fltc_size]) (fun p => by rw [fltc_size]; kernel_rfl) (fun p => fltc_one _) ?_ ?_
      · rintro p L w1 ⟨hsz, hB, f, a, o, d⟩ hk
        have L1 : L 1 = false := hk.1
        rw [L1] at o
        try simp only [cond_true, cond_false] at o
        exact o
      · rintro p L w1 ⟨hsz, hB, f, a, o, d⟩ hk
        have L1 : L 1 = false := hk.1
        skip
        refine ⟨(by simpa using hsz), Below.setRow hB (by first | exact Nat.le_trans hW0 hp.1 | exact ge_o | omega | (have := hB.size; simp at this ⊢; omega)) _, f.rowOther (by first | exact ne_f_o | exact Ne.symm ne_o_f | omega) _, a.rowOther (by first | exact ne_a_o | exact Ne.symm ne_o_a | omega) _, ?_, d.rowOther (by first | exact ne_d_o | exact Ne.symm ne_o_d | omega) _⟩
        rw [show upL L 1 1 = true from rfl]
        exact o.row _
    refine stepV 2 rfl rfl (fun _ _ _ h => h) ?_ ?_
    · intros; go_simp; exact ⟨rfl, rfl⟩
    exact AllI.nil
  case hV0 => exact fun p q => AllI.nil
  case he =>
  clear hB f a o d
  rintro p w0rr ⟨hsz, hB, f, a, o, d⟩
  replace o : blk w0rr (w.heap.size + 2) (fltc (Q, B)) 74 := o
  clear lt_f
  clear lt_a
  clear lt_o
  clear lt_d
  clear hsz hW0
  go_wp2_with (fail)
  refine bodyPost_ret (results_vec rfl _ _ _ _ _ _ _ rfl o Try.underlying74 rfl (by first | kernel_rfl | (rw [fltc_size]; kernel_rfl))) rfl ?_
  refine ⟨?_, hB⟩
  rfl
set_option maxRecDepth 100000 in
set_option maxHeartbeats 6000000 in
theorem rfcor_off (Q B q : Nat → Int) (w : World) (hQ : ∀ i, i < 4 → I64 (Q i)) (hq : ∀ i, i < 4 → I64 (q i)) (hb : betE Q q = 0) (hw : smallB (offF (betF Q q)) 1048576 = false) : Calls Try.prog 39 #[.agg (fltc (Q, B)), .agg (qfn q)] w fun e w' => e = .returned (.tuple #[.agg (fltc (ftF Q (partF (offF (betF Q q)) 4), B)), .int .i64 0]) ∧ Below w.heap.size w w' := by
  have BE := Lib.hid (fun w => rbetween_any Q q w hQ hq)
  rw [hb] at BE
  clear hb
  have HD := Lib.hid (offF_I Q q)
  have WI := Lib.hid (fun w => rgwithin_any (offF (betF Q q)) 1048576 w (by omega) (by omega))
  rw [hw] at WI
  clear hw
  have TU := Lib.hid (fun w => rfturn_any Q B (partF (offF (betF Q q)) 4) w hQ (partF_I _ _))
  clear hQ hq
  go_enter Try.func39, Try.ntmps39
  go_upto_region 1 with (fail)
  simp only [fltc_zero]
  have f : blk (((w.alloc (.cells (fltc (Q, B)) 74)).alloc (.cells (qfn q) 46)).alloc (.cells (fltc (fun _ => 0, fun _ => 0)) 74)) w.heap.size (fltc (Q, B)) 74 := ((blk.new _ _ _).alloc _).alloc _
  have a : blk (((w.alloc (.cells (fltc (Q, B)) 74)).alloc (.cells (qfn q) 46)).alloc (.cells (fltc (fun _ => 0, fun _ => 0)) 74)) (w.heap.size + 1) (qfn q) 46 := (blk.new' (by simp)).alloc _
  have o : blk (((w.alloc (.cells (fltc (Q, B)) 74)).alloc (.cells (qfn q) 46)).alloc (.cells (fltc (fun _ => 0, fun _ => 0)) 74)) (w.heap.size + 2) (fltc (fun _ => 0, fun _ => 0)) 74 := blk.new' (by simp)
  have hB : Below w.heap.size w (((w.alloc (.cells (fltc (Q, B)) 74)).alloc (.cells (qfn q) 46)).alloc (.cells (fltc (fun _ => 0, fun _ => 0)) 74)) := by go_grown
  generalize (((w.alloc (.cells (fltc (Q, B)) 74)).alloc (.cells (qfn q) 46)).alloc (.cells (fltc (fun _ => 0, fun _ => 0)) 74)) = w0 at *
  go_upto_region 1 with (fail)
  have lt_f := f.lt
  have lt_a := a.lt
  have lt_o := o.lt
  have hW0 : w.heap.size ≤ w0.heap.size := by have := hB.size; first | exact this | simpa using this
  apply wp_region_Q 10 [0, 1, 3, 7, 15, 31, 63, 127, 255, 511] [7] [_, _, _, _, _, _, _, (fun p => .pointer (some ⟨p 7, 0, none⟩)), (fun _ => undef), _] (fun p L w' => w0.heap.size ≤ w'.heap.size ∧ Below w.heap.size w w' ∧ blk w' w.heap.size (fltc (Q, B)) 74 ∧ blk w' (w.heap.size + 1) (qfn q) 46 ∧ blk w' (w.heap.size + 2) (fltc (fun _ => 0, fun _ => 0)) 74 ∧ (L 7 = true → w0.heap.size ≤ p 7 ∧ blk w' (p 7) (bif L 8 then (qfn (betF Q q)) else (qfn fun _ => 0)) 46)) _ [(0, 11), (1, 12), (2, 13), (3, 14), (4, 10), (5, 15), (6, 16), (7, 6), (9, 7)] [0, 1, 2, 3, 4, 5, 6, 7, 8, 9]
  case hn => rfl
  case hB => kernel_rfl
  case hds => kernel_rfl
  case hA => (intro p; simp only [putsD, Act.put, List.setIfInBounds_toArray, List.set_cons_zero, List.set_cons_succ, List.getD_cons_zero, List.getD_cons_succ]; exact rfl)
  case h0 => exact fun p => ⟨Nat.le_refl _, hB, f, a, o, fun h => absurd h (by decide)⟩
  case hmore => exact fun p L w1 w2 ⟨hsz, hB, f, a, o, h_d⟩ hm => ⟨Nat.le_trans hsz hm.size, hB.trans (hm.mono (Nat.le_trans hW0 hsz)), f.below hm f.lt, a.below hm a.lt, o.below hm o.lt, fun hl => ⟨(h_d hl).1, (h_d hl).2.below hm (h_d hl).2.lt⟩⟩
  case hs =>
    intro more
    refine stepV 0 rfl rfl (fun _ _ _ h => h) ?_ ?_
    · intros; go_simp; exact ⟨rfl, rfl⟩
    refine stepV 1 rfl rfl (fun _ _ _ h => h) ?_ ?_
    · rintro p L w1 ⟨hsz, hB, f, a, o, h_d⟩ hk
      have L8 : L 8 = false := hk.2.2 8 rfl
      exact valR_part _ _ rfl _ 0 rfl _ _ f (qfn Q) (flt_q Q B) _ Try.underlying46 rfl (by rw [qfn_size]; kernel_rfl) rfl
    refine stepV 2 rfl rfl (fun _ _ _ h => h) ?_ ?_
    · rintro p L w1 ⟨hsz, hB, f, a, o, h_d⟩ hk
      have L8 : L 8 = false := hk.2.2 8 rfl
      first | exact valR_row _ _ rfl _ rfl _ _ a _ Try.underlying46 rfl (by first | kernel_rfl | (rw [qfn_size]; kernel_rfl)) rfl | (have hc := a.cellIs (qfn_get _ (show 0 < 4 by omega)); go_simp; exact ⟨rfl, rfl⟩)
    refine stepD 3 rfl (fun p => rfl) (fun _ _ _ h => h) more ?_ ?_
    · rintro p L w1 ⟨hsz, hB, f, a, o, h_d⟩ hk
      go_simp
      refine (BE.out _).mono ?_
      rintro e w2 ⟨rfl, h2⟩
      first | exact ⟨rfl, h2⟩ | (subst h2; exact ⟨rfl, Below.refl _ _⟩)
    refine stepV 4 rfl rfl (fun _ _ _ h => h) ?_ ?_
    · intros; go_simp; exact ⟨rfl, rfl⟩
    refine stepV 5 rfl rfl (fun _ _ _ h => h) ?_ ?_
    · intros; go_simp; exact ⟨rfl, rfl⟩
    refine stepV 6 rfl rfl (fun _ _ _ h => h) ?_ ?_
    · intros; go_simp; exact ⟨rfl, rfl⟩
    refine AllI.cons ?_ ?_
    · refine stepI_alloc 7 rfl (fun p => rfl) rfl (qfn fun _ => 0) 46 (fun p => rfl) ?_ ?_
      · intro p w1
        go_simp
        first | rfl | rw [zero_quat]
      rintro p L w1 ⟨hsz, hB, f, a, o, h_d⟩ hk
      have L8 : L 8 = false := hk.2.2 8 rfl
      refine ⟨Nat.le_trans hsz (by simp), hB.alloc (Nat.le_trans (by first | exact hW0 | (have := hB.size; simp at this ⊢; omega)) hsz) _, f.alloc _, a.alloc _, o.alloc _, fun _ => ⟨hsz, ?_⟩⟩
      rw [show upL L 7 8 = false from L8]
      exact blk.new _ _ _
    refine AllI.cons ?_ ?_
    · refine stepI_store 8 rfl (fun p => rfl) (fun p => rfl) _ _ _ rfl (fun p => p 7) 0 (fun p => rfl) (fun p => (qfn (betF Q q))) (fun p => rfl) (fun p => (qfn fun _ => 0)) (fun p => (qfn (betF Q q))) 46 (fun p => over_qq _ _) (fun p => by first | (rw [qfn_size, qfn_size]; decide) | simp [qfn_size, qfn_size]) (fun p => by rw [qfn_size]; kernel_rfl) (fun p => qfn_one _) ?_ ?_
      · rintro p L w1 ⟨hsz, hB, f, a, o, h_d⟩ hk
        have L8 : L 8 = false := hk.1
        have hh := (h_d (hk.2.1 7 rfl)).2
        rw [L8] at hh
        try simp only [cond_true, cond_false] at hh
        exact hh
      · rintro p L w1 ⟨hsz, hB, f, a, o, h_d⟩ hk
        have L8 : L 8 = false := hk.1
        skip
        have hp := h_d (hk.2.1 7 rfl)
        refine ⟨(by simpa using hsz), Below.setRow hB (by first | exact Nat.le_trans hW0 hp.1 | exact ge_d | omega | (have := hB.size; simp at this ⊢; omega)) _, f.rowOther (by first | exact Nat.ne_of_lt (Nat.lt_of_lt_of_le lt_f hp.1) | omega) _, a.rowOther (by first | exact Nat.ne_of_lt (Nat.lt_of_lt_of_le lt_a hp.1) | omega) _, o.rowOther (by first | exact Nat.ne_of_lt (Nat.lt_of_lt_of_le lt_o hp.1) | omega) _, fun _ => ⟨hp.1, ?_⟩⟩
        rw [show upL L 8 8 = true from rfl]
        exact hp.2.row _
    refine stepV 9 rfl rfl (fun _ _ _ h => h) ?_ ?_
    · intros; go_simp; exact ⟨rfl, rfl⟩
    exact AllI.nil
  case hV0 =>
    intro p q
    refine AllI.cons ?_ ?_
    · skip
      iterate 10 (refine AllI.cons (by first | exact .inl rfl | (refine .inr ?_; simp only [List.getD_cons_zero, List.getD_cons_succ]; done) | exact .inr rfl) ?_)
      exact AllI.nil
    exact AllI.nil
  case he =>
  clear hB f a o
  rintro p w0r ⟨hsz, hB, f, a, o, h_d⟩
  obtain ⟨le_d, d⟩ := h_d rfl
  clear h_d
  replace d : blk w0r (p 7) (qfn (betF Q q)) 46 := d
  have ne_f_d : w.heap.size ≠ p 7 := Nat.ne_of_lt (Nat.lt_of_lt_of_le lt_f le_d)
  have ne_a_d : (w.heap.size + 1) ≠ p 7 := Nat.ne_of_lt (Nat.lt_of_lt_of_le lt_a le_d)
  have ne_o_d : (w.heap.size + 2) ≠ p 7 := Nat.ne_of_lt (Nat.lt_of_lt_of_le lt_o le_d)
  have ge_d : w.heap.size ≤ p 7 := Nat.le_trans hW0 le_d
  generalize p 7 = d_b at *
  clear lt_f
  clear lt_a
  clear lt_o
  clear hsz hW0
  generalize hD : betF Q q = D at *
  go_upto_region 4 with (fail)
  have lt_f := f.lt
  have lt_a := a.lt
  have lt_o := o.lt
  have lt_d := d.lt
  have hW0 : w.heap.size ≤ w0r.heap.size := by have := hB.size; first | exact this | simpa using this
  apply wp_region_Q 9 [0, 1, 3, 7, 15, 31, 63, 127, 255] [7] [_, _, _, _, _, _, _, (fun p => .pointer (some ⟨p 7, 0, none⟩)), (fun _ => undef)] (fun p L w' => w0r.heap.size ≤ w'.heap.size ∧ Below w.heap.size w w' ∧ blk w' w.heap.size (fltc (Q, B)) 74 ∧ blk w' (w.heap.size + 1) (qfn q) 46 ∧ blk w' (w.heap.size + 2) (fltc (fun _ => 0, fun _ => 0)) 74 ∧ blk w' d_b (qfn D) 46 ∧ (L 7 = true → w0r.heap.size ≤ p 7 ∧ blk w' (p 7) (bif L 8 then (vfn (offF D)) else (vfn fun _ => 0)) 39)) _ [(0, 20), (1, 21), (2, 22), (3, 23), (4, 24), (5, 25), (6, 26), (7, 8)] [0, 1, 2, 3, 4, 5, 6, 7, 8]
  case hn => rfl
  case hB => kernel_rfl
  case hds => kernel_rfl
  case hA => (intro p; simp only [putsD, Act.put, List.setIfInBounds_toArray, List.set_cons_zero, List.set_cons_succ, List.getD_cons_zero, List.getD_cons_succ]; exact rfl)
  case h0 => exact fun p => ⟨Nat.le_refl _, hB, f, a, o, d, fun h => absurd h (by decide)⟩
  case hmore => exact fun p L w1 w2 ⟨hsz, hB, f, a, o, d, h_p3⟩ hm => ⟨Nat.le_trans hsz hm.size, hB.trans (hm.mono (Nat.le_trans hW0 hsz)), f.below hm f.lt, a.below hm a.lt, o.below hm o.lt, d.below hm d.lt, fun hl => ⟨(h_p3 hl).1, (h_p3 hl).2.below hm (h_p3 hl).2.lt⟩⟩
  case hs =>
    intro more
    refine stepV 0 rfl rfl (fun _ _ _ h => h) ?_ ?_
    · intros; go_simp; exact ⟨rfl, rfl⟩
    refine stepV 1 rfl rfl (fun _ _ _ h => h) ?_ ?_
    · rintro p L w1 ⟨hsz, hB, f, a, o, d, h_p3⟩ hk
      have L8 : L 8 = false := hk.2.2 8 rfl
      first | exact valR_row _ _ rfl _ rfl _ _ d _ Try.underlying46 rfl (by first | kernel_rfl | (rw [qfn_size]; kernel_rfl)) rfl | (have hc := d.cellIs (qfn_get _ (show 1 < 4 by omega)); go_simp; exact ⟨rfl, rfl⟩)
    refine stepV 2 rfl rfl (fun _ _ _ h => h) ?_ ?_
    · intros; go_simp; exact ⟨rfl, rfl⟩
    refine stepV 3 rfl rfl (fun _ _ _ h => h) ?_ ?_
    · rintro p L w1 ⟨hsz, hB, f, a, o, d, h_p3⟩ hk
      have L8 : L 8 = false := hk.2.2 8 rfl
      first | exact valR_row _ _ rfl _ rfl _ _ d _ Try.underlying46 rfl (by first | kernel_rfl | (rw [qfn_size]; kernel_rfl)) rfl | (have hc := d.cellIs (qfn_get _ (show 2 < 4 by omega)); go_simp; exact ⟨rfl, rfl⟩)
    refine stepV 4 rfl rfl (fun _ _ _ h => h) ?_ ?_
    · intros; go_simp; exact ⟨rfl, rfl⟩
    refine stepV 5 rfl rfl (fun _ _ _ h => h) ?_ ?_
    · rintro p L w1 ⟨hsz, hB, f, a, o, d, h_p3⟩ hk
      have L8 : L 8 = false := hk.2.2 8 rfl
      first | exact valR_row _ _ rfl _ rfl _ _ d _ Try.underlying46 rfl (by first | kernel_rfl | (rw [qfn_size]; kernel_rfl)) rfl | (have hc := d.cellIs (qfn_get _ (show 3 < 4 by omega)); go_simp; exact ⟨rfl, rfl⟩)
    refine stepV 6 rfl rfl (fun _ _ _ h => h) ?_ ?_
    · intros; (try simp only [vfn, qfn]); go_simp; exact ⟨rfl, rfl⟩
    refine AllI.cons ?_ ?_
    · refine stepI_alloc 7 rfl (fun p => rfl) rfl (vfn fun _ => 0) 39 (fun p => rfl) ?_ ?_
      · intro p w1
        go_simp
        first | rfl | rw [zero_vec]
      rintro p L w1 ⟨hsz, hB, f, a, o, d, h_p3⟩ hk
      have L8 : L 8 = false := hk.2.2 8 rfl
      refine ⟨Nat.le_trans hsz (by simp), hB.alloc (Nat.le_trans (by first | exact hW0 | (have := hB.size; simp at this ⊢; omega)) hsz) _, f.alloc _, a.alloc _, o.alloc _, d.alloc _, fun _ => ⟨hsz, ?_⟩⟩
      rw [show upL L 7 8 = false from L8]
      exact blk.new _ _ _
    refine AllI.cons ?_ ?_
    · refine stepI_store 8 rfl (fun p => rfl) (fun p => rfl) _ _ _ rfl (fun p => p 7) 0 (fun p => rfl) (fun p => (vfn (offF D))) (fun p => congrArg Value.agg (off_cells D)) (fun p => (vfn fun _ => 0)) (fun p => (vfn (offF D))) 39 (fun p => over_v _ _) (fun p => by first | (rw [vfn_size, vfn_size]; decide) | simp [vfn_size, vfn_size]) (fun p => by rw [vfn_size]; kernel_rfl) (fun p => vfn_one _) ?_ ?_
      · rintro p L w1 ⟨hsz, hB, f, a, o, d, h_p3⟩ hk
        have L8 : L 8 = false := hk.1
        have hh := (h_p3 (hk.2.1 7 rfl)).2
        rw [L8] at hh
        try simp only [cond_true, cond_false] at hh
        exact hh
      · rintro p L w1 ⟨hsz, hB, f, a, o, d, h_p3⟩ hk
        have L8 : L 8 = false := hk.1
        skip
        have hp := h_p3 (hk.2.1 7 rfl)
        refine ⟨(by simpa using hsz), Below.setRow hB (by first | exact Nat.le_trans hW0 hp.1 | exact ge_p3 | omega | (have := hB.size; simp at this ⊢; omega)) _, f.rowOther (by first | exact Nat.ne_of_lt (Nat.lt_of_lt_of_le lt_f hp.1) | omega) _, a.rowOther (by first | exact Nat.ne_of_lt (Nat.lt_of_lt_of_le lt_a hp.1) | omega) _, o.rowOther (by first | exact Nat.ne_of_lt (Nat.lt_of_lt_of_le lt_o hp.1) | omega) _, d.rowOther (by first | exact Nat.ne_of_lt (Nat.lt_of_lt_of_le lt_d hp.1) | omega) _, fun _ => ⟨hp.1, ?_⟩⟩
        rw [show upL L 8 8 = true from rfl]
        exact hp.2.row _
    exact AllI.nil
  case hV0 =>
    intro p q
    refine AllI.cons ?_ ?_
    · skip
      iterate 9 (refine AllI.cons (by first | exact .inl rfl | (refine .inr ?_; simp only [List.getD_cons_zero, List.getD_cons_succ]; done) | exact .inr rfl) ?_)
      exact AllI.nil
    exact AllI.nil
  case he =>
  clear hB f a o d
  rintro p w0rr ⟨hsz, hB, f, a, o, d, h_p3⟩
  obtain ⟨le_p3, p3⟩ := h_p3 rfl
  clear h_p3
  replace p3 : blk w0rr (p 7) (vfn (offF D)) 39 := p3
  have ne_f_p3 : w.heap.size ≠ p 7 := Nat.ne_of_lt (Nat.lt_of_lt_of_le lt_f le_p3)
  have ne_a_p3 : (w.heap.size + 1) ≠ p 7 := Nat.ne_of_lt (Nat.lt_of_lt_of_le lt_a le_p3)
  have ne_o_p3 : (w.heap.size + 2) ≠ p 7 := Nat.ne_of_lt (Nat.lt_of_lt_of_le lt_o le_p3)
  have ne_d_p3 : d_b ≠ p 7 := Nat.ne_of_lt (Nat.lt_of_lt_of_le lt_d le_p3)
  have ge_p3 : w.heap.size ≤ p 7 := Nat.le_trans hW0 le_p3
  generalize p 7 = p3_b at *
  clear lt_f
  clear lt_a
  clear lt_o
  clear lt_d
  clear hsz hW0
  go_upto_region 5 with (fail)
  have lt_f := f.lt
  have lt_a := a.lt
  have lt_o := o.lt
  have lt_d := d.lt
  have lt_p3 := p3.lt
  have hW0 : w.heap.size ≤ w0rr.heap.size := by have := hB.size; first | exact this | simpa using this
  apply wp_region_I 13 [0, 0, 2, 6, 0, 16, 62, 0, 128, 510, 1022, 2047, 4095] [] [_, _, _, _, _, _, _, _, _, _, _, _, (fun _ => undef)] (fun p L w' => w0rr.heap.size ≤ w'.heap.size ∧ Below w.heap.size w w' ∧ blk w' w.heap.size (bif L 12 then (fltc ((ftF Q (partF (offF D) 4)), B)) else (fltc (Q, B))) 74 ∧ blk w' (w.heap.size + 1) (qfn q) 46 ∧ blk w' (w.heap.size + 2) (fltc (fun _ => 0, fun _ => 0)) 74 ∧ blk w' d_b (qfn D) 46 ∧ blk w' p3_b (vfn (offF D)) 39) _ [(0, 27), (1, 28), (2, 29), (3, 30), (4, 31), (5, 32), (6, 33), (7, 34), (8, 35), (9, 36), (10, 37), (11, 38)] [0, 1, 2, 3, 4, 5, 6, 7, 8, 9, 10, 11, 12]
  case hn => rfl
  case hm => kernel_rfl
  case hB => kernel_rfl
  case hds => kernel_rfl
  case hA => (intro p; simp only [putsD, Act.put, List.setIfInBounds_toArray, List.set_cons_zero, List.set_cons_succ, List.getD_cons_zero, List.getD_cons_succ]; exact rfl)
  case h0 => exact fun p => ⟨Nat.le_refl _, hB.drew, f.drew, a.drew, o.drew, d.drew, p3.drew⟩
  case hmore => exact fun p L w1 w2 ⟨hsz, hB, f, a, o, d, p3⟩ hm => ⟨Nat.le_trans hsz hm.size, hB.trans (hm.mono (Nat.le_trans hW0 hsz)), f.below hm f.lt, a.below hm a.lt, o.below hm o.lt, d.below hm d.lt, p3.below hm p3.lt⟩
  case hs =>
    intro more
    refine stepV 0 rfl rfl (fun _ _ _ h => h) ?_ ?_
    · rintro p L w1 ⟨hsz, hB, f, a, o, d, p3⟩ hk
      have L12 : L 12 = false := hk.2.2 12 rfl
      rw [L12] at f
      try simp only [cond_true, cond_false] at f
      first | exact valR_row _ _ rfl _ rfl _ _ f _ Try.underlying74 rfl (by first | kernel_rfl | (rw [fltc_size]; kernel_rfl)) rfl | (have hc := f.cellIs (show _[0]? = some _ from rfl); go_simp; exact ⟨rfl, rfl⟩)
    refine stepV 1 rfl rfl (fun _ _ _ h => h) ?_ ?_
    · intros; go_simp; exact ⟨rfl, rfl⟩
    refine stepV 2 rfl rfl (fun _ _ _ h => h) ?_ ?_
    · rintro p L w1 ⟨hsz, hB, f, a, o, d, p3⟩ hk
      have L12 : L 12 = false := hk.2.2 12 rfl
      first | exact valR_row _ _ rfl _ rfl _ _ p3 _ Try.underlying39 rfl (by first | kernel_rfl | (rw [vfn_size]; kernel_rfl)) rfl | (have hc := p3.cellIs (vfn_get _ (show 0 < 3 by omega)); go_simp; exact ⟨rfl, rfl⟩)
    refine stepD 3 rfl (fun p => rfl) (fun _ _ _ h => h) more ?_ ?_
    · rintro p L w1 ⟨hsz, hB, f, a, o, d, p3⟩ hk
      go_simp
      refine (near_any (offF D 0) 4 _ (HD.out 0 (by omega)) ⟨by omega, by omega⟩).mono ?_
      rintro e w2 ⟨rfl, h2⟩
      first | exact ⟨rfl, h2⟩ | (subst h2; exact ⟨rfl, Below.refl _ _⟩)
    refine stepV 4 rfl rfl (fun _ _ _ h => h) ?_ ?_
    · intros; go_simp; exact ⟨rfl, rfl⟩
    refine stepV 5 rfl rfl (fun _ _ _ h => h) ?_ ?_
    · rintro p L w1 ⟨hsz, hB, f, a, o, d, p3⟩ hk
      have L12 : L 12 = false := hk.2.2 12 rfl
      first | exact valR_row _ _ rfl _ rfl _ _ p3 _ Try.underlying39 rfl (by first | kernel_rfl | (rw [vfn_size]; kernel_rfl)) rfl | (have hc := p3.cellIs (vfn_get _ (show 1 < 3 by omega)); go_simp; exact ⟨rfl, rfl⟩)
    refine stepD 6 rfl (fun p => rfl) (fun _ _ _ h => h) more ?_ ?_
    · rintro p L w1 ⟨hsz, hB, f, a, o, d, p3⟩ hk
      go_simp
      refine (near_any (offF D 1) 4 _ (HD.out 1 (by omega)) ⟨by omega, by omega⟩).mono ?_
      rintro e w2 ⟨rfl, h2⟩
      first | exact ⟨rfl, h2⟩ | (subst h2; exact ⟨rfl, Below.refl _ _⟩)
    refine stepV 7 rfl rfl (fun _ _ _ h => h) ?_ ?_
    · intros; go_simp; exact ⟨rfl, rfl⟩
    refine stepV 8 rfl rfl (fun _ _ _ h => h) ?_ ?_
    · rintro p L w1 ⟨hsz, hB, f, a, o, d, p3⟩ hk
      have L12 : L 12 = false := hk.2.2 12 rfl
      first | exact valR_row _ _ rfl _ rfl _ _ p3 _ Try.underlying39 rfl (by first | kernel_rfl | (rw [vfn_size]; kernel_rfl)) rfl | (have hc := p3.cellIs (vfn_get _ (show 2 < 3 by omega)); go_simp; exact ⟨rfl, rfl⟩)
    refine stepD 9 rfl (fun p => rfl) (fun _ _ _ h => h) more ?_ ?_
    · rintro p L w1 ⟨hsz, hB, f, a, o, d, p3⟩ hk
      go_simp
      refine (near_any (offF D 2) 4 _ (HD.out 2 (by omega)) ⟨by omega, by omega⟩).mono ?_
      rintro e w2 ⟨rfl, h2⟩
      first | exact ⟨rfl, h2⟩ | (subst h2; exact ⟨rfl, Below.refl _ _⟩)
    refine AllI.cons ?_ ?_
    · refine stepI_val 10 rfl (fun p => rfl) ?_ (fun _ _ _ h => h)
      intro p L w1 _ _
      go_simp
      exact ⟨congrArg Value.agg (part_cells (offF D) 4), rfl⟩
    refine stepD 11 rfl (fun p => rfl) (fun _ _ _ h => h) more ?_ ?_
    · rintro p L w1 ⟨hsz, hB, f, a, o, d, p3⟩ hk
      go_simp
      refine (TU.out _).mono ?_
      rintro e w2 ⟨rfl, h2⟩
      first | exact ⟨rfl, h2⟩ | (subst h2; exact ⟨rfl, Below.refl _ _⟩)
    refine AllI.cons ?_ ?_
    · refine stepI_store 12 rfl (fun p => rfl) (fun p => rfl) _ _ _ rfl (fun _ => w.heap.size) 0 (fun p => rfl) (fun p => (fltc ((ftF Q (partF (offF D) 4)), B))) (fun p => rfl) (fun p => (fltc (Q, B))) (fun p => (fltc ((ftF Q (partF (offF D) 4)), B))) 74 (fun p => rfl) (fun p => by first | (rw [fltc_size, fltc_size]; decide) | simp [fltc_size, fltc_size]) (fun p => by rw [fltc_size]; kernel_rfl) (fun p => fltc_one _) ?_ ?_
      · rintro p L w1 ⟨hsz, hB, f, a, o, d, p3⟩ hk
        have L12 : L 12 = false := hk.1
        rw [L12] at f
        try simp only [cond_true, cond_false] at f
        exact f
      · rintro p L w1 ⟨hsz, hB, f, a, o, d, p3⟩ hk
        have L12 : L 12 = false := hk.1
        skip
        refine ⟨(by simpa using hsz), Below.setRow hB (by first | exact Nat.le_trans hW0 hp.1 | exact ge_f | omega | (have := hB.size; simp at this ⊢; omega)) _, ?_, a.rowOther (by first | exact ne_a_f | exact Ne.symm ne_f_a | omega) _, o.rowOther (by first | exact ne_o_f | exact Ne.symm ne_f_o | omega) _, d.rowOther (by first | exact ne_d_f | exact Ne.symm ne_f_d | omega) _, p3.rowOther (by first | exact ne_p3_f | exact Ne.symm ne_f_p3 | omega) _⟩
        rw [show upL L 12 12 = true from rfl]
        exact f.row _
    exact AllI.nil
  case hV0 => exact fun p q => AllI.nil
  case he =>
  clear hB f a o d p3
  rintro p w0rrr ⟨hsz, hB, f, a, o, d, p3⟩
  replace f : blk w0rrr w.heap.size (fltc ((ftF Q (partF (offF D) 4)), B)) 74 := f
  clear lt_f
  clear lt_a
  clear lt_o
  clear lt_d
  clear lt_p3
  clear hsz hW0
  go_upto_region 6 with (fail)
  have lt_f := f.lt
  have lt_a := a.lt
  have lt_o := o.lt
  have lt_d := d.lt
  have lt_p3 := p3.lt
  have hW0 : w.heap.size ≤ w0rrr.heap.size := by have := hB.size; first | exact this | simpa using this
  apply wp_region_Q 2 [0, 1] [] [_, _] (fun p L w' => w0rrr.heap.size ≤ w'.heap.size ∧ Below w.heap.size w w' ∧ blk w' w.heap.size (fltc ((ftF Q (partF (offF D) 4)), B)) 74 ∧ blk w' (w.heap.size + 1) (qfn q) 46 ∧ blk w' (w.heap.size + 2) (fltc (fun _ => 0, fun _ => 0)) 74 ∧ blk w' d_b (qfn D) 46 ∧ blk w' p3_b (vfn (offF D)) 39) _ [(0, 39), (1, 40)] [0, 1]
  case hn => rfl
  case hB => kernel_rfl
  case hds => kernel_rfl
  case hA => (intro p; simp only [putsD, Act.put, List.setIfInBounds_toArray, List.set_cons_zero, List.set_cons_succ, List.getD_cons_zero, List.getD_cons_succ]; exact rfl)
  case h0 => exact fun p => ⟨Nat.le_refl _, hB, f, a, o, d, p3⟩
  case hmore => exact fun p L w1 w2 ⟨hsz, hB, f, a, o, d, p3⟩ hm => ⟨Nat.le_trans hsz hm.size, hB.trans (hm.mono (Nat.le_trans hW0 hsz)), f.below hm f.lt, a.below hm a.lt, o.below hm o.lt, d.below hm d.lt, p3.below hm p3.lt⟩
  case hs =>
    intro more
    refine stepV 0 rfl rfl (fun _ _ _ h => h) ?_ ?_
    · rintro p L w1 ⟨hsz, hB, f, a, o, d, p3⟩ hk
      first | exact valR_row _ _ rfl _ rfl _ _ p3 _ Try.underlying39 rfl (by first | kernel_rfl | (rw [vfn_size]; kernel_rfl)) rfl | (have hc := p3.cellIs (vfn_get _ (show 0 < 3 by omega)); go_simp; exact ⟨rfl, rfl⟩)
    refine stepD 1 rfl (fun p => rfl) (fun _ _ _ h => h) more ?_ ?_
    · rintro p L w1 ⟨hsz, hB, f, a, o, d, p3⟩ hk
      go_simp
      refine (WI.out _).mono ?_
      rintro e w2 ⟨rfl, h2⟩
      first | exact ⟨rfl, h2⟩ | (subst h2; exact ⟨rfl, Below.refl _ _⟩)
    exact AllI.nil
  case hV0 => exact fun p q => AllI.nil
  case he =>
  clear hB f a o d p3
  rintro p w0rrrr ⟨hsz, hB, f, a, o, d, p3⟩
  clear lt_f
  clear lt_a
  clear lt_o
  clear lt_d
  clear lt_p3
  clear hsz hW0
  go_upto_region 11 with (fail)
  have lt_f := f.lt
  have lt_a := a.lt
  have lt_o := o.lt
  have lt_d := d.lt
  have lt_p3 := p3.lt
  have hW0 : w.heap.size ≤ w0rrrr.heap.size := by have := hB.size; first | exact this | simpa using this
  apply wp_region_Q 3 [0, 1, 3] [] [_, (fun _ => undef), _] (fun p L w' => w0rrrr.heap.size ≤ w'.heap.size ∧ Below w.heap.size w w' ∧ blk w' w.heap.size (fltc ((ftF Q (partF (offF D) 4)), B)) 74 ∧ blk w' (w.heap.size + 1) (qfn q) 46 ∧ blk w' (w.heap.size + 2) (bif L 1 then (fltc ((ftF Q (partF (offF D) 4)), B)) else (fltc (fun _ => 0, fun _ => 0))) 74 ∧ blk w' d_b (qfn D) 46 ∧ blk w' p3_b (vfn (offF D)) 39) _ [(0, 58), (2, 5)] [0, 1, 2]
  case hn => rfl
  case hB => kernel_rfl
  case hds => kernel_rfl
  case hA => (intro p; simp only [putsD, Act.put, List.setIfInBounds_toArray, List.set_cons_zero, List.set_cons_succ, List.getD_cons_zero, List.getD_cons_succ]; exact rfl)
  case h0 => exact fun p => ⟨Nat.le_refl _, hB, f, a, o, d, p3⟩
  case hmore => exact fun p L w1 w2 ⟨hsz, hB, f, a, o, d, p3⟩ hm => ⟨Nat.le_trans hsz hm.size, hB.trans (hm.mono (Nat.le_trans hW0 hsz)), f.below hm f.lt, a.below hm a.lt, o.below hm o.lt, d.below hm d.lt, p3.below hm p3.lt⟩
  case hs =>
    intro more
    refine stepV 0 rfl rfl (fun _ _ _ h => h) ?_ ?_
    · rintro p L w1 ⟨hsz, hB, f, a, o, d, p3⟩ hk
      have L1 : L 1 = false := hk.2.2 1 rfl
      first | exact valR_row _ _ rfl _ rfl _ _ f _ Try.underlying74 rfl (by first | kernel_rfl | (rw [fltc_size]; kernel_rfl)) rfl | (have hc := f.cellIs (show _[0]? = some _ from rfl); go_simp; exact ⟨rfl, rfl⟩)
    refine AllI.cons ?_ ?_
    · refine stepI_store 1 rfl (fun p => rfl) (fun p => rfl) _ _ _ rfl (fun _ => (w.heap.size + 2)) 0 (fun p => rfl) (fun p => (fltc ((ftF Q (partF (offF D) 4)), B))) (fun p => rfl) (fun p => (fltc (fun _ => 0, fun _ => 0))) (fun p => (fltc ((ftF Q (partF (offF D) 4)), B))) 74 (fun p => rfl) (fun p => by first | (rw [fltc_size, fltc_size]; decide) | simp [fltc_size, fltc_size]) (fun p => by rw [fltc_size]; kernel_rfl) (fun p => fltc_one _) ?_ ?_
      · rintro p L w1 ⟨hsz, hB, f, a, o, d, p3⟩ hk
        have L1 : L 1 = false := hk.1
        rw [L1] at o
        try simp only [cond_true, cond_false] at o
        exact o
      · rintro p L w1 ⟨hsz, hB, f, a, o, d, p3⟩ hk
        have L1 : L 1 = false := hk.1
        skip
        refine ⟨(by simpa using hsz), Below.setRow hB (by first | exact Nat.le_trans hW0 hp.1 | exact ge_o | omega | (have := hB.size; simp at this ⊢; omega)) _, f.rowOther (by first | exact ne_f_o | exact Ne.symm ne_o_f | omega) _, a.rowOther (by first | exact ne_a_o | exact Ne.symm ne_o_a | omega) _, ?_, d.rowOther (by first | exact ne_d_o | exact Ne.symm ne_o_d | omega) _, p3.rowOther (by first | exact ne_p3_o | exact Ne.symm ne_o_p3 | omega) _⟩
        rw [show upL L 1 1 = true from rfl]
        exact o.row _
    refine stepV 2 rfl rfl (fun _ _ _ h => h) ?_ ?_
    · intros; go_simp; exact ⟨rfl, rfl⟩
    exact AllI.nil
  case hV0 => exact fun p q => AllI.nil
  case he =>
  clear hB f a o d p3
  rintro p w0rrrrr ⟨hsz, hB, f, a, o, d, p3⟩
  replace o : blk w0rrrrr (w.heap.size + 2) (fltc ((ftF Q (partF (offF D) 4)), B)) 74 := o
  clear lt_f
  clear lt_a
  clear lt_o
  clear lt_d
  clear lt_p3
  clear hsz hW0
  go_wp2_with (fail)
  refine bodyPost_ret (results_vec rfl _ _ _ _ _ _ _ rfl o Try.underlying74 rfl (by first | kernel_rfl | (rw [fltc_size]; kernel_rfl))) rfl ?_
  refine ⟨?_, hB⟩
  subst hD
  rfl
set_option maxRecDepth 100000 in
set_option maxHeartbeats 6000000 in
theorem rfcor_yes (Q B q : Nat → Int) (w : World) (hQ : ∀ i, i < 4 → I64 (Q i)) (hq : ∀ i, i < 4 → I64 (q i)) (hb : betE Q q = 0) (hw : smallB (offF (betF Q q)) 1048576 = true) (hBb : ∀ i, i < 3 → -16777216 ≤ B i ∧ B i ≤ 16777216) : Calls Try.prog 39 #[.agg (fltc (Q, B)), .agg (qfn q)] w fun e w' => e = .returned (.tuple #[.agg (fltc (ftF Q (partF (offF (betF Q q)) 4), corF B (offF (betF Q q)))), .int .i64 0]) ∧ Below w.heap.size w w' := by
  have BE := Lib.hid (fun w => rbetween_any Q q w hQ hq)
  rw [hb] at BE
  clear hb
  have HD := Lib.hid (offF_I Q q)
  have WI := Lib.hid (fun w => rgwithin_any (offF (betF Q q)) 1048576 w (by omega) (by omega))
  have CE := Lib.hid (fun i hi => corF_eq hBb hw (i := i) hi)
  have HB := Lib.hid hBb
  have HP := Lib.hid (fun i hi => part_small hw (i := i) hi)
  clear hBb
  rw [hw] at WI
  clear hw
  have TU := Lib.hid (fun w => rfturn_any Q B (partF (offF (betF Q q)) 4) w hQ (partF_I _ _))
  clear hQ hq
  go_enter Try.func39, Try.ntmps39
  go_upto_region 1 with (fail)
  simp only [fltc_zero]
  have f : blk (((w.alloc (.cells (fltc (Q, B)) 74)).alloc (.cells (qfn q) 46)).alloc (.cells (fltc (fun _ => 0, fun _ => 0)) 74)) w.heap.size (fltc (Q, B)) 74 := ((blk.new _ _ _).alloc _).alloc _
  have a : blk (((w.alloc (.cells (fltc (Q, B)) 74)).alloc (.cells (qfn q) 46)).alloc (.cells (fltc (fun _ => 0, fun _ => 0)) 74)) (w.heap.size + 1) (qfn q) 46 := (blk.new' (by simp)).alloc _
  have o : blk (((w.alloc (.cells (fltc (Q, B)) 74)).alloc (.cells (qfn q) 46)).alloc (.cells (fltc (fun _ => 0, fun _ => 0)) 74)) (w.heap.size + 2) (fltc (fun _ => 0, fun _ => 0)) 74 := blk.new' (by simp)
  have hB : Below w.heap.size w (((w.alloc (.cells (fltc (Q, B)) 74)).alloc (.cells (qfn q) 46)).alloc (.cells (fltc (fun _ => 0, fun _ => 0)) 74)) := by go_grown
  generalize (((w.alloc (.cells (fltc (Q, B)) 74)).alloc (.cells (qfn q) 46)).alloc (.cells (fltc (fun _ => 0, fun _ => 0)) 74)) = w0 at *
  go_upto_region 1 with (fail)
  have lt_f := f.lt
  have lt_a := a.lt
  have lt_o := o.lt
  have hW0 : w.heap.size ≤ w0.heap.size := by have := hB.size; first | exact this | simpa using this
  apply wp_region_Q 10 [0, 1, 3, 7, 15, 31, 63, 127, 255, 511] [7] [_, _, _, _, _, _, _, (fun p => .pointer (some ⟨p 7, 0, none⟩)), (fun _ => undef), _] (fun p L w' => w0.heap.size ≤ w'.heap.size ∧ Below w.heap.size w w' ∧ blk w' w.heap.size (fltc (Q, B)) 74 ∧ blk w' (w.heap.size + 1) (qfn q) 46 ∧ blk w' (w.heap.size + 2) (fltc (fun _ => 0, fun _ => 0)) 74 ∧ (L 7 = true → w0.heap.size ≤ p 7 ∧ blk w' (p 7) (bif L 8 then (qfn (betF Q q)) else (qfn fun _ => 0)) 46)) _ [(0, 11), (1, 12), (2, 13), (3, 14), (4, 10), (5, 15), (6, 16), (7, 6), (9, 7)] [0, 1, 2, 3, 4, 5, 6, 7, 8, 9]
  case hn => rfl
  case hB => kernel_rfl
  case hds => kernel_rfl
  case hA => (intro p; simp only [putsD, Act.put, List.setIfInBounds_toArray, List.set_cons_zero, List.set_cons_succ, List.getD_cons_zero, List.getD_cons_succ]; exact rfl)
  case h0 => exact fun p => ⟨Nat.le_refl _, hB, f, a, o, fun h => absurd h (by decide)⟩
  case hmore => exact fun p L w1 w2 ⟨hsz, hB, f, a, o, h_d⟩ hm => ⟨Nat.le_trans hsz hm.size, hB.trans (hm.mono (Nat.le_trans hW0 hsz)), f.below hm f.lt, a.below hm a.lt, o.below hm o.lt, fun hl => ⟨(h_d hl).1, (h_d hl).2.below hm (h_d hl).2.lt⟩⟩
  case hs =>
    intro more
    refine stepV 0 rfl rfl (fun _ _ _ h => h) ?_ ?_
    · intros; go_simp; exact ⟨rfl, rfl⟩
    refine stepV 1 rfl rfl (fun _ _ _ h => h) ?_ ?_
    · rintro p L w1 ⟨hsz, hB, f, a, o, h_d⟩ hk
      have L8 : L 8 = false := hk.2.2 8 rfl
      exact valR_part _ _ rfl _ 0 rfl _ _ f (qfn Q) (flt_q Q B) _ Try.underlying46 rfl (by rw [qfn_size]; kernel_rfl) rfl
    refine stepV 2 rfl rfl (fun _ _ _ h => h) ?_ ?_
    · rintro p L w1 ⟨hsz, hB, f, a, o, h_d⟩ hk
      have L8 : L 8 = false := hk.2.2 8 rfl
      first | exact valR_row _ _ rfl _ rfl _ _ a _ Try.underlying46 rfl (by first | kernel_rfl | (rw [qfn_size]; kernel_rfl)) rfl | (have hc := a.cellIs (qfn_get _ (show 0 < 4 by omega)); go_simp; exact ⟨rfl, rfl⟩)
    refine stepD 3 rfl (fun p => rfl) (fun _ _ _ h => h) more ?_ ?_
    · rintro p L w1 ⟨hsz, hB, f, a, o, h_d⟩ hk
      go_simp
      refine (BE.out _).mono ?_
      rintro e w2 ⟨rfl, h2⟩
      first | exact ⟨rfl, h2⟩ | (subst h2; exact ⟨rfl, Below.refl _ _⟩)
    refine stepV 4 rfl rfl (fun _ _ _ h => h) ?_ ?_
    · intros; go_simp; exact ⟨rfl, rfl⟩
    refine stepV 5 rfl rfl (fun _ _ _ h => h) ?_ ?_
    · intros; go_simp; exact ⟨rfl, rfl⟩
    refine stepV 6 rfl rfl (fun _ _ _ h => h) ?_ ?_
    · intros; go_simp; exact ⟨rfl, rfl⟩
    refine AllI.cons ?_ ?_
    · refine stepI_alloc 7 rfl (fun p => rfl) rfl (qfn fun _ => 0) 46 (fun p => rfl) ?_ ?_
      · intro p w1
        go_simp
        first | rfl | rw [zero_quat]
      rintro p L w1 ⟨hsz, hB, f, a, o, h_d⟩ hk
      have L8 : L 8 = false := hk.2.2 8 rfl
      refine ⟨Nat.le_trans hsz (by simp), hB.alloc (Nat.le_trans (by first | exact hW0 | (have := hB.size; simp at this ⊢; omega)) hsz) _, f.alloc _, a.alloc _, o.alloc _, fun _ => ⟨hsz, ?_⟩⟩
      rw [show upL L 7 8 = false from L8]
      exact blk.new _ _ _
    refine AllI.cons ?_ ?_
    · refine stepI_store 8 rfl (fun p => rfl) (fun p => rfl) _ _ _ rfl (fun p => p 7) 0 (fun p => rfl) (fun p => (qfn (betF Q q))) (fun p => rfl) (fun p => (qfn fun _ => 0)) (fun p => (qfn (betF Q q))) 46 (fun p => over_qq _ _) (fun p => by first | (rw [qfn_size, qfn_size]; decide) | simp [qfn_size, qfn_size]) (fun p => by rw [qfn_size]; kernel_rfl) (fun p => qfn_one _) ?_ ?_
      · rintro p L w1 ⟨hsz, hB, f, a, o, h_d⟩ hk
        have L8 : L 8 = false := hk.1
        have hh := (h_d (hk.2.1 7 rfl)).2
        rw [L8] at hh
        try simp only [cond_true, cond_false] at hh
        exact hh
      · rintro p L w1 ⟨hsz, hB, f, a, o, h_d⟩ hk
        have L8 : L 8 = false := hk.1
        skip
        have hp := h_d (hk.2.1 7 rfl)
        refine ⟨(by simpa using hsz), Below.setRow hB (by first | exact Nat.le_trans hW0 hp.1 | exact ge_d | omega | (have := hB.size; simp at this ⊢; omega)) _, f.rowOther (by first | exact Nat.ne_of_lt (Nat.lt_of_lt_of_le lt_f hp.1) | omega) _, a.rowOther (by first | exact Nat.ne_of_lt (Nat.lt_of_lt_of_le lt_a hp.1) | omega) _, o.rowOther (by first | exact Nat.ne_of_lt (Nat.lt_of_lt_of_le lt_o hp.1) | omega) _, fun _ => ⟨hp.1, ?_⟩⟩
        rw [show upL L 8 8 = true from rfl]
        exact hp.2.row _
    refine stepV 9 rfl rfl (fun _ _ _ h => h) ?_ ?_
    · intros; go_simp; exact ⟨rfl, rfl⟩
    exact AllI.nil
  case hV0 =>
    intro p q
    refine AllI.cons ?_ ?_
    · skip
      iterate 10 (refine AllI.cons (by first | exact .inl rfl | (refine .inr ?_; simp only [List.getD_cons_zero, List.getD_cons_succ]; done) | exact .inr rfl) ?_)
      exact AllI.nil
    exact AllI.nil
  case he =>
  clear hB f a o
  rintro p w0r ⟨hsz, hB, f, a, o, h_d⟩
  obtain ⟨le_d, d⟩ := h_d rfl
  clear h_d
  replace d : blk w0r (p 7) (qfn (betF Q q)) 46 := d
  have ne_f_d : w.heap.size ≠ p 7 := Nat.ne_of_lt (Nat.lt_of_lt_of_le lt_f le_d)
  have ne_a_d : (w.heap.size + 1) ≠ p 7 := Nat.ne_of_lt (Nat.lt_of_lt_of_le lt_a le_d)
  have ne_o_d : (w.heap.size + 2) ≠ p 7 := Nat.ne_of_lt (Nat.lt_of_lt_of_le lt_o le_d)
  have ge_d : w.heap.size ≤ p 7 := Nat.le_trans hW0 le_d
  generalize p 7 = d_b at *
  clear lt_f
  clear lt_a
  clear lt_o
  clear hsz hW0
  generalize hD : betF Q q = D at *
  go_upto_region 4 with (fail)
  have lt_f := f.lt
  have lt_a := a.lt
  have lt_o := o.lt
  have lt_d := d.lt
  have hW0 : w.heap.size ≤ w0r.heap.size := by have := hB.size; first | exact this | simpa using this
  apply wp_region_Q 9 [0, 1, 3, 7, 15, 31, 63, 127, 255] [7] [_, _, _, _, _, _, _, (fun p => .pointer (some ⟨p 7, 0, none⟩)), (fun _ => undef)] (fun p L w' => w0r.heap.size ≤ w'.heap.size ∧ Below w.heap.size w w' ∧ blk w' w.heap.size (fltc (Q, B)) 74 ∧ blk w' (w.heap.size + 1) (qfn q) 46 ∧ blk w' (w.heap.size + 2) (fltc (fun _ => 0, fun _ => 0)) 74 ∧ blk w' d_b (qfn D) 46 ∧ (L 7 = true → w0r.heap.size ≤ p 7 ∧ blk w' (p 7) (bif L 8 then (vfn (offF D)) else (vfn fun _ => 0)) 39)) _ [(0, 20), (1, 21), (2, 22), (3, 23), (4, 24), (5, 25), (6, 26), (7, 8)] [0, 1, 2, 3, 4, 5, 6, 7, 8]
  case hn => rfl
  case hB => kernel_rfl
  case hds => kernel_rfl
  case hA => (intro p; simp only [putsD, Act.put, List.setIfInBounds_toArray, List.set_cons_zero, List.set_cons_succ, List.getD_cons_zero, List.getD_cons_succ]; exact rfl)
  case h0 => exact fun p => ⟨Nat.le_refl _, hB, f, a, o, d, fun h => absurd h (by decide)⟩
  case hmore => exact fun p L w1 w2 ⟨hsz, hB, f, a, o, d, h_p3⟩ hm => ⟨Nat.le_trans hsz hm.size, hB.trans (hm.mono (Nat.le_trans hW0 hsz)), f.below hm f.lt, a.below hm a.lt, o.below hm o.lt, d.below hm d.lt, fun hl => ⟨(h_p3 hl).1, (h_p3 hl).2.below hm (h_p3 hl).2.lt⟩⟩
  case hs =>
    intro more
    refine stepV 0 rfl rfl (fun _ _ _ h => h) ?_ ?_
    · intros; go_simp; exact ⟨rfl, rfl⟩
    refine stepV 1 rfl rfl (fun _ _ _ h => h) ?_ ?_
    · rintro p L w1 ⟨hsz, hB, f, a, o, d, h_p3⟩ hk
      have L8 : L 8 = false := hk.2.2 8 rfl
      first | exact valR_row _ _ rfl _ rfl _ _ d _ Try.underlying46 rfl (by first | kernel_rfl | (rw [qfn_size]; kernel_rfl)) rfl | (have hc := d.cellIs (qfn_get _ (show 1 < 4 by omega)); go_simp; exact ⟨rfl, rfl⟩)
    refine stepV 2 rfl rfl (fun _ _ _ h => h) ?_ ?_
    · intros; go_simp; exact ⟨rfl, rfl⟩
    refine stepV 3 rfl rfl (fun _ _ _ h => h) ?_ ?_
    · rintro p L w1 ⟨hsz, hB, f, a, o, d, h_p3⟩ hk
      have L8 : L 8 = false := hk.2.2 8 rfl
      first | exact valR_row _ _ rfl _ rfl _ _ d _ Try.underlying46 rfl (by first | kernel_rfl | (rw [qfn_size]; kernel_rfl)) rfl | (have hc := d.cellIs (qfn_get _ (show 2 < 4 by omega)); go_simp; exact ⟨rfl, rfl⟩)
    refine stepV 4 rfl rfl (fun _ _ _ h => h) ?_ ?_
    · intros; go_simp; exact ⟨rfl, rfl⟩
    refine stepV 5 rfl rfl (fun _ _ _ h => h) ?_ ?_
    · rintro p L w1 ⟨hsz, hB, f, a, o, d, h_p3⟩ hk
      have L8 : L 8 = false := hk.2.2 8 rfl
      first | exact valR_row _ _ rfl _ rfl _ _ d _ Try.underlying46 rfl (by first | kernel_rfl | (rw [qfn_size]; kernel_rfl)) rfl | (have hc := d.cellIs (qfn_get _ (show 3 < 4 by omega)); go_simp; exact ⟨rfl, rfl⟩)
    refine stepV 6 rfl rfl (fun _ _ _ h => h) ?_ ?_
    · intros; (try simp only [vfn, qfn]); go_simp; exact ⟨rfl, rfl⟩
    refine AllI.cons ?_ ?_
    · refine stepI_alloc 7 rfl (fun p => rfl) rfl (vfn fun _ => 0) 39 (fun p => rfl) ?_ ?_
      · intro p w1
        go_simp
        first | rfl | rw [zero_vec]
      rintro p L w1 ⟨hsz, hB, f, a, o, d, h_p3⟩ hk
      have L8 : L 8 = false := hk.2.2 8 rfl
      refine ⟨Nat.le_trans hsz (by simp), hB.alloc (Nat.le_trans (by first | exact hW0 | (have := hB.size; simp at this ⊢; omega)) hsz) _, f.alloc _, a.alloc _, o.alloc _, d.alloc _, fun _ => ⟨hsz, ?_⟩⟩
      rw [show upL L 7 8 = false from L8]
      exact blk.new _ _ _
    refine AllI.cons ?_ ?_
    · refine stepI_store 8 rfl (fun p => rfl) (fun p => rfl) _ _ _ rfl (fun p => p 7) 0 (fun p => rfl) (fun p => (vfn (offF D))) (fun p => congrArg Value.agg (off_cells D)) (fun p => (vfn fun _ => 0)) (fun p => (vfn (offF D))) 39 (fun p => over_v _ _) (fun p => by first | (rw [vfn_size, vfn_size]; decide) | simp [vfn_size, vfn_size]) (fun p => by rw [vfn_size]; kernel_rfl) (fun p => vfn_one _) ?_ ?_
      · rintro p L w1 ⟨hsz, hB, f, a, o, d, h_p3⟩ hk
        have L8 : L 8 = false := hk.1
        have hh := (h_p3 (hk.2.1 7 rfl)).2
        rw [L8] at hh
        try simp only [cond_true, cond_false] at hh
        exact hh
      · rintro p L w1 ⟨hsz, hB, f, a, o, d, h_p3⟩ hk
        have L8 : L 8 = false := hk.1
        skip
        have hp := h_p3 (hk.2.1 7 rfl)
        refine ⟨(by simpa using hsz), Below.setRow hB (by first | exact Nat.le_trans hW0 hp.1 | exact ge_p3 | omega | (have := hB.size; simp at this ⊢; omega)) _, f.rowOther (by first | exact Nat.ne_of_lt (Nat.lt_of_lt_of_le lt_f hp.1) | omega) _, a.rowOther (by first | exact Nat.ne_of_lt (Nat.lt_of_lt_of_le lt_a hp.1) | omega) _, o.rowOther (by first | exact Nat.ne_of_lt (Nat.lt_of_lt_of_le lt_o hp.1) | omega) _, d.rowOther (by first | exact Nat.ne_of_lt (Nat.lt_of_lt_of_le lt_d hp.1) | omega) _, fun _ => ⟨hp.1, ?_⟩⟩
        rw [show upL L 8 8 = true from rfl]
        exact hp.2.row _
    exact AllI.nil
  case hV0 =>
    intro p q
    refine AllI.cons ?_ ?_
    · skip
      iterate 9 (refine AllI.cons (by first | exact .inl rfl | (refine .inr ?_; simp only [List.getD_cons_zero, List.getD_cons_succ]; done) | exact .inr rfl) ?_)
      exact AllI.nil
    exact AllI.nil
  case he =>
  clear hB f a o d
  rintro p w0rr ⟨hsz, hB, f, a, o, d, h_p3⟩
  obtain ⟨le_p3, p3⟩ := h_p3 rfl
  clear h_p3
  replace p3 : blk w0rr (p 7) (vfn (offF D)) 39 := p3
  have ne_f_p3 : w.heap.size ≠ p 7 := Nat.ne_of_lt (Nat.lt_of_lt_of_le lt_f le_p3)
  have ne_a_p3 : (w.heap.size + 1) ≠ p 7 := Nat.ne_of_lt (Nat.lt_of_lt_of_le lt_a le_p3)
  have ne_o_p3 : (w.heap.size + 2) ≠ p 7 := Nat.ne_of_lt (Nat.lt_of_lt_of_le lt_o le_p3)
  have ne_d_p3 : d_b ≠ p 7 := Nat.ne_of_lt (Nat.lt_of_lt_of_le lt_d le_p3)
  have ge_p3 : w.heap.size ≤ p 7 := Nat.le_trans hW0 le_p3
  generalize p 7 = p3_b at *
  clear lt_f
  clear lt_a
  clear lt_o
  clear lt_d
  clear hsz hW0
  go_upto_region 5 with (fail)
  have lt_f := f.lt
  have lt_a := a.lt
  have lt_o := o.lt
  have lt_d := d.lt
  have lt_p3 := p3.lt
  have hW0 : w.heap.size ≤ w0rr.heap.size := by have := hB.size; first | exact this | simpa using this
  apply wp_region_I 13 [0, 0, 2, 6, 0, 16, 62, 0, 128, 510, 1022, 2047, 4095] [] [_, _, _, _, _, _, _, _, _, _, _, _, (fun _ => undef)] (fun p L w' => w0rr.heap.size ≤ w'.heap.size ∧ Below w.heap.size w w' ∧ blk w' w.heap.size (bif L 12 then (fltc ((ftF Q (partF (offF D) 4)), B)) else (fltc (Q, B))) 74 ∧ blk w' (w.heap.size + 1) (qfn q) 46 ∧ blk w' (w.heap.size + 2) (fltc (fun _ => 0, fun _ => 0)) 74 ∧ blk w' d_b (qfn D) 46 ∧ blk w' p3_b (vfn (offF D)) 39) _ [(0, 27), (1, 28), (2, 29), (3, 30), (4, 31), (5, 32), (6, 33), (7, 34), (8, 35), (9, 36), (10, 37), (11, 38)] [0, 1, 2, 3, 4, 5, 6, 7, 8, 9, 10, 11, 12]
  case hn => rfl
  case hm => kernel_rfl
  case hB => kernel_rfl
  case hds => kernel_rfl
  case hA => (intro p; simp only [putsD, Act.put, List.setIfInBounds_toArray, List.set_cons_zero, List.set_cons_succ, List.getD_cons_zero, List.getD_cons_succ]; exact rfl)
  case h0 => exact fun p => ⟨Nat.le_refl _, hB.drew, f.drew, a.drew, o.drew, d.drew, p3.drew⟩
  case hmore => exact fun p L w1 w2 ⟨hsz, hB, f, a, o, d, p3⟩ hm => ⟨Nat.le_trans hsz hm.size, hB.trans (hm.mono (Nat.le_trans hW0 hsz)), f.below hm f.lt, a.below hm a.lt, o.below hm o.lt, d.below hm d.lt, p3.below hm p3.lt⟩
  case hs =>
    intro more
    refine stepV 0 rfl rfl (fun _ _ _ h => h) ?_ ?_
    · rintro p L w1 ⟨hsz, hB, f, a, o, d, p3⟩ hk
      have L12 : L 12 = false := hk.2.2 12 rfl
      rw [L12] at f
      try simp only [cond_true, cond_false] at f
      first | exact valR_row _ _ rfl _ rfl _ _ f _ Try.underlying74 rfl (by first | kernel_rfl | (rw [fltc_size]; kernel_rfl)) rfl | (have hc := f.cellIs (show _[0]? = some _ from rfl); go_simp; exact ⟨rfl, rfl⟩)
    refine stepV 1 rfl rfl (fun _ _ _ h => h) ?_ ?_
    · intros; go_simp; exact ⟨rfl, rfl⟩
    refine stepV 2 rfl rfl (fun _ _ _ h => h) ?_ ?_
    · rintro p L w1 ⟨hsz, hB, f, a, o, d, p3⟩ hk
      have L12 : L 12 = false := hk.2.2 12 rfl
      first | exact valR_row _ _ rfl _ rfl _ _ p3 _ Try.underlying39 rfl (by first | kernel_rfl | (rw [vfn_size]; kernel_rfl)) rfl | (have hc := p3.cellIs (vfn_get _ (show 0 < 3 by omega)); go_simp; exact ⟨rfl, rfl⟩)
    refine stepD 3 rfl (fun p => rfl) (fun _ _ _ h => h) more ?_ ?_
    · rintro p L w1 ⟨hsz, hB, f, a, o, d, p3⟩ hk
      go_simp
      refine (near_any (offF D 0) 4 _ (HD.out 0 (by omega)) ⟨by omega, by omega⟩).mono ?_
      rintro e w2 ⟨rfl, h2⟩
      first | exact ⟨rfl, h2⟩ | (subst h2; exact ⟨rfl, Below.refl _ _⟩)
    refine stepV 4 rfl rfl (fun _ _ _ h => h) ?_ ?_
    · intros; go_simp; exact ⟨rfl, rfl⟩
    refine stepV 5 rfl rfl (fun _ _ _ h => h) ?_ ?_
    · rintro p L w1 ⟨hsz, hB, f, a, o, d, p3⟩ hk
      have L12 : L 12 = false := hk.2.2 12 rfl
      first | exact valR_row _ _ rfl _ rfl _ _ p3 _ Try.underlying39 rfl (by first | kernel_rfl | (rw [vfn_size]; kernel_rfl)) rfl | (have hc := p3.cellIs (vfn_get _ (show 1 < 3 by omega)); go_simp; exact ⟨rfl, rfl⟩)
    refine stepD 6 rfl (fun p => rfl) (fun _ _ _ h => h) more ?_ ?_
    · rintro p L w1 ⟨hsz, hB, f, a, o, d, p3⟩ hk
      go_simp
      refine (near_any (offF D 1) 4 _ (HD.out 1 (by omega)) ⟨by omega, by omega⟩).mono ?_
      rintro e w2 ⟨rfl, h2⟩
      first | exact ⟨rfl, h2⟩ | (subst h2; exact ⟨rfl, Below.refl _ _⟩)
    refine stepV 7 rfl rfl (fun _ _ _ h => h) ?_ ?_
    · intros; go_simp; exact ⟨rfl, rfl⟩
    refine stepV 8 rfl rfl (fun _ _ _ h => h) ?_ ?_
    · rintro p L w1 ⟨hsz, hB, f, a, o, d, p3⟩ hk
      have L12 : L 12 = false := hk.2.2 12 rfl
      first | exact valR_row _ _ rfl _ rfl _ _ p3 _ Try.underlying39 rfl (by first | kernel_rfl | (rw [vfn_size]; kernel_rfl)) rfl | (have hc := p3.cellIs (vfn_get _ (show 2 < 3 by omega)); go_simp; exact ⟨rfl, rfl⟩)
    refine stepD 9 rfl (fun p => rfl) (fun _ _ _ h => h) more ?_ ?_
    · rintro p L w1 ⟨hsz, hB, f, a, o, d, p3⟩ hk
      go_simp
      refine (near_any (offF D 2) 4 _ (HD.out 2 (by omega)) ⟨by omega, by omega⟩).mono ?_
      rintro e w2 ⟨rfl, h2⟩
      first | exact ⟨rfl, h2⟩ | (subst h2; exact ⟨rfl, Below.refl _ _⟩)
    refine AllI.cons ?_ ?_
    · refine stepI_val 10 rfl (fun p => rfl) ?_ (fun _ _ _ h => h)
      intro p L w1 _ _
      go_simp
      exact ⟨congrArg Value.agg (part_cells (offF D) 4), rfl⟩
    refine stepD 11 rfl (fun p => rfl) (fun _ _ _ h => h) more ?_ ?_
    · rintro p L w1 ⟨hsz, hB, f, a, o, d, p3⟩ hk
      go_simp
      refine (TU.out _).mono ?_
      rintro e w2 ⟨rfl, h2⟩
      first | exact ⟨rfl, h2⟩ | (subst h2; exact ⟨rfl, Below.refl _ _⟩)
    refine AllI.cons ?_ ?_
    · refine stepI_store 12 rfl (fun p => rfl) (fun p => rfl) _ _ _ rfl (fun _ => w.heap.size) 0 (fun p => rfl) (fun p => (fltc ((ftF Q (partF (offF D) 4)), B))) (fun p => rfl) (fun p => (fltc (Q, B))) (fun p => (fltc ((ftF Q (partF (offF D) 4)), B))) 74 (fun p => rfl) (fun p => by first | (rw [fltc_size, fltc_size]; decide) | simp [fltc_size, fltc_size]) (fun p => by rw [fltc_size]; kernel_rfl) (fun p => fltc_one _) ?_ ?_
      · rintro p L w1 ⟨hsz, hB, f, a, o, d, p3⟩ hk
        have L12 : L 12 = false := hk.1
        rw [L12] at f
        try simp only [cond_true, cond_false] at f
        exact f
      · rintro p L w1 ⟨hsz, hB, f, a, o, d, p3⟩ hk
        have L12 : L 12 = false := hk.1
        skip
        refine ⟨(by simpa using hsz), Below.setRow hB (by first | exact Nat.le_trans hW0 hp.1 | exact ge_f | omega | (have := hB.size; simp at this ⊢; omega)) _, ?_, a.rowOther (by first | exact ne_a_f | exact Ne.symm ne_f_a | omega) _, o.rowOther (by first | exact ne_o_f | exact Ne.symm ne_f_o | omega) _, d.rowOther (by first | exact ne_d_f | exact Ne.symm ne_f_d | omega) _, p3.rowOther (by first | exact ne_p3_f | exact Ne.symm ne_f_p3 | omega) _⟩
        rw [show upL L 12 12 = true from rfl]
        exact f.row _
    exact AllI.nil
  case hV0 => exact fun p q => AllI.nil
  case he =>
  clear hB f a o d p3
  rintro p w0rrr ⟨hsz, hB, f, a, o, d, p3⟩
  replace f : blk w0rrr w.heap.size (fltc ((ftF Q (partF (offF D) 4)), B)) 74 := f
  clear lt_f
  clear lt_a
  clear lt_o
  clear lt_d
  clear lt_p3
  clear hsz hW0
  go_upto_region 6 with (fail)
  have lt_f := f.lt
  have lt_a := a.lt
  have lt_o := o.lt
  have lt_d := d.lt
  have lt_p3 := p3.lt
  have hW0 : w.heap.size ≤ w0rrr.heap.size := by have := hB.size; first | exact this | simpa using this
  apply wp_region_Q 2 [0, 1] [] [_, _] (fun p L w' => w0rrr.heap.size ≤ w'.heap.size ∧ Below w.heap.size w w' ∧ blk w' w.heap.size (fltc ((ftF Q (partF (offF D) 4)), B)) 74 ∧ blk w' (w.heap.size + 1) (qfn q) 46 ∧ blk w' (w.heap.size + 2) (fltc (fun _ => 0, fun _ => 0)) 74 ∧ blk w' d_b (qfn D) 46 ∧ blk w' p3_b (vfn (offF D)) 39) _ [(0, 39), (1, 40)] [0, 1]
  case hn => rfl
  case hB => kernel_rfl
  case hds => kernel_rfl
  case hA => (intro p; simp only [putsD, Act.put, List.setIfInBounds_toArray, List.set_cons_zero, List.set_cons_succ, List.getD_cons_zero, List.getD_cons_succ]; exact rfl)
  case h0 => exact fun p => ⟨Nat.le_refl _, hB, f, a, o, d, p3⟩
  case hmore => exact fun p L w1 w2 ⟨hsz, hB, f, a, o, d, p3⟩ hm => ⟨Nat.le_trans hsz hm.size, hB.trans (hm.mono (Nat.le_trans hW0 hsz)), f.below hm f.lt, a.below hm a.lt, o.below hm o.lt, d.below hm d.lt, p3.below hm p3.lt⟩
  case hs =>
    intro more
    refine stepV 0 rfl rfl (fun _ _ _ h => h) ?_ ?_
    · rintro p L w1 ⟨hsz, hB, f, a, o, d, p3⟩ hk
      first | exact valR_row _ _ rfl _ rfl _ _ p3 _ Try.underlying39 rfl (by first | kernel_rfl | (rw [vfn_size]; kernel_rfl)) rfl | (have hc := p3.cellIs (vfn_get _ (show 0 < 3 by omega)); go_simp; exact ⟨rfl, rfl⟩)
    refine stepD 1 rfl (fun p => rfl) (fun _ _ _ h => h) more ?_ ?_
    · rintro p L w1 ⟨hsz, hB, f, a, o, d, p3⟩ hk
      go_simp
      refine (WI.out _).mono ?_
      rintro e w2 ⟨rfl, h2⟩
      first | exact ⟨rfl, h2⟩ | (subst h2; exact ⟨rfl, Below.refl _ _⟩)
    exact AllI.nil
  case hV0 => exact fun p q => AllI.nil
  case he =>
  clear hB f a o d p3
  rintro p w0rrrr ⟨hsz, hB, f, a, o, d, p3⟩
  clear lt_f
  clear lt_a
  clear lt_o
  clear lt_d
  clear lt_p3
  clear hsz hW0
  go_upto_region 8 with (fail)
  rw [show (fltc ((ftF Q (partF (offF D) 4)), B)) = (fltc ((ftF Q (partF (offF D) 4)), preF (corF B (offF D)) B 0)) from by rw [preF_zero]] at f
  go_wp2_with (fail)
  go_loopg [9] 3 (fun g_ iv wr => ∃ k : Nat, g_ + k = 3 ∧ iv = .int .i64 k ∧ blk wr w.heap.size (fltc ((ftF Q (partF (offF D) 4)), preF (corF B (offF D)) B k)) 74 ∧ blk wr (w.heap.size + 1) (qfn q) 46 ∧ blk wr (w.heap.size + 2) (fltc (fun _ => 0, fun _ => 0)) 74 ∧ blk wr d_b (qfn D) 46 ∧ blk wr p3_b (vfn (offF D)) 39 ∧ Below w.heap.size w wr)
  case atStart => exact ⟨0, rfl, rfl, f, a, o, d, p3, hB⟩
  case round =>
    clear f a o d p3 hB
    obtain ⟨k, hk, rfl, f, a, o, d, p3, hB⟩ := hrel
    by_cases hkn : k < 3
    · have hdk : decide ((k : Int) < 3) = true := decide_eq_true (by omega)
      have hdk' : decide (k < 3) = true := decide_eq_true (by omega)
      have hk3 : (k : Int) < 3 := by omega
      have hw3 : IntKind.i64.wrap ((k : Int) + 1) = ((k + 1 : Nat) : Int) := by rw [IntKind.wrap_i64]; omega
      have H0 := HB.out k hkn
      have H1 := HP.out k hkn
      have H2 := HD.out k hkn
      have e1 : IntKind.i64.wrap (B k - ratioV (offF D k) 1 32) = B k - ratioV (offF D k) 1 32 := by rw [IntKind.wrap_i64]; omega
      clear H0 H1
      have NE := Lib.hid (fun w => near_any (offF D k) 32 w H2 ⟨by omega, by omega⟩)
      have CL := Lib.hid (fun w => rclamp_any (B k - ratioV (offF D k) 1 32) (-16777216) 16777216 w)
      clear H2
      have ev := (CE.out k hkn).symm
      go_upto_region 10 with (fail)
      have lt_f := f.lt
      have lt_a := a.lt
      have lt_o := o.lt
      have lt_d := d.lt
      have lt_p3 := p3.lt
      have hW0 : w.heap.size ≤ wr.heap.size := by have := hB.size; first | exact this | simpa using this
      apply wp_region_I 14 [0, 0, 0, 6, 14, 0, 32, 96, 224, 510, 1022, 0, 4095, 8191] [] [_, _, _, _, _, _, _, _, _, _, _, _, _, (fun _ => undef)] (fun p L w' => wr.heap.size ≤ w'.heap.size ∧ Below w.heap.size w w' ∧ blk w' w.heap.size (bif L 13 then (fltc ((ftF Q (partF (offF D) 4)), preF (corF B (offF D)) B (k + 1))) else (fltc ((ftF Q (partF (offF D) 4)), preF (corF B (offF D)) B k))) 74 ∧ blk w' (w.heap.size + 1) (qfn q) 46 ∧ blk w' (w.heap.size + 2) (fltc (fun _ => 0, fun _ => 0)) 74 ∧ blk w' d_b (qfn D) 46 ∧ blk w' p3_b (vfn (offF D)) 39) _ [(0, 45), (1, 46), (2, 47), (3, 48), (4, 49), (5, 50), (6, 51), (7, 52), (8, 53), (9, 54), (10, 55), (11, 56), (12, 57)] [0, 1, 2, 3, 4, 5, 6, 7, 8, 9, 10, 11, 12, 13]
      case hn => rfl
      case hm => kernel_rfl
      case hB => kernel_rfl
      case hds => kernel_rfl
      case hA => (intro p; simp only [putsD, Act.put, List.setIfInBounds_toArray, List.set_cons_zero, List.set_cons_succ, List.getD_cons_zero, List.getD_cons_succ]; exact rfl)
      case h0 => exact fun p => ⟨Nat.le_refl _, hB.drew, f.drew, a.drew, o.drew, d.drew, p3.drew⟩
      case hmore => exact fun p L w1 w2 ⟨hsz, hB, f, a, o, d, p3⟩ hm => ⟨Nat.le_trans hsz hm.size, hB.trans (hm.mono (Nat.le_trans hW0 hsz)), f.below hm f.lt, a.below hm a.lt, o.below hm o.lt, d.below hm d.lt, p3.below hm p3.lt⟩
      case hs =>
        intro more
        refine stepV 0 rfl rfl (fun _ _ _ h => h) ?_ ?_
        · intros; go_simp; exact ⟨rfl, rfl⟩
        refine stepV 1 rfl rfl (fun _ _ _ h => h) ?_ ?_
        · intros; go_simp; exact ⟨rfl, rfl⟩
        refine stepV 2 rfl rfl (fun _ _ _ h => h) ?_ ?_
        · intros; go_simp; exact ⟨rfl, rfl⟩
        refine stepV 3 rfl rfl (fun _ _ _ h => h) ?_ ?_
        · intros; go_simp; exact ⟨rfl, rfl⟩
        refine stepV 4 rfl rfl (fun _ _ _ h => h) ?_ ?_
        · rintro p L w1 ⟨hsz, hB, f, a, o, d, p3⟩ hk
          have L13 : L 13 = false := hk.2.2 13 rfl
          rw [L13] at f
          try simp only [cond_true, cond_false] at f
          have hc : w1.cell? ⟨w.heap.size, 4 + k, none⟩ = some (.int .i64 (B k)) := f.cellIs (by have := flt_b (ftF Q (partF (offF D) 4)) (preF (corF B (offF D)) B k) k (by rw [vfn_size]; exact hkn); rw [this, vfn_get _ hkn, preF_at])
          go_simp
          exact ⟨rfl, rfl⟩
        refine stepV 5 rfl rfl (fun _ _ _ h => h) ?_ ?_
        · intros; go_simp; exact ⟨rfl, rfl⟩
        refine stepV 6 rfl rfl (fun _ _ _ h => h) ?_ ?_
        · intros; go_simp; exact ⟨rfl, rfl⟩
        refine stepV 7 rfl rfl (fun _ _ _ h => h) ?_ ?_
        · rintro p L w1 ⟨hsz, hB, f, a, o, d, p3⟩ hk
          have L13 : L 13 = false := hk.2.2 13 rfl
          have hc : w1.cell? ⟨p3_b, k, none⟩ = some (.int .i64 (offF D k)) := p3.cellIs (vfn_get _ hkn)
          go_simp
          exact ⟨rfl, rfl⟩
        refine stepD 8 rfl (fun p => rfl) (fun _ _ _ h => h) more ?_ ?_
        · rintro p L w1 ⟨hsz, hB, f, a, o, d, p3⟩ hk
          go_simp
          refine (NE.out _).mono ?_
          rintro e w2 ⟨rfl, h2⟩
          first | exact ⟨rfl, h2⟩ | (subst h2; exact ⟨rfl, Below.refl _ _⟩)
        refine stepV 9 rfl rfl (fun _ _ _ h => h) ?_ ?_
        · intros; go_simp; exact ⟨rfl, rfl⟩
        refine stepD 10 rfl (fun p => rfl) (fun _ _ _ h => h) more ?_ ?_
        · rintro p L w1 ⟨hsz, hB, f, a, o, d, p3⟩ hk
          go_simp
          refine (CL.out _).mono ?_
          rintro e w2 ⟨rfl, h2⟩
          first | exact ⟨rfl, h2⟩ | (subst h2; exact ⟨rfl, Below.refl _ _⟩)
        refine stepV 11 rfl rfl (fun _ _ _ h => h) ?_ ?_
        · intros; go_simp; exact ⟨rfl, rfl⟩
        refine stepV 12 rfl rfl (fun _ _ _ h => h) ?_ ?_
        · intros; go_simp; exact ⟨rfl, rfl⟩
        refine AllI.cons ?_ ?_
        · refine stepI_cell 13 rfl (fun p => rfl) (fun p => rfl) (fun _ => w.heap.size) ((4 + k)) (fun p => .int .i64 (clampV (B k - ratioV (offF D k) 1 32) (-16777216) 16777216)) (fun p => (fltc ((ftF Q (partF (offF D) 4)), preF (corF B (offF D)) B k))) (fun p => (fltc ((ftF Q (partF (offF D) 4)), preF (corF B (offF D)) B (k + 1)))) 74 (fun p => by rw [ev]; exact flt_set _ _ _ hkn) ?_ ?_ ?_
          · rintro p L w1 ⟨hsz, hB, f, a, o, d, p3⟩ hk
            have L13 : L 13 = false := hk.1
            rw [L13] at f
            try simp only [cond_true, cond_false] at f
            exact f
          · intro p w1 hb
            have fz : w1.frozen? ⟨w.heap.size, (4 + k), none⟩ = false := hb.free _
            have cz : ∃ u, w1.cell? ⟨w.heap.size, (4 + k), none⟩ = some u := ⟨_, hb.cellIs (by have := flt_b (ftF Q (partF (offF D) 4)) (preF (corF B (offF D)) B k) k (by rw [vfn_size]; exact hkn); rw [this]; exact vfn_get _ hkn)⟩
            obtain ⟨u, cz⟩ := cz
            go_simp
            try exact ⟨_, rfl, by first | exact .inl rfl | exact .inr rfl⟩
          · rintro p L w1 ⟨hsz, hB, f, a, o, d, p3⟩ hk
            have L13 : L 13 = false := hk.1
            refine ⟨(by simpa using hsz), Below.setRow hB (by first | exact Nat.le_trans hW0 hp.1 | exact ge_f | omega | (have := hB.size; simp at this ⊢; omega)) _, ?_, a.rowOther (by first | exact ne_a_f | exact Ne.symm ne_f_a | omega) _, o.rowOther (by first | exact ne_o_f | exact Ne.symm ne_f_o | omega) _, d.rowOther (by first | exact ne_d_f | exact Ne.symm ne_f_d | omega) _, p3.rowOther (by first | exact ne_p3_f | exact Ne.symm ne_f_p3 | omega) _⟩
            rw [show upL L 13 13 = true from rfl]
            exact f.row _
        exact AllI.nil
      case hV0 => exact fun p q => AllI.nil
      case he =>
      clear hB f a o d p3
      rintro p wrr ⟨hsz, hB, f, a, o, d, p3⟩
      replace f : blk wrr w.heap.size (fltc ((ftF Q (partF (offF D) 4)), preF (corF B (offF D)) B (k + 1))) 74 := f
      clear lt_f
      clear lt_a
      clear lt_o
      clear lt_d
      clear lt_p3
      clear hsz hW0
      go_wp2_with (fail)
      go_roundg (3 - (k + 1))
      case rel =>
        exact ⟨k + 1, by omega, rfl, f, a, o, d, p3, hB⟩
      case measure => omega
    · obtain rfl : k = 3 := by omega
      rw [flt_all] at f
      go_upto_region 11 with (fail)
      have lt_f := f.lt
      have lt_a := a.lt
      have lt_o := o.lt
      have lt_d := d.lt
      have lt_p3 := p3.lt
      have hW0 : w.heap.size ≤ wr.heap.size := by have := hB.size; first | exact this | simpa using this
      apply wp_region_Q 3 [0, 1, 3] [] [_, (fun _ => undef), _] (fun p L w' => wr.heap.size ≤ w'.heap.size ∧ Below w.heap.size w w' ∧ blk w' w.heap.size (fltc ((ftF Q (partF (offF D) 4)), corF B (offF D))) 74 ∧ blk w' (w.heap.size + 1) (qfn q) 46 ∧ blk w' (w.heap.size + 2) (bif L 1 then (fltc ((ftF Q (partF (offF D) 4)), corF B (offF D))) else (fltc (fun _ => 0, fun _ => 0))) 74 ∧ blk w' d_b (qfn D) 46 ∧ blk w' p3_b (vfn (offF D)) 39) _ [(0, 58), (2, 5)] [0, 1, 2]
      case hn => rfl
      case hB => kernel_rfl
      case hds => kernel_rfl
      case hA => (intro p; simp only [putsD, Act.put, List.setIfInBounds_toArray, List.set_cons_zero, List.set_cons_succ, List.getD_cons_zero, List.getD_cons_succ]; exact rfl)
      case h0 => exact fun p => ⟨Nat.le_refl _, hB, f, a, o, d, p3⟩
      case hmore => exact fun p L w1 w2 ⟨hsz, hB, f, a, o, d, p3⟩ hm => ⟨Nat.le_trans hsz hm.size, hB.trans (hm.mono (Nat.le_trans hW0 hsz)), f.below hm f.lt, a.below hm a.lt, o.below hm o.lt, d.below hm d.lt, p3.below hm p3.lt⟩
      case hs =>
        intro more
        refine stepV 0 rfl rfl (fun _ _ _ h => h) ?_ ?_
        · rintro p L w1 ⟨hsz, hB, f, a, o, d, p3⟩ hk
          have L1 : L 1 = false := hk.2.2 1 rfl
          first | exact valR_row _ _ rfl _ rfl _ _ f _ Try.underlying74 rfl (by first | kernel_rfl | (rw [fltc_size]; kernel_rfl)) rfl | (have hc := f.cellIs (show _[0]? = some _ from rfl); go_simp; exact ⟨rfl, rfl⟩)
        refine AllI.cons ?_ ?_
        · refine stepI_store 1 rfl (fun p => rfl) (fun p => rfl) _ _ _ rfl (fun _ => (w.heap.size + 2)) 0 (fun p => rfl) (fun p => (fltc ((ftF Q (partF (offF D) 4)), corF B (offF D)))) (fun p => rfl) (fun p => (fltc (fun _ => 0, fun _ => 0))) (fun p => (fltc ((ftF Q (partF (offF D) 4)), corF B (offF D)))) 74 (fun p => rfl) (fun p => by first | (rw [fltc_size, fltc_size]; decide) | simp [fltc_size, fltc_size]) (fun p => by rw [fltc_size]; kernel_rfl) (fun p => fltc_one _) ?_ ?_
          · rintro p L w1 ⟨hsz, hB, f, a, o, d, p3⟩ hk
            have L1 : L 1 = false := hk.1
            rw [L1] at o
            try simp only [cond_true, cond_false] at o
            exact o
          · rintro p L w1 ⟨hsz, hB, f, a, o, d, p3⟩ hk
            have L1 : L 1 = false := hk.1
            skip
            refine ⟨(by simpa using hsz), Below.setRow hB (by first | exact Nat.le_trans hW0 hp.1 | exact ge_o | omega | (have := hB.size; simp at this ⊢; omega)) _, f.rowOther (by first | exact ne_f_o | exact Ne.symm ne_o_f | omega) _, a.rowOther (by first | exact ne_a_o | exact Ne.symm ne_o_a | omega) _, ?_, d.rowOther (by first | exact ne_d_o | exact Ne.symm ne_o_d | omega) _, p3.rowOther (by first | exact ne_p3_o | exact Ne.symm ne_o_p3 | omega) _⟩
            rw [show upL L 1 1 = true from rfl]
            exact o.row _
        refine stepV 2 rfl rfl (fun _ _ _ h => h) ?_ ?_
        · intros; go_simp; exact ⟨rfl, rfl⟩
        exact AllI.nil
      case hV0 => exact fun p q => AllI.nil
      case he =>
      clear hB f a o d p3
      rintro p wrr ⟨hsz, hB, f, a, o, d, p3⟩
      replace o : blk wrr (w.heap.size + 2) (fltc ((ftF Q (partF (offF D) 4)), corF B (offF D))) 74 := o
      clear lt_f
      clear lt_a
      clear lt_o
      clear lt_d
      clear lt_p3
      clear hsz hW0
      go_wp2_with (fail)
      refine bodyPost_ret (results_vec rfl _ _ _ _ _ _ _ rfl o Try.underlying74 rfl (by first | kernel_rfl | (rw [fltc_size]; kernel_rfl))) rfl ?_
      refine ⟨?_, hB⟩
      subst hD
      rfl
end Go.Proofs.Ytnkjbdfhdenbcaa
