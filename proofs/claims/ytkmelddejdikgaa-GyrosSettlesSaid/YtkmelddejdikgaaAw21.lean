/-
  What the statements of chapter 21 ask for first.
-/
import Derived.Test.YtkmelddejdikgaaFlC
import Derived.Test.YtkmelddejdikgaaLawVec
import Derived.Test.YtkmelddejdikgaaQEq
set_option linter.unusedSimpArgs false
set_option linter.unusedVariables false
namespace Go.Proofs.Ytkmelddejdikgaa
open Go.RowKit PM Dt
theorem aw_g1 : smallB (of3 5 0 (-7)) 16777216 = true := by decide +kernel
theorem aw_rd : vfn (readF (gyS (of3 5 0 (-7)) 100) (of3 1 2 200) (of3 0 0 0)) = vfn (of3 6 2 100) := vfn_congr (by decide +kernel)
theorem aw_v1 : validQ (of4 1073741824 0 0 0) = true := by decide +kernel
theorem aw_z1 : zQ (of4 1073741824 0 0 0) = false := by decide +kernel
theorem aw_z2 : zQ (of4 1073739776 0 0 2097148) = false := by decide +kernel
theorem aw_gi : GI (gyS (of3 5 0 (-7)) 100) := by unfold GI; decide +kernel
theorem aw_pc : fltc (ftF (of4 1073741824 0 0 0) (partF (vsubF (of3 0 0 4194304) fun _ => 0) 2), fun _ => 0) = fltc (of4 1073739776 0 0 2097148, fun _ => 0) := by
  have h : ∀ i, i < 4 → ftF (of4 1073741824 0 0 0) (partF (vsubF (of3 0 0 4194304) fun _ => 0) 2) i = of4 1073739776 0 0 2097148 i := by decide +kernel
  unfold fltc flt
  simp only [h 0 (by omega), h 1 (by omega), h 2 (by omega), h 3 (by omega)]
set_option maxRecDepth 100000 in
set_option maxHeartbeats 6000000 in
theorem awake21_any  (w : World) : Calls Try.prog 37 #[] w fun e w' => e = .returned (.bool true) ∧ Below w.heap.size w w' := by
  have hB : Below w.heap.size w w := Below.refl _ _
  have NG := Lib.hid (fun w => newG_ok (of3 5 0 (-7)) 100 w aw_g1 (by decide) (by decide))
  rw [← of3_cells] at NG
  have NF := Lib.hid (fun w => fnew_ok (of4 1073741824 0 0 0) w (of4_I ⟨by omega, by omega⟩ ⟨by omega, by omega⟩ ⟨by omega, by omega⟩ ⟨by omega, by omega⟩) aw_v1)
  rw [← of4_cells] at NF
  have RD := Lib.hid (fun b w hg => gread_ok (gyS (of3 5 0 (-7)) 100) (of3 1 2 200) (of3 0 0 0) b w hg aw_gi (by decide +kernel) (by decide +kernel) (by decide +kernel) (by decide +kernel))
  rw [aw_rd, ← of3_cells 1 2 200, ← of3_cells 0 0 0] at RD
  have PR := Lib.hid (fun b w hg => fpred_ok (of4 1073741824 0 0 0) (fun _ => 0) (of3 0 0 4194304) b w hg aw_z1 (by decide +kernel) (of4_I ⟨by omega, by omega⟩ ⟨by omega, by omega⟩ ⟨by omega, by omega⟩ ⟨by omega, by omega⟩))
  rw [aw_pc, ← of3_cells 0 0 4194304] at PR
  have AT := Lib.hid (fun b w hg => fattitude_any (of4 1073739776 0 0 2097148) (fun _ => 0) b w hg aw_z2)
  go_enter Try.func37, Try.ntmps37
  go_upto_region 1 with (fail)
  have hW0 : w.heap.size ≤ w.heap.size := by have := hB.size; first | exact this | simpa using this
  apply wp_region_Q 7 [0, 1, 3, 7, 15, 31, 63] [1] [_, (fun p => (fun b => .tuple #[.pointer (some ⟨b, 0, none⟩), .int .i64 0]) (p 1)), _, _, _, _, _] (fun p L w' => w.heap.size ≤ w'.heap.size ∧ Below w.heap.size w w' ∧ (L 1 = true → w.heap.size ≤ p 1 ∧ blk w' (p 1) (qfn (gyS (of3 5 0 (-7)) 100)) 163)) _ [(0, 8), (1, 9), (2, 7), (3, 10), (4, 11), (5, 1), (6, 2)] [0, 1, 2, 3, 4, 5, 6]
  case hn => rfl
  case hB => kernel_rfl
  case hds => kernel_rfl
  case hA => (intro p; simp only [putsD, Act.put, List.setIfInBounds_toArray, List.set_cons_zero, List.set_cons_succ, List.getD_cons_zero, List.getD_cons_succ]; exact rfl)
  case h0 => exact fun p => ⟨Nat.le_refl _, hB, fun h => absurd h (by decide)⟩
  case hmore => exact fun p L w1 w2 ⟨hsz, hB, h_g⟩ hm => ⟨Nat.le_trans hsz hm.size, hB.trans (hm.mono (Nat.le_trans hW0 hsz)), fun hl => ⟨(h_g hl).1, (h_g hl).2.below hm (h_g hl).2.lt⟩⟩
  case hs =>
    intro more
    refine stepV 0 rfl rfl (fun _ _ _ h => h) ?_ ?_
    · intros; (try simp only [vfn, qfn]); go_simp; exact ⟨rfl, rfl⟩
    refine AllI.cons ?_ ?_
    · refine stepI_new 1 rfl (fun p => rfl) rfl (fun b => .tuple #[.pointer (some ⟨b, 0, none⟩), .int .i64 0]) (qfn (gyS (of3 5 0 (-7)) 100)) 163 (fun p => rfl) ?_ ?_
      · rintro p L w1 ⟨hsz, hB, h_g⟩ hk
        go_simp
        refine (NG.out _).mono ?_
        rintro e w2 ⟨b, rfl, hb, hle, hm⟩
        exact ⟨_, rfl, b, rfl, hb, hle, hm⟩
      rintro p L w1 w2 b ⟨hsz, hB, h_g⟩ hk hb hle hm
      refine ⟨Nat.le_trans hsz hm.size, hB.trans (hm.mono (Nat.le_trans hW0 hsz)), fun _ => ⟨Nat.le_trans hsz hle, ?_⟩⟩
      exact hb
    refine stepV 2 rfl rfl (fun _ _ _ h => h) ?_ ?_
    · intros; go_simp; exact ⟨rfl, rfl⟩
    refine stepV 3 rfl rfl (fun _ _ _ h => h) ?_ ?_
    · intros; go_simp; exact ⟨rfl, rfl⟩
    refine stepV 4 rfl rfl (fun _ _ _ h => h) ?_ ?_
    · intros; go_simp; exact ⟨rfl, rfl⟩
    refine stepV 5 rfl rfl (fun _ _ _ h => h) ?_ ?_
    · intros; go_simp; exact ⟨rfl, rfl⟩
    refine stepV 6 rfl rfl (fun _ _ _ h => h) ?_ ?_
    · intros; go_simp; exact ⟨rfl, rfl⟩
    exact AllI.nil
  case hV0 =>
    intro p q
    refine AllI.cons ?_ ?_
    · skip
      iterate 7 (refine AllI.cons (by first | exact .inl rfl | (refine .inr ?_; simp only [List.getD_cons_zero, List.getD_cons_succ]; done) | exact .inr rfl) ?_)
      exact AllI.nil
    exact AllI.nil
  case he =>
  clear hB 
  rintro p wr ⟨hsz, hB, h_g⟩
  obtain ⟨le_g, g⟩ := h_g rfl
  clear h_g
  replace g : blk wr (p 1) (qfn (gyS (of3 5 0 (-7)) 100)) 163 := g
  have ge_g : w.heap.size ≤ p 1 := Nat.le_trans hW0 le_g
  generalize p 1 = g_b at *
  clear hsz hW0
  go_upto_region 2 with (fail)
  have lt_g := g.lt
  have hW0 : w.heap.size ≤ wr.heap.size := by have := hB.size; first | exact this | simpa using this
  apply wp_region_Q 7 [0, 1, 3, 7, 15, 31, 63] [1] [_, (fun p => (fun b => .tuple #[.pointer (some ⟨b, 0, none⟩), .int .i64 0]) (p 1)), _, _, _, _, _] (fun p L w' => wr.heap.size ≤ w'.heap.size ∧ Below w.heap.size w w' ∧ blk w' g_b (qfn (gyS (of3 5 0 (-7)) 100)) 163 ∧ (L 1 = true → wr.heap.size ≤ p 1 ∧ blk w' (p 1) (fltc ((of4 1073741824 0 0 0), fun _ => 0)) 160)) _ [(0, 13), (1, 14), (2, 12), (3, 15), (4, 16), (5, 3), (6, 4)] [0, 1, 2, 3, 4, 5, 6]
  case hn => rfl
  case hB => kernel_rfl
  case hds => kernel_rfl
  case hA => (intro p; simp only [putsD, Act.put, List.setIfInBounds_toArray, List.set_cons_zero, List.set_cons_succ, List.getD_cons_zero, List.getD_cons_succ]; exact rfl)
  case h0 => exact fun p => ⟨Nat.le_refl _, hB, g, fun h => absurd h (by decide)⟩
  case hmore => exact fun p L w1 w2 ⟨hsz, hB, g, h_f⟩ hm => ⟨Nat.le_trans hsz hm.size, hB.trans (hm.mono (Nat.le_trans hW0 hsz)), g.below hm g.lt, fun hl => ⟨(h_f hl).1, (h_f hl).2.below hm (h_f hl).2.lt⟩⟩
  case hs =>
    intro more
    refine stepV 0 rfl rfl (fun _ _ _ h => h) ?_ ?_
    · intros; (try simp only [vfn, qfn]); go_simp; exact ⟨rfl, rfl⟩
    refine AllI.cons ?_ ?_
    · refine stepI_new 1 rfl (fun p => rfl) rfl (fun b => .tuple #[.pointer (some ⟨b, 0, none⟩), .int .i64 0]) (fltc ((of4 1073741824 0 0 0), fun _ => 0)) 160 (fun p => rfl) ?_ ?_
      · rintro p L w1 ⟨hsz, hB, g, h_f⟩ hk
        go_simp
        refine (NF.out _).mono ?_
        rintro e w2 ⟨b, rfl, hb, hle, hm⟩
        exact ⟨_, rfl, b, rfl, hb, hle, hm⟩
      rintro p L w1 w2 b ⟨hsz, hB, g, h_f⟩ hk hb hle hm
      refine ⟨Nat.le_trans hsz hm.size, hB.trans (hm.mono (Nat.le_trans hW0 hsz)), g.below hm g.lt, fun _ => ⟨Nat.le_trans hsz hle, ?_⟩⟩
      exact hb
    refine stepV 2 rfl rfl (fun _ _ _ h => h) ?_ ?_
    · intros; go_simp; exact ⟨rfl, rfl⟩
    refine stepV 3 rfl rfl (fun _ _ _ h => h) ?_ ?_
    · intros; go_simp; exact ⟨rfl, rfl⟩
    refine stepV 4 rfl rfl (fun _ _ _ h => h) ?_ ?_
    · intros; go_simp; exact ⟨rfl, rfl⟩
    refine stepV 5 rfl rfl (fun _ _ _ h => h) ?_ ?_
    · intros; go_simp; exact ⟨rfl, rfl⟩
    refine stepV 6 rfl rfl (fun _ _ _ h => h) ?_ ?_
    · intros; go_simp; exact ⟨rfl, rfl⟩
    exact AllI.nil
  case hV0 =>
    intro p q
    refine AllI.cons ?_ ?_
    · skip
      iterate 7 (refine AllI.cons (by first | exact .inl rfl | (refine .inr ?_; simp only [List.getD_cons_zero, List.getD_cons_succ]; done) | exact .inr rfl) ?_)
      exact AllI.nil
    exact AllI.nil
  case he =>
  clear hB g
  rintro p wrr ⟨hsz, hB, g, h_f⟩
  obtain ⟨le_f, f⟩ := h_f rfl
  clear h_f
  replace f : blk wrr (p 1) (fltc ((of4 1073741824 0 0 0), fun _ => 0)) 160 := f
  have ne_g_f : g_b ≠ p 1 := Nat.ne_of_lt (Nat.lt_of_lt_of_le lt_g le_f)
  have ge_f : w.heap.size ≤ p 1 := Nat.le_trans hW0 le_f
  generalize p 1 = f_b at *
  clear lt_g
  clear hsz hW0
  go_upto_region 5 with (fail)
  have lt_g := g.lt
  have lt_f := f.lt
  have hW0 : w.heap.size ≤ wrr.heap.size := by have := hB.size; first | exact this | simpa using this
  apply wp_region_Q 10 [0, 1, 3, 7, 15, 31, 63, 127, 255, 511] [7] [_, _, _, _, _, _, _, (fun p => .pointer (some ⟨p 7, 0, none⟩)), (fun _ => undef), _] (fun p L w' => wrr.heap.size ≤ w'.heap.size ∧ Below w.heap.size w w' ∧ blk w' g_b (qfn (gyS (of3 5 0 (-7)) 100)) 163 ∧ blk w' f_b (fltc ((of4 1073741824 0 0 0), fun _ => 0)) 160 ∧ (L 7 = true → wrr.heap.size ≤ p 7 ∧ blk w' (p 7) (bif L 8 then (vfn (of3 6 2 100)) else (vfn fun _ => 0)) 31)) _ [(0, 32), (1, 33), (2, 34), (3, 35), (4, 31), (5, 36), (6, 37), (7, 5), (9, 6)] [0, 1, 2, 3, 4, 5, 6, 7, 8, 9]
  case hn => rfl
  case hB => kernel_rfl
  case hds => kernel_rfl
  case hA => (intro p; simp only [putsD, Act.put, List.setIfInBounds_toArray, List.set_cons_zero, List.set_cons_succ, List.getD_cons_zero, List.getD_cons_succ]; exact rfl)
  case h0 => exact fun p => ⟨Nat.le_refl _, hB, g, f, fun h => absurd h (by decide)⟩
  case hmore => exact fun p L w1 w2 ⟨hsz, hB, g, f, h_r⟩ hm => ⟨Nat.le_trans hsz hm.size, hB.trans (hm.mono (Nat.le_trans hW0 hsz)), g.below hm g.lt, f.below hm f.lt, fun hl => ⟨(h_r hl).1, (h_r hl).2.below hm (h_r hl).2.lt⟩⟩
  case hs =>
    intro more
    refine stepV 0 rfl rfl (fun _ _ _ h => h) ?_ ?_
    · intros; go_simp; exact ⟨rfl, rfl⟩
    refine stepV 1 rfl rfl (fun _ _ _ h => h) ?_ ?_
    · intros; (try simp only [vfn, qfn]); go_simp; exact ⟨rfl, rfl⟩
    refine stepV 2 rfl rfl (fun _ _ _ h => h) ?_ ?_
    · intros; (try simp only [vfn, qfn]); go_simp; exact ⟨rfl, rfl⟩
    refine stepD 3 rfl (fun p => rfl) (fun _ _ _ h => h) more ?_ ?_
    · rintro p L w1 ⟨hsz, hB, g, f, h_r⟩ hk
      have L8 : L 8 = false := hk.2.2 8 rfl
      go_simp
      refine (RD.out _ _ g).mono ?_
      rintro e w2 ⟨rfl, h2⟩
      first | exact ⟨rfl, h2⟩ | (subst h2; exact ⟨rfl, Below.refl _ _⟩)
    refine stepV 4 rfl rfl (fun _ _ _ h => h) ?_ ?_
    · intros; go_simp; exact ⟨rfl, rfl⟩
    refine stepV 5 rfl rfl (fun _ _ _ h => h) ?_ ?_
    · intros; go_simp; exact ⟨rfl, rfl⟩
    refine stepV 6 rfl rfl (fun _ _ _ h => h) ?_ ?_
    · intros; go_simp; exact ⟨rfl, rfl⟩
    refine AllI.cons ?_ ?_
    · refine stepI_alloc 7 rfl (fun p => rfl) rfl (vfn fun _ => 0) 31 (fun p => rfl) ?_ ?_
      · intro p w1
        go_simp
        first | rfl | rw [zero_vec]
      rintro p L w1 ⟨hsz, hB, g, f, h_r⟩ hk
      have L8 : L 8 = false := hk.2.2 8 rfl
      refine ⟨Nat.le_trans hsz (by simp), hB.alloc (Nat.le_trans (by first | exact hW0 | (have := hB.size; simp at this ⊢; omega)) hsz) _, g.alloc _, f.alloc _, fun _ => ⟨hsz, ?_⟩⟩
      rw [show upL L 7 8 = false from L8]
      exact blk.new _ _ _
    refine AllI.cons ?_ ?_
    · refine stepI_store 8 rfl (fun p => rfl) (fun p => rfl) _ _ _ rfl (fun p => p 7) 0 (fun p => rfl) (fun p => (vfn (of3 6 2 100))) (fun p => rfl) (fun p => (vfn fun _ => 0)) (fun p => (vfn (of3 6 2 100))) 31 (fun p => over_v _ _) (fun p => by first | (rw [vfn_size, vfn_size]; decide) | simp [vfn_size, vfn_size]) (fun p => by rw [vfn_size]; kernel_rfl) (fun p => vfn_one _) ?_ ?_
      · rintro p L w1 ⟨hsz, hB, g, f, h_r⟩ hk
        have L8 : L 8 = false := hk.1
        have hh := (h_r (hk.2.1 7 rfl)).2
        rw [L8] at hh
        try simp only [cond_true, cond_false] at hh
        exact hh
      · rintro p L w1 ⟨hsz, hB, g, f, h_r⟩ hk
        have L8 : L 8 = false := hk.1
        skip
        have hp := h_r (hk.2.1 7 rfl)
        refine ⟨(by simpa using hsz), Below.setRow hB (by first | exact Nat.le_trans hW0 hp.1 | exact ge_r | omega | (have := hB.size; simp at this ⊢; omega)) _, g.rowOther (by first | exact Nat.ne_of_lt (Nat.lt_of_lt_of_le lt_g hp.1) | omega) _, f.rowOther (by first | exact Nat.ne_of_lt (Nat.lt_of_lt_of_le lt_f hp.1) | omega) _, fun _ => ⟨hp.1, ?_⟩⟩
        rw [show upL L 8 8 = true from rfl]
        exact hp.2.row _
    refine stepV 9 rfl rfl (fun _ _ _ h => h) ?_ ?_
    · intros; go_simp; exact ⟨rfl, rfl⟩
    exact AllI.nil
  case hV0 =>
    intro p q
    refine AllI.cons ?_ ?_
    · skip
      iterate 10 (refine AllI.cons (by first | exact .inl rfl | (refine .inr ?_; simp only [List.getD_cons_zero, List.getD_cons_succ]; done) | exact .inr rfl) ?_)
      exact AllI.nil
    exact AllI.nil
  case he =>
  clear hB g f
  rintro p wrrr ⟨hsz, hB, g, f, h_r⟩
  obtain ⟨le_r, r⟩ := h_r rfl
  clear h_r
  replace r : blk wrrr (p 7) (vfn (of3 6 2 100)) 31 := r
  have ne_g_r : g_b ≠ p 7 := Nat.ne_of_lt (Nat.lt_of_lt_of_le lt_g le_r)
  have ne_f_r : f_b ≠ p 7 := Nat.ne_of_lt (Nat.lt_of_lt_of_le lt_f le_r)
  have ge_r : w.heap.size ≤ p 7 := Nat.le_trans hW0 le_r
  generalize p 7 = r_b at *
  clear lt_g
  clear lt_f
  clear hsz hW0
  go_upto_region 6 with (fail)
  have E1 : ∀ w, (Op.equalIn 10000 31 (.agg (vfn (of3 6 2 100))) (.agg #[.int .i64 6, .int .i64 2, .int .i64 100])).run Try.prog w = .ok true w := fun w => by rw [of3_cells 6 2 100]; exact vec_eq_self _ w
  have E2 : ∀ w, (Op.equalIn 10000 23 (.agg (qfn (of4 1073739776 0 0 2097148))) (.agg #[.int .i64 1073739776, .int .i64 0, .int .i64 0, .int .i64 2097148])).run Try.prog w = .ok true w := fun w => by rw [of4_cells 1073739776 0 0 2097148]; exact quat_eq_self _ w
  have lt_g := g.lt
  have lt_f := f.lt
  have lt_r := r.lt
  have hW0 : w.heap.size ≤ wrrr.heap.size := by have := hB.size; first | exact this | simpa using this
  apply wp_region_Q 20 [0, 1, 3, 7, 15, 31, 63, 127, 255, 511, 1023, 2047, 4095, 8191, 16383, 32767, 65535, 131071, 262143, 524287] [] [_, _, _, _, _, _, _, _, _, _, _, _, _, _, _, _, _, _, _, _] (fun p L w' => wrrr.heap.size ≤ w'.heap.size ∧ Below w.heap.size w w' ∧ blk w' g_b (qfn (gyS (of3 5 0 (-7)) 100)) 163 ∧ blk w' f_b (bif L 10 then (fltc ((of4 1073739776 0 0 2097148), fun _ => 0)) else (fltc ((of4 1073741824 0 0 0), fun _ => 0))) 160 ∧ blk w' r_b (vfn (of3 6 2 100)) 31) _ [(0, 38), (1, 39), (2, 40), (3, 41), (4, 42), (5, 43), (6, 44), (7, 45), (8, 46), (9, 47), (10, 48), (11, 49), (12, 50), (13, 51), (14, 52), (15, 53), (16, 54), (17, 55), (18, 56), (19, 0)] [0, 1, 2, 3, 4, 5, 6, 7, 8, 9, 10, 11, 12, 13, 14, 15, 16, 17, 18, 19]
  case hn => rfl
  case hB => kernel_rfl
  case hds => kernel_rfl
  case hA => (intro p; simp only [putsD, Act.put, List.setIfInBounds_toArray, List.set_cons_zero, List.set_cons_succ, List.getD_cons_zero, List.getD_cons_succ]; exact rfl)
  case h0 => exact fun p => ⟨Nat.le_refl _, hB, g, f, r⟩
  case hmore => exact fun p L w1 w2 ⟨hsz, hB, g, f, r⟩ hm => ⟨Nat.le_trans hsz hm.size, hB.trans (hm.mono (Nat.le_trans hW0 hsz)), g.below hm g.lt, f.below hm f.lt, r.below hm r.lt⟩
  case hs =>
    intro more
    refine stepV 0 rfl rfl (fun _ _ _ h => h) ?_ ?_
    · rintro p L w1 ⟨hsz, hB, g, f, r⟩ hk
      have L10 : L 10 = false := hk.2.2 10 rfl
      first | exact valR_row _ _ rfl _ rfl _ _ r _ Try.underlying31 rfl (by first | kernel_rfl | (rw [vfn_size]; kernel_rfl)) rfl | (have hc := r.cellIs (vfn_get _ (show 0 < 3 by omega)); go_simp; exact ⟨rfl, rfl⟩)
    refine stepV 1 rfl rfl (fun _ _ _ h => h) ?_ ?_
    · intros; (try simp only [vfn, qfn]); go_simp; exact ⟨rfl, rfl⟩
    refine stepV 2 rfl rfl (fun _ _ _ h => h) ?_ ?_
    · intros; go_simp; exact ⟨rfl, rfl⟩
    refine stepV 3 rfl rfl (fun _ _ _ h => h) ?_ ?_
    · intros; go_simp; exact ⟨rfl, rfl⟩
    refine stepVg 4 rfl (fun p => (by first | rfl | (simp [Region.wanted, yielded]; done))) (fun _ _ _ h => h) ?_ ?_
    · intros; go_simp; exact ⟨rfl, rfl⟩
    refine stepVg 5 rfl (fun p => (by first | rfl | (simp [Region.wanted, yielded]; done))) (fun _ _ _ h => h) ?_ ?_
    · intros; go_simp; exact ⟨rfl, rfl⟩
    refine stepV 6 rfl rfl (fun _ _ _ h => h) ?_ ?_
    · intros; go_simp; exact ⟨rfl, rfl⟩
    refine stepV 7 rfl rfl (fun _ _ _ h => h) ?_ ?_
    · intros; go_simp; exact ⟨rfl, rfl⟩
    refine stepVg 8 rfl (fun p => (by first | rfl | (simp [Region.wanted, yielded]; done))) (fun _ _ _ h => h) ?_ ?_
    · intros; go_simp; exact ⟨rfl, rfl⟩
    refine stepVg 9 rfl (fun p => (by first | rfl | (simp [Region.wanted, yielded]; done))) (fun _ _ _ h => h) ?_ ?_
    · intros; (try simp only [vfn, qfn]); go_simp; exact ⟨rfl, rfl⟩
    refine AllI.cons ?_ ?_
    · refine stepI_mut 10 rfl (fun p => (by first | rfl | (simp [Region.wanted, yielded]; done))) (fun _ => f_b) (fun p => (fltc ((of4 1073739776 0 0 2097148), fun _ => 0))) ?_ ?_
      · rintro p L w1 ⟨hsz, hB, g, f, r⟩ hk
        have L10 : L 10 = false := hk.1
        rw [L10] at f
        try simp only [cond_true, cond_false] at f
        go_simp
        refine (PR.out _ _ f).mono ?_
        rintro e w2 ⟨rfl, h2⟩
        exact ⟨rfl, h2⟩
      · rintro p L w1 w2 ⟨hsz, hB, g, f, r⟩ hk hm
        have L10 : L 10 = false := hk.1
        refine ⟨Nat.le_trans hsz (by have := hm.size; simpa using this), (Below.setRow hB (by first | exact Nat.le_trans hW0 hp.1 | exact ge_f | omega | (have := hB.size; simp at this ⊢; omega)) _).trans (hm.mono (Nat.le_trans hW0 hsz)), (g.rowOther (by first | exact ne_g_f | exact Ne.symm ne_f_g | omega) _).below hm (by simpa using g.lt), ?_, (r.rowOther (by first | exact ne_r_f | exact Ne.symm ne_f_r | omega) _).below hm (by simpa using r.lt)⟩
        rw [show upL L 10 10 = true from rfl]
        exact (f.row _).below hm (by simpa using f.lt)
    refine stepVg 11 rfl (fun p => (by first | rfl | (simp [Region.wanted, yielded]; done))) (fun _ _ _ h => h) ?_ ?_
    · intros; go_simp; exact ⟨rfl, rfl⟩
    refine stepV 12 rfl rfl (fun _ _ _ h => h) ?_ ?_
    · intros; go_simp; exact ⟨rfl, rfl⟩
    refine stepV 13 rfl rfl (fun _ _ _ h => h) ?_ ?_
    · intros; go_simp; exact ⟨rfl, rfl⟩
    refine stepVg 14 rfl (fun p => (by first | rfl | (simp [Region.wanted, yielded]; done))) (fun _ _ _ h => h) ?_ ?_
    · intros; go_simp; exact ⟨rfl, rfl⟩
    refine stepD 15 rfl (fun p => (by first | rfl | (simp [Region.wanted, yielded]; done))) (fun _ _ _ h => h) more ?_ ?_
    · rintro p L w1 ⟨hsz, hB, g, f, r⟩ hk
      have L10 : L 10 = true := hk.2.1 10 rfl
      rw [L10] at f
      try simp only [cond_true, cond_false] at f
      go_simp
      refine (AT.out _ _ f).mono ?_
      rintro e w2 ⟨rfl, h2⟩
      first | exact ⟨rfl, h2⟩ | (subst h2; exact ⟨rfl, Below.refl _ _⟩)
    refine stepVg 16 rfl (fun p => (by first | rfl | (simp [Region.wanted, yielded]; done))) (fun _ _ _ h => h) ?_ ?_
    · intros; (try simp only [vfn, qfn]); go_simp; exact ⟨rfl, rfl⟩
    refine stepVg 17 rfl (fun p => (by first | rfl | (simp [Region.wanted, yielded]; done))) (fun _ _ _ h => h) ?_ ?_
    · intros; go_simp; exact ⟨rfl, rfl⟩
    refine stepV 18 rfl rfl (fun _ _ _ h => h) ?_ ?_
    · intros; go_simp; exact ⟨rfl, rfl⟩
    refine stepV 19 rfl rfl (fun _ _ _ h => h) ?_ ?_
    · intros; go_simp; exact ⟨rfl, rfl⟩
    exact AllI.nil
  case hV0 => exact fun p q => AllI.nil
  case he =>
  clear hB g f r
  rintro p wrrrr ⟨hsz, hB, g, f, r⟩
  replace f : blk wrrrr f_b (fltc ((of4 1073739776 0 0 2097148), fun _ => 0)) 160 := f
  clear lt_g
  clear lt_f
  clear lt_r
  clear hsz hW0
  go_wp2_with (fail)
  go_ret
  exact ⟨rfl, hB⟩
end Go.Proofs.Ytkmelddejdikgaa
