/-
  The examples of chapter 21.
-/
import Derived.Test.YtnkjbdfhdenbcaaFilP
import Derived.Test.YtnkjbdfhdenbcaaAw21
set_option linter.unusedSimpArgs false
set_option linter.unusedVariables false
namespace Go.Proofs.Ytnkjbdfhdenbcaa
open Go.RowKit PM Dt
def kq : Nat → Int := corQ (of4 1073739776 0 0 2097148) (of4 1073741824 0 0 0)
theorem k_f0 : FI (of4 1073741824 0 0 0) (fun _ => 0) := FI.new (of4_I ⟨by omega, by omega⟩ ⟨by omega, by omega⟩ ⟨by omega, by omega⟩ ⟨by omega, by omega⟩) aw_v1
theorem k_f1 : FI (of4 1073739776 0 0 2097148) (fun _ => 0) := FI.new (of4_I ⟨by omega, by omega⟩ ⟨by omega, by omega⟩ ⟨by omega, by omega⟩ ⟨by omega, by omega⟩) (by decide +kernel)
theorem k_b1 : corB (of4 1073739776 0 0 2097148) (fun _ => 0) (of4 1073741824 0 0 0) = fun _ => 0 := by
  unfold corB
  rw [if_neg (by decide +kernel)]
theorem k_e1 : betE (of4 1073739776 0 0 2097148) (of4 1073741824 0 0 0) = 0 := by decide +kernel
theorem k_f2 : FI kq (fun _ => 0) := by
  have := k_f1.cor (q := of4 1073741824 0 0 0) k_f0.i
  rw [k_b1] at this
  exact this
theorem k_q1 : kq 1 = 0 := by decide +kernel
theorem k_q2 : kq 2 = 0 := by decide +kernel
theorem k_q3 : decide ((1572000 : Int) < kq 3) = true ∧ decide (kq 3 < 1574000) = true := by decide +kernel
theorem k_p3 : predE (of3 268435457 0 0) = 2 ∧ predQ kq (fun _ => 0) (of3 268435457 0 0) = kq := by
  have h : smallB (of3 268435457 0 0) 268435456 = false := by decide +kernel
  unfold predE predQ
  rw [h]
  exact ⟨if_neg (by decide), if_neg (by decide)⟩
theorem k_c3 : betE kq (of4 5 0 0 0) = 2 ∧ corQ kq (of4 5 0 0 0) = kq ∧ corB kq (fun _ => 0) (of4 5 0 0 0) = fun _ => 0 := by
  have hv : validQ (of4 5 0 0 0) = false := by decide +kernel
  have h : betE kq (of4 5 0 0 0) = 2 := by unfold betE; rw [hv, Bool.and_false]; rfl
  unfold corQ corB
  rw [h]
  exact ⟨rfl, if_neg (by decide), if_neg (fun h => absurd h.1 (by decide))⟩
theorem k_g : qfn (drF (gyS (of3 5 0 (-7)) 100) (of3 1 0 0)) = qfn (gyS (of3 6 0 (-7)) 100) := qfn_congr (by decide +kernel)
set_option maxRecDepth 100000 in
set_option maxHeartbeats 20000000 in
theorem gknown_any  (w : World) : Calls Try.prog 11 #[] w fun e w' => e = .returned (.bool true) ∧ Below w.heap.size w w' := by
  have hB : Below w.heap.size w w := Below.refl _ _
  have NG := Lib.hid (fun w => newG_ok (of3 5 0 (-7)) 100 w aw_g1 (by decide) (by decide))
  rw [← of3_cells] at NG
  have N1 := Lib.hid (fun w => newG_no1 (of3 16777217 0 0) 5 w (by decide +kernel))
  rw [← of3_cells] at N1
  have N2 := Lib.hid (fun w => newG_no2 (of3 0 0 0) 0 w (by decide +kernel) (by decide))
  rw [← of3_cells] at N2
  have NF := Lib.hid (fun w => fnew_ok (of4 1073741824 0 0 0) w k_f0.i aw_v1)
  rw [← of4_cells] at NF
  have N3 := Lib.hid (fun w => fnew_no (of4 0 0 0 0) w (of4_I ⟨by omega, by omega⟩ ⟨by omega, by omega⟩ ⟨by omega, by omega⟩ ⟨by omega, by omega⟩) (by decide +kernel))
  rw [← of4_cells] at N3
  have DR := Lib.hid (fun b w hg => gdrift_ok (gyS (of3 5 0 (-7)) 100) (of3 1 0 0) b w hg aw_gi (by decide +kernel))
  rw [k_g, ← of3_cells 1 0 0] at DR
  have BG := Lib.hid (fun b w hg => gbias_any (gyS (of3 6 0 (-7)) 100) b w hg (by decide))
  rw [show vfn (gyS (of3 6 0 (-7)) 100) = vfn (of3 6 0 (-7)) from vfn_congr (by decide +kernel)] at BG
  have PR := Lib.hid (fun b w hg => fpred_ok (of4 1073741824 0 0 0) (fun _ => 0) (of3 0 0 4194304) b w hg aw_z1 (by decide +kernel) k_f0.i)
  rw [aw_pc, ← of3_cells 0 0 4194304] at PR
  have CO := Lib.hid (fun b w hg => cor_any (of4 1073739776 0 0 2097148) (fun _ => 0) (of4 1073741824 0 0 0) b w hg k_f1 k_f0.i)
  rw [k_e1, k_b1, show corQ (of4 1073739776 0 0 2097148) (of4 1073741824 0 0 0) = kq from rfl, ← of4_cells 1073741824 0 0 0] at CO
  have AT := Lib.hid (fun b w hg => fattitude_any kq (fun _ => 0) b w hg k_f2.nz)
  have BI := Lib.hid (fun b w hg => fbias_any kq (fun _ => 0) b w hg k_f2.nz)
  have P3 := Lib.hid (fun b w hg => pred_any kq (fun _ => 0) (of3 268435457 0 0) b w hg k_f2)
  rw [k_p3.1, k_p3.2, ← of3_cells] at P3
  have C3 := Lib.hid (fun b w hg => cor_any kq (fun _ => 0) (of4 5 0 0 0) b w hg k_f2 (of4_I ⟨by omega, by omega⟩ ⟨by omega, by omega⟩ ⟨by omega, by omega⟩ ⟨by omega, by omega⟩))
  rw [k_c3.1, k_c3.2.1, k_c3.2.2, ← of4_cells] at C3
  have AW := Lib.hid (fun w => awake21_any w)
  go_enter Try.func11, Try.ntmps11
  go_upto_region 1 with (fail)
  have hW0 : w.heap.size ≤ w.heap.size := by have := hB.size; first | exact this | simpa using this
  apply wp_region_Q 7 [0, 1, 3, 7, 15, 31, 63] [1] [_, (fun p => (fun b => .tuple #[.pointer (some ⟨b, 0, none⟩), .int .i64 0]) (p 1)), _, _, _, _, _] (fun p L w' => w.heap.size ≤ w'.heap.size ∧ Below w.heap.size w w' ∧ (L 1 = true → w.heap.size ≤ p 1 ∧ blk w' (p 1) (qfn (gyS (of3 5 0 (-7)) 100)) 88)) _ [(0, 13), (1, 14), (2, 12), (3, 15), (4, 16), (5, 1), (6, 2)] [0, 1, 2, 3, 4, 5, 6]
  case hn => rfl
  case hB => kernel_rfl
  case hds => kernel_rfl
  case hA => (intro p; simp only [putsD, Act.put, List.setIfInBounds_toArray, List.set_cons_zero, List.set_cons_succ, List.getD_cons_zero, List.getD_cons_succ]; exact rfl)
  case h0 => exact fun p => ⟨Nat.le_refl _, hB, fun h => absurd h (by decide)⟩
  case hmore => exact fun p L w1 w2 ⟨hsz, hB, h_g⟩ hm => ⟨Nat.le_trans hsz hm.size, hB.trans (hm.mono (Nat.le_trans hW0 hsz)), fun hl => ⟨(h_g hl).1, (h_g hl).2.below hm (h_g hl).2.lt⟩⟩
  case hs =>
    intro more
    refine stepV 0 rfl rfl (fun _ _ _ h => h) ?_ ?_
    · intros; (try simp only [vfn, qfn]); go_simp; exact ⟨rfl, rfl⟩
    refine AllI.cons ?_ ?_
    · refine stepI_new 1 rfl (fun p => rfl) rfl (fun b => .tuple #[.pointer (some ⟨b, 0, none⟩), .int .i64 0]) (qfn (gyS (of3 5 0 (-7)) 100)) 88 (fun p => rfl) ?_ ?_
      · rintro p L w1 ⟨hsz, hB, h_g⟩ hk
        go_simp
        refine (NG.out _).mono ?_
        rintro e w2 ⟨b, rfl, hb, hle, hm⟩
        exact ⟨_, rfl, b, rfl, hb, hle, hm⟩
      rintro p L w1 w2 b ⟨hsz, hB, h_g⟩ hk hb hle hm
      refine ⟨Nat.le_trans hsz hm.size, hB.trans (hm.mono (Nat.le_trans hW0 hsz)), fun _ => ⟨Nat.le_trans hsz hle, ?_⟩⟩
      exact hb
    refine stepV 2 rfl rfl (fun _ _ _ h => h) ?_ ?_
    · intros; go_simp; exact ⟨rfl, rfl⟩
    refine stepV 3 rfl rfl (fun _ _ _ h => h) ?_ ?_
    · intros; go_simp; exact ⟨rfl, rfl⟩
    refine stepV 4 rfl rfl (fun _ _ _ h => h) ?_ ?_
    · intros; go_simp; exact ⟨rfl, rfl⟩
    refine stepV 5 rfl rfl (fun _ _ _ h => h) ?_ ?_
    · intros; go_simp; exact ⟨rfl, rfl⟩
    refine stepV 6 rfl rfl (fun _ _ _ h => h) ?_ ?_
    · intros; go_simp; exact ⟨rfl, rfl⟩
    exact AllI.nil
  case hV0 =>
    intro p q
    refine AllI.cons ?_ ?_
    · skip
      iterate 7 (refine AllI.cons (by first | exact .inl rfl | (refine .inr ?_; simp only [List.getD_cons_zero, List.getD_cons_succ]; done) | exact .inr rfl) ?_)
      exact AllI.nil
    exact AllI.nil
  case he =>
  clear hB 
  rintro p wr ⟨hsz, hB, h_g⟩
  obtain ⟨le_g, g⟩ := h_g rfl
  clear h_g
  replace g : blk wr (p 1) (qfn (gyS (of3 5 0 (-7)) 100)) 88 := g
  have ge_g : w.heap.size ≤ p 1 := Nat.le_trans hW0 le_g
  generalize p 1 = g_b at *
  clear hsz hW0
  go_upto_region 2 with (fail)
  have lt_g := g.lt
  have hW0 : w.heap.size ≤ wr.heap.size := by have := hB.size; first | exact this | simpa using this
  apply wp_region_Q 7 [0, 1, 3, 7, 15, 31, 63] [] [_, _, _, _, _, _, _] (fun p L w' => wr.heap.size ≤ w'.heap.size ∧ Below w.heap.size w w' ∧ blk w' g_b (qfn (gyS (of3 5 0 (-7)) 100)) 88) _ [(0, 18), (1, 19), (2, 17), (3, 20), (4, 21), (5, 3), (6, 4)] [0, 1, 2, 3, 4, 5, 6]
  case hn => rfl
  case hB => kernel_rfl
  case hds => kernel_rfl
  case hA => (intro p; simp only [putsD, Act.put, List.setIfInBounds_toArray, List.set_cons_zero, List.set_cons_succ, List.getD_cons_zero, List.getD_cons_succ]; exact rfl)
  case h0 => exact fun p => ⟨Nat.le_refl _, hB, g⟩
  case hmore => exact fun p L w1 w2 ⟨hsz, hB, g⟩ hm => ⟨Nat.le_trans hsz hm.size, hB.trans (hm.mono (Nat.le_trans hW0 hsz)), g.below hm g.lt⟩
  case hs =>
    intro more
    refine stepV 0 rfl rfl (fun _ _ _ h => h) ?_ ?_
    · intros; (try simp only [vfn, qfn]); go_simp; exact ⟨rfl, rfl⟩
    refine stepD 1 rfl (fun p => rfl) (fun _ _ _ h => h) more ?_ ?_
    · rintro p L w1 ⟨hsz, hB, g⟩ hk
      go_simp
      refine (N1.out _).mono ?_
      rintro e w2 ⟨rfl, h2⟩
      first | exact ⟨rfl, h2⟩ | (subst h2; exact ⟨rfl, Below.refl _ _⟩)
    refine stepV 2 rfl rfl (fun _ _ _ h => h) ?_ ?_
    · intros; go_simp; exact ⟨rfl, rfl⟩
    refine stepV 3 rfl rfl (fun _ _ _ h => h) ?_ ?_
    · intros; go_simp; exact ⟨rfl, rfl⟩
    refine stepV 4 rfl rfl (fun _ _ _ h => h) ?_ ?_
    · intros; go_simp; exact ⟨rfl, rfl⟩
    refine stepV 5 rfl rfl (fun _ _ _ h => h) ?_ ?_
    · intros; go_simp; exact ⟨rfl, rfl⟩
    refine stepV 6 rfl rfl (fun _ _ _ h => h) ?_ ?_
    · intros; go_simp; exact ⟨rfl, rfl⟩
    exact AllI.nil
  case hV0 => exact fun p q => AllI.nil
  case he =>
  clear hB g
  rintro p wrr ⟨hsz, hB, g⟩
  clear lt_g
  clear hsz hW0
  go_upto_region 3 with (fail)
  have lt_g := g.lt
  have hW0 : w.heap.size ≤ wrr.heap.size := by have := hB.size; first | exact this | simpa using this
  apply wp_region_Q 7 [0, 1, 3, 7, 15, 31, 63] [] [_, _, _, _, _, _, _] (fun p L w' => wrr.heap.size ≤ w'.heap.size ∧ Below w.heap.size w w' ∧ blk w' g_b (qfn (gyS (of3 5 0 (-7)) 100)) 88) _ [(0, 23), (1, 24), (2, 22), (3, 25), (4, 26), (5, 5), (6, 6)] [0, 1, 2, 3, 4, 5, 6]
  case hn => rfl
  case hB => kernel_rfl
  case hds => kernel_rfl
  case hA => (intro p; simp only [putsD, Act.put, List.setIfInBounds_toArray, List.set_cons_zero, List.set_cons_succ, List.getD_cons_zero, List.getD_cons_succ]; exact rfl)
  case h0 => exact fun p => ⟨Nat.le_refl _, hB, g⟩
  case hmore => exact fun p L w1 w2 ⟨hsz, hB, g⟩ hm => ⟨Nat.le_trans hsz hm.size, hB.trans (hm.mono (Nat.le_trans hW0 hsz)), g.below hm g.lt⟩
  case hs =>
    intro more
    refine stepV 0 rfl rfl (fun _ _ _ h => h) ?_ ?_
    · intros; (try simp only [vfn, qfn]); go_simp; exact ⟨rfl, rfl⟩
    refine stepD 1 rfl (fun p => rfl) (fun _ _ _ h => h) more ?_ ?_
    · rintro p L w1 ⟨hsz, hB, g⟩ hk
      go_simp
      refine (N2.out _).mono ?_
      rintro e w2 ⟨rfl, h2⟩
      first | exact ⟨rfl, h2⟩ | (subst h2; exact ⟨rfl, Below.refl _ _⟩)
    refine stepV 2 rfl rfl (fun _ _ _ h => h) ?_ ?_
    · intros; go_simp; exact ⟨rfl, rfl⟩
    refine stepV 3 rfl rfl (fun _ _ _ h => h) ?_ ?_
    · intros; go_simp; exact ⟨rfl, rfl⟩
    refine stepV 4 rfl rfl (fun _ _ _ h => h) ?_ ?_
    · intros; go_simp; exact ⟨rfl, rfl⟩
    refine stepV 5 rfl rfl (fun _ _ _ h => h) ?_ ?_
    · intros; go_simp; exact ⟨rfl, rfl⟩
    refine stepV 6 rfl rfl (fun _ _ _ h => h) ?_ ?_
    · intros; go_simp; exact ⟨rfl, rfl⟩
    exact AllI.nil
  case hV0 => exact fun p q => AllI.nil
  case he =>
  clear hB g
  rintro p wrrr ⟨hsz, hB, g⟩
  clear lt_g
  clear hsz hW0
  go_upto_region 4 with (fail)
  have lt_g := g.lt
  have hW0 : w.heap.size ≤ wrrr.heap.size := by have := hB.size; first | exact this | simpa using this
  apply wp_region_Q 7 [0, 1, 3, 7, 15, 31, 63] [1] [_, (fun p => (fun b => .tuple #[.pointer (some ⟨b, 0, none⟩), .int .i64 0]) (p 1)), _, _, _, _, _] (fun p L w' => wrrr.heap.size ≤ w'.heap.size ∧ Below w.heap.size w w' ∧ blk w' g_b (qfn (gyS (of3 5 0 (-7)) 100)) 88 ∧ (L 1 = true → wrrr.heap.size ≤ p 1 ∧ blk w' (p 1) (fltc ((of4 1073741824 0 0 0), fun _ => 0)) 91)) _ [(0, 28), (1, 29), (2, 27), (3, 30), (4, 31), (5, 7), (6, 8)] [0, 1, 2, 3, 4, 5, 6]
  case hn => rfl
  case hB => kernel_rfl
  case hds => kernel_rfl
  case hA => (intro p; simp only [putsD, Act.put, List.setIfInBounds_toArray, List.set_cons_zero, List.set_cons_succ, List.getD_cons_zero, List.getD_cons_succ]; exact rfl)
  case h0 => exact fun p => ⟨Nat.le_refl _, hB, g, fun h => absurd h (by decide)⟩
  case hmore => exact fun p L w1 w2 ⟨hsz, hB, g, h_f⟩ hm => ⟨Nat.le_trans hsz hm.size, hB.trans (hm.mono (Nat.le_trans hW0 hsz)), g.below hm g.lt, fun hl => ⟨(h_f hl).1, (h_f hl).2.below hm (h_f hl).2.lt⟩⟩
  case hs =>
    intro more
    refine stepV 0 rfl rfl (fun _ _ _ h => h) ?_ ?_
    · intros; (try simp only [vfn, qfn]); go_simp; exact ⟨rfl, rfl⟩
    refine AllI.cons ?_ ?_
    · refine stepI_new 1 rfl (fun p => rfl) rfl (fun b => .tuple #[.pointer (some ⟨b, 0, none⟩), .int .i64 0]) (fltc ((of4 1073741824 0 0 0), fun _ => 0)) 91 (fun p => rfl) ?_ ?_
      · rintro p L w1 ⟨hsz, hB, g, h_f⟩ hk
        go_simp
        refine (NF.out _).mono ?_
        rintro e w2 ⟨b, rfl, hb, hle, hm⟩
        exact ⟨_, rfl, b, rfl, hb, hle, hm⟩
      rintro p L w1 w2 b ⟨hsz, hB, g, h_f⟩ hk hb hle hm
      refine ⟨Nat.le_trans hsz hm.size, hB.trans (hm.mono (Nat.le_trans hW0 hsz)), g.below hm g.lt, fun _ => ⟨Nat.le_trans hsz hle, ?_⟩⟩
      exact hb
    refine stepV 2 rfl rfl (fun _ _ _ h => h) ?_ ?_
    · intros; go_simp; exact ⟨rfl, rfl⟩
    refine stepV 3 rfl rfl (fun _ _ _ h => h) ?_ ?_
    · intros; go_simp; exact ⟨rfl, rfl⟩
    refine stepV 4 rfl rfl (fun _ _ _ h => h) ?_ ?_
    · intros; go_simp; exact ⟨rfl, rfl⟩
    refine stepV 5 rfl rfl (fun _ _ _ h => h) ?_ ?_
    · intros; go_simp; exact ⟨rfl, rfl⟩
    refine stepV 6 rfl rfl (fun _ _ _ h => h) ?_ ?_
    · intros; go_simp; exact ⟨rfl, rfl⟩
    exact AllI.nil
  case hV0 =>
    intro p q
    refine AllI.cons ?_ ?_
    · skip
      iterate 7 (refine AllI.cons (by first | exact .inl rfl | (refine .inr ?_; simp only [List.getD_cons_zero, List.getD_cons_succ]; done) | exact .inr rfl) ?_)
      exact AllI.nil
    exact AllI.nil
  case he =>
  clear hB g
  rintro p wrrrr ⟨hsz, hB, g, h_f⟩
  obtain ⟨le_f, f⟩ := h_f rfl
  clear h_f
  replace f : blk wrrrr (p 1) (fltc ((of4 1073741824 0 0 0), fun _ => 0)) 91 := f
  have ne_g_f : g_b ≠ p 1 := Nat.ne_of_lt (Nat.lt_of_lt_of_le lt_g le_f)
  have ge_f : w.heap.size ≤ p 1 := Nat.le_trans hW0 le_f
  generalize p 1 = f_b at *
  clear lt_g
  clear hsz hW0
  go_upto_region 5 with (fail)
  have lt_g := g.lt
  have lt_f := f.lt
  have hW0 : w.heap.size ≤ wrrrr.heap.size := by have := hB.size; first | exact this | simpa using this
  apply wp_region_Q 7 [0, 1, 3, 7, 15, 31, 63] [] [_, _, _, _, _, _, _] (fun p L w' => wrrrr.heap.size ≤ w'.heap.size ∧ Below w.heap.size w w' ∧ blk w' g_b (qfn (gyS (of3 5 0 (-7)) 100)) 88 ∧ blk w' f_b (fltc ((of4 1073741824 0 0 0), fun _ => 0)) 91) _ [(0, 33), (1, 34), (2, 32), (3, 35), (4, 36), (5, 9), (6, 10)] [0, 1, 2, 3, 4, 5, 6]
  case hn => rfl
  case hB => kernel_rfl
  case hds => kernel_rfl
  case hA => (intro p; simp only [putsD, Act.put, List.setIfInBounds_toArray, List.set_cons_zero, List.set_cons_succ, List.getD_cons_zero, List.getD_cons_succ]; exact rfl)
  case h0 => exact fun p => ⟨Nat.le_refl _, hB, g, f⟩
  case hmore => exact fun p L w1 w2 ⟨hsz, hB, g, f⟩ hm => ⟨Nat.le_trans hsz hm.size, hB.trans (hm.mono (Nat.le_trans hW0 hsz)), g.below hm g.lt, f.below hm f.lt⟩
  case hs =>
    intro more
    refine stepV 0 rfl rfl (fun _ _ _ h => h) ?_ ?_
    · intros; (try simp only [vfn, qfn]); go_simp; exact ⟨rfl, rfl⟩
    refine stepD 1 rfl (fun p => rfl) (fun _ _ _ h => h) more ?_ ?_
    · rintro p L w1 ⟨hsz, hB, g, f⟩ hk
      go_simp
      refine (N3.out _).mono ?_
      rintro e w2 ⟨rfl, h2⟩
      first | exact ⟨rfl, h2⟩ | (subst h2; exact ⟨rfl, Below.refl _ _⟩)
    refine stepV 2 rfl rfl (fun _ _ _ h => h) ?_ ?_
    · intros; go_simp; exact ⟨rfl, rfl⟩
    refine stepV 3 rfl rfl (fun _ _ _ h => h) ?_ ?_
    · intros; go_simp; exact ⟨rfl, rfl⟩
    refine stepV 4 rfl rfl (fun _ _ _ h => h) ?_ ?_
    · intros; go_simp; exact ⟨rfl, rfl⟩
    refine stepV 5 rfl rfl (fun _ _ _ h => h) ?_ ?_
    · intros; go_simp; exact ⟨rfl, rfl⟩
    refine stepV 6 rfl rfl (fun _ _ _ h => h) ?_ ?_
    · intros; go_simp; exact ⟨rfl, rfl⟩
    exact AllI.nil
  case hV0 => exact fun p q => AllI.nil
  case he =>
  clear hB g f
  rintro p wrrrrr ⟨hsz, hB, g, f⟩
  clear lt_g
  clear lt_f
  clear hsz hW0
  go_upto_region 6 with (fail)
  have E1 : ∀ w, (Op.equalIn 10000 39 (.agg (vfn (of3 6 0 (-7)))) (.agg #[.int .i64 6, .int .i64 0, .int .i64 (-7)])).run Try.prog w = .ok true w := fun w => by rw [of3_cells 6 0 (-7)]; exact vec_eq_self _ w
  have lt_g := g.lt
  have lt_f := f.lt
  have hW0 : w.heap.size ≤ wrrrrr.heap.size := by have := hB.size; first | exact this | simpa using this
  apply wp_region_Q 30 [0, 1, 3, 7, 15, 31, 63, 127, 255, 511, 1023, 2047, 4095, 8191, 16383, 32767, 65535, 131071, 262143, 524287, 1048575, 2097151, 4194303, 8388607, 16777215, 33554431, 67108863, 134217727, 268435455, 536870911] [] [_, _, _, _, _, _, _, _, _, _, _, _, _, _, _, _, _, _, _, _, _, _, _, _, _, _, _, _, _, _] (fun p L w' => wrrrrr.heap.size ≤ w'.heap.size ∧ Below w.heap.size w w' ∧ blk w' g_b (bif L 9 then (qfn (gyS (of3 6 0 (-7)) 100)) else (qfn (gyS (of3 5 0 (-7)) 100))) 88 ∧ blk w' f_b (bif L 27 then (fltc (kq, fun _ => 0)) else (bif L 21 then (fltc ((of4 1073739776 0 0 2097148), fun _ => 0)) else (fltc ((of4 1073741824 0 0 0), fun _ => 0)))) 91) _ [(0, 37), (1, 38), (2, 39), (3, 40), (4, 41), (5, 42), (6, 43), (7, 44), (8, 45), (9, 46), (10, 47), (11, 48), (12, 49), (13, 50), (14, 51), (15, 52), (16, 53), (17, 54), (18, 55), (19, 56), (20, 57), (21, 58), (22, 59), (23, 60), (24, 61), (25, 62), (26, 63), (27, 64), (28, 65), (29, 66)] [0, 1, 2, 3, 4, 5, 6, 7, 8, 9, 10, 11, 12, 13, 14, 15, 16, 17, 18, 19, 20, 21, 22, 23, 24, 25, 26, 27, 28, 29]
  case hn => rfl
  case hB => kernel_rfl
  case hds => kernel_rfl
  case hA => (intro p; simp only [putsD, Act.put, List.setIfInBounds_toArray, List.set_cons_zero, List.set_cons_succ, List.getD_cons_zero, List.getD_cons_succ]; exact rfl)
  case h0 => exact fun p => ⟨Nat.le_refl _, hB, g, f⟩
  case hmore => exact fun p L w1 w2 ⟨hsz, hB, g, f⟩ hm => ⟨Nat.le_trans hsz hm.size, hB.trans (hm.mono (Nat.le_trans hW0 hsz)), g.below hm g.lt, f.below hm f.lt⟩
  case hs =>
    intro more
    refine stepV 0 rfl rfl (fun _ _ _ h => h) ?_ ?_
    · intros; go_simp; exact ⟨rfl, rfl⟩
    refine stepV 1 rfl rfl (fun _ _ _ h => h) ?_ ?_
    · intros; go_simp; exact ⟨rfl, rfl⟩
    refine stepV 2 rfl rfl (fun _ _ _ h => h) ?_ ?_
    · intros; go_simp; exact ⟨rfl, rfl⟩
    refine stepVg 3 rfl (fun p => (by first | rfl | (simp [Region.wanted, yielded]; done))) (fun _ _ _ h => h) ?_ ?_
    · intros; go_simp; exact ⟨rfl, rfl⟩
    refine stepVg 4 rfl (fun p => (by first | rfl | (simp [Region.wanted, yielded]; done))) (fun _ _ _ h => h) ?_ ?_
    · intros; go_simp; exact ⟨rfl, rfl⟩
    refine stepV 5 rfl rfl (fun _ _ _ h => h) ?_ ?_
    · intros; go_simp; exact ⟨rfl, rfl⟩
    refine stepV 6 rfl rfl (fun _ _ _ h => h) ?_ ?_
    · intros; go_simp; exact ⟨rfl, rfl⟩
    refine stepVg 7 rfl (fun p => (by first | rfl | (simp [Region.wanted, yielded]; done))) (fun _ _ _ h => h) ?_ ?_
    · intros; go_simp; exact ⟨rfl, rfl⟩
    refine stepVg 8 rfl (fun p => (by first | rfl | (simp [Region.wanted, yielded]; done))) (fun _ _ _ h => h) ?_ ?_
    · intros; (try simp only [vfn, qfn]); go_simp; exact ⟨rfl, rfl⟩
    refine AllI.cons ?_ ?_
    · refine stepI_mut 9 rfl (fun p => (by first | rfl | (simp [Region.wanted, yielded]; done))) (fun _ => g_b) (fun p => (qfn (gyS (of3 6 0 (-7)) 100))) ?_ ?_
      · rintro p L w1 ⟨hsz, hB, g, f⟩ hk
        have L9 : L 9 = false := hk.1
        have L21 : L 21 = false := hk.2.2 21 rfl
        have L27 : L 27 = false := hk.2.2 27 rfl
        rw [L9] at g
        try simp only [cond_true, cond_false] at g
        go_simp
        refine (DR.out _ _ g).mono ?_
        rintro e w2 ⟨rfl, h2⟩
        exact ⟨rfl, h2⟩
      · rintro p L w1 w2 ⟨hsz, hB, g, f⟩ hk hm
        have L9 : L 9 = false := hk.1
        have L21 : L 21 = false := hk.2.2 21 rfl
        have L27 : L 27 = false := hk.2.2 27 rfl
        refine ⟨Nat.le_trans hsz (by have := hm.size; simpa using this), (Below.setRow hB (by first | exact Nat.le_trans hW0 hp.1 | exact ge_g | omega | (have := hB.size; simp at this ⊢; omega)) _).trans (hm.mono (Nat.le_trans hW0 hsz)), ?_, (f.rowOther (by first | exact ne_f_g | exact Ne.symm ne_g_f | omega) _).below hm (by simpa using f.lt)⟩
        rw [show upL L 9 9 = true from rfl]
        exact (g.row _).below hm (by simpa using g.lt)
    refine stepVg 10 rfl (fun p => (by first | rfl | (simp [Region.wanted, yielded]; done))) (fun _ _ _ h => h) ?_ ?_
    · intros; go_simp; exact ⟨rfl, rfl⟩
    refine stepV 11 rfl rfl (fun _ _ _ h => h) ?_ ?_
    · intros; go_simp; exact ⟨rfl, rfl⟩
    refine stepV 12 rfl rfl (fun _ _ _ h => h) ?_ ?_
    · intros; go_simp; exact ⟨rfl, rfl⟩
    refine stepVg 13 rfl (fun p => (by first | rfl | (simp [Region.wanted, yielded]; done))) (fun _ _ _ h => h) ?_ ?_
    · intros; go_simp; exact ⟨rfl, rfl⟩
    refine stepD 14 rfl (fun p => (by first | rfl | (simp [Region.wanted, yielded]; done))) (fun _ _ _ h => h) more ?_ ?_
    · rintro p L w1 ⟨hsz, hB, g, f⟩ hk
      have L9 : L 9 = true := hk.2.1 9 rfl
      have L21 : L 21 = false := hk.2.2 21 rfl
      have L27 : L 27 = false := hk.2.2 27 rfl
      rw [L9] at g
      try simp only [cond_true, cond_false] at g
      go_simp
      refine (BG.out _ _ g).mono ?_
      rintro e w2 ⟨rfl, h2⟩
      first | exact ⟨rfl, h2⟩ | (subst h2; exact ⟨rfl, Below.refl _ _⟩)
    refine stepVg 15 rfl (fun p => (by first | rfl | (simp [Region.wanted, yielded]; done))) (fun _ _ _ h => h) ?_ ?_
    · intros; (try simp only [vfn, qfn]); go_simp; exact ⟨rfl, rfl⟩
    refine stepVg 16 rfl (fun p => (by first | rfl | (simp [Region.wanted, yielded]; done))) (fun _ _ _ h => h) ?_ ?_
    · intros; go_simp; exact ⟨rfl, rfl⟩
    refine stepV 17 rfl rfl (fun _ _ _ h => h) ?_ ?_
    · intros; go_simp; exact ⟨rfl, rfl⟩
    refine stepV 18 rfl rfl (fun _ _ _ h => h) ?_ ?_
    · intros; go_simp; exact ⟨rfl, rfl⟩
    refine stepVg 19 rfl (fun p => (by first | rfl | (simp [Region.wanted, yielded]; done))) (fun _ _ _ h => h) ?_ ?_
    · intros; go_simp; exact ⟨rfl, rfl⟩
    refine stepVg 20 rfl (fun p => (by first | rfl | (simp [Region.wanted, yielded]; done))) (fun _ _ _ h => h) ?_ ?_
    · intros; (try simp only [vfn, qfn]); go_simp; exact ⟨rfl, rfl⟩
    refine AllI.cons ?_ ?_
    · refine stepI_mut 21 rfl (fun p => (by first | rfl | (simp [Region.wanted, yielded]; done))) (fun _ => f_b) (fun p => (fltc ((of4 1073739776 0 0 2097148), fun _ => 0))) ?_ ?_
      · rintro p L w1 ⟨hsz, hB, g, f⟩ hk
        have L9 : L 9 = true := hk.2.1 9 rfl
        have L21 : L 21 = false := hk.1
        have L27 : L 27 = false := hk.2.2 27 rfl
        rw [L21, L27] at f
        try simp only [cond_true, cond_false] at f
        go_simp
        refine (PR.out _ _ f).mono ?_
        rintro e w2 ⟨rfl, h2⟩
        exact ⟨rfl, h2⟩
      · rintro p L w1 w2 ⟨hsz, hB, g, f⟩ hk hm
        have L9 : L 9 = true := hk.2.1 9 rfl
        have L21 : L 21 = false := hk.1
        have L27 : L 27 = false := hk.2.2 27 rfl
        refine ⟨Nat.le_trans hsz (by have := hm.size; simpa using this), (Below.setRow hB (by first | exact Nat.le_trans hW0 hp.1 | exact ge_f | omega | (have := hB.size; simp at this ⊢; omega)) _).trans (hm.mono (Nat.le_trans hW0 hsz)), (g.rowOther (by first | exact ne_g_f | exact Ne.symm ne_f_g | omega) _).below hm (by simpa using g.lt), ?_⟩
        rw [show upL L 21 27 = false from L27, show upL L 21 21 = true from rfl]
        exact (f.row _).below hm (by simpa using f.lt)
    refine stepVg 22 rfl (fun p => (by first | rfl | (simp [Region.wanted, yielded]; done))) (fun _ _ _ h => h) ?_ ?_
    · intros; go_simp; exact ⟨rfl, rfl⟩
    refine stepV 23 rfl rfl (fun _ _ _ h => h) ?_ ?_
    · intros; go_simp; exact ⟨rfl, rfl⟩
    refine stepV 24 rfl rfl (fun _ _ _ h => h) ?_ ?_
    · intros; go_simp; exact ⟨rfl, rfl⟩
    refine stepVg 25 rfl (fun p => (by first | rfl | (simp [Region.wanted, yielded]; done))) (fun _ _ _ h => h) ?_ ?_
    · intros; go_simp; exact ⟨rfl, rfl⟩
    refine stepVg 26 rfl (fun p => (by first | rfl | (simp [Region.wanted, yielded]; done))) (fun _ _ _ h => h) ?_ ?_
    · intros; (try simp only [vfn, qfn]); go_simp; exact ⟨rfl, rfl⟩
    refine AllI.cons ?_ ?_
    · refine stepI_mut 27 rfl (fun p => (by first | rfl | (simp [Region.wanted, yielded]; done))) (fun _ => f_b) (fun p => (fltc (kq, fun _ => 0))) ?_ ?_
      · rintro p L w1 ⟨hsz, hB, g, f⟩ hk
        have L9 : L 9 = true := hk.2.1 9 rfl
        have L21 : L 21 = true := hk.2.1 21 rfl
        have L27 : L 27 = false := hk.1
        rw [L21, L27] at f
        try simp only [cond_true, cond_false] at f
        go_simp
        refine (CO.out _ _ f).mono ?_
        rintro e w2 ⟨rfl, h2⟩
        exact ⟨rfl, h2⟩
      · rintro p L w1 w2 ⟨hsz, hB, g, f⟩ hk hm
        have L9 : L 9 = true := hk.2.1 9 rfl
        have L21 : L 21 = true := hk.2.1 21 rfl
        have L27 : L 27 = false := hk.1
        refine ⟨Nat.le_trans hsz (by have := hm.size; simpa using this), (Below.setRow hB (by first | exact Nat.le_trans hW0 hp.1 | exact ge_f | omega | (have := hB.size; simp at this ⊢; omega)) _).trans (hm.mono (Nat.le_trans hW0 hsz)), (g.rowOther (by first | exact ne_g_f | exact Ne.symm ne_f_g | omega) _).below hm (by simpa using g.lt), ?_⟩
        rw [show upL L 27 27 = true from rfl]
        exact (f.row _).below hm (by simpa using f.lt)
    refine stepVg 28 rfl (fun p => (by first | rfl | (simp [Region.wanted, yielded]; done))) (fun _ _ _ h => h) ?_ ?_
    · intros; go_simp; exact ⟨rfl, rfl⟩
    refine stepV 29 rfl rfl (fun _ _ _ h => h) ?_ ?_
    · intros; go_simp; exact ⟨rfl, rfl⟩
    exact AllI.nil
  case hV0 => exact fun p q => AllI.nil
  case he =>
  clear hB g f
  rintro p wrrrrrr ⟨hsz, hB, g, f⟩
  replace g : blk wrrrrrr g_b (qfn (gyS (of3 6 0 (-7)) 100)) 88 := g
  replace f : blk wrrrrrr f_b (fltc (kq, fun _ => 0)) 91 := f
  clear lt_g
  clear lt_f
  clear hsz hW0
  clear E1
  go_upto_region 8 with (fail)
  have lt_g := g.lt
  have lt_f := f.lt
  have hW0 : w.heap.size ≤ wrrrrrr.heap.size := by have := hB.size; first | exact this | simpa using this
  apply wp_region_Q 4 [0, 1, 3, 7] [2] [_, _, (fun p => .pointer (some ⟨p 2, 0, none⟩)), (fun _ => undef)] (fun p L w' => wrrrrrr.heap.size ≤ w'.heap.size ∧ Below w.heap.size w w' ∧ blk w' g_b (qfn (gyS (of3 6 0 (-7)) 100)) 88 ∧ blk w' f_b (fltc (kq, fun _ => 0)) 91 ∧ (L 2 = true → wrrrrrr.heap.size ≤ p 2 ∧ blk w' (p 2) (bif L 3 then (qfn kq) else (qfn fun _ => 0)) 46)) _ [(0, 67), (1, 68), (2, 11)] [0, 1, 2, 3]
  case hn => rfl
  case hB => kernel_rfl
  case hds => kernel_rfl
  case hA => (intro p; simp only [putsD, Act.put, List.setIfInBounds_toArray, List.set_cons_zero, List.set_cons_succ, List.getD_cons_zero, List.getD_cons_succ]; exact rfl)
  case h0 => exact fun p => ⟨Nat.le_refl _, hB, g, f, fun h => absurd h (by decide)⟩
  case hmore => exact fun p L w1 w2 ⟨hsz, hB, g, f, h_q⟩ hm => ⟨Nat.le_trans hsz hm.size, hB.trans (hm.mono (Nat.le_trans hW0 hsz)), g.below hm g.lt, f.below hm f.lt, fun hl => ⟨(h_q hl).1, (h_q hl).2.below hm (h_q hl).2.lt⟩⟩
  case hs =>
    intro more
    refine stepV 0 rfl rfl (fun _ _ _ h => h) ?_ ?_
    · intros; go_simp; exact ⟨rfl, rfl⟩
    refine stepD 1 rfl (fun p => rfl) (fun _ _ _ h => h) more ?_ ?_
    · rintro p L w1 ⟨hsz, hB, g, f, h_q⟩ hk
      have L3 : L 3 = false := hk.2.2 3 rfl
      go_simp
      refine (AT.out _ _ f).mono ?_
      rintro e w2 ⟨rfl, h2⟩
      first | exact ⟨rfl, h2⟩ | (subst h2; exact ⟨rfl, Below.refl _ _⟩)
    refine AllI.cons ?_ ?_
    · refine stepI_alloc 2 rfl (fun p => rfl) rfl (qfn fun _ => 0) 46 (fun p => rfl) ?_ ?_
      · intro p w1
        go_simp
        first | rfl | rw [zero_quat]
      rintro p L w1 ⟨hsz, hB, g, f, h_q⟩ hk
      have L3 : L 3 = false := hk.2.2 3 rfl
      refine ⟨Nat.le_trans hsz (by simp), hB.alloc (Nat.le_trans (by first | exact hW0 | (have := hB.size; simp at this ⊢; omega)) hsz) _, g.alloc _, f.alloc _, fun _ => ⟨hsz, ?_⟩⟩
      rw [show upL L 2 3 = false from L3]
      exact blk.new _ _ _
    refine AllI.cons ?_ ?_
    · refine stepI_store 3 rfl (fun p => rfl) (fun p => rfl) _ _ _ rfl (fun p => p 2) 0 (fun p => rfl) (fun p => (qfn kq)) (fun p => rfl) (fun p => (qfn fun _ => 0)) (fun p => (qfn kq)) 46 (fun p => over_qq _ _) (fun p => by first | (rw [qfn_size, qfn_size]; decide) | simp [qfn_size, qfn_size]) (fun p => by rw [qfn_size]; kernel_rfl) (fun p => qfn_one _) ?_ ?_
      · rintro p L w1 ⟨hsz, hB, g, f, h_q⟩ hk
        have L3 : L 3 = false := hk.1
        have hh := (h_q (hk.2.1 2 rfl)).2
        rw [L3] at hh
        try simp only [cond_true, cond_false] at hh
        exact hh
      · rintro p L w1 ⟨hsz, hB, g, f, h_q⟩ hk
        have L3 : L 3 = false := hk.1
        skip
        have hp := h_q (hk.2.1 2 rfl)
        refine ⟨(by simpa using hsz), Below.setRow hB (by first | exact Nat.le_trans hW0 hp.1 | exact ge_q | omega | (have := hB.size; simp at this ⊢; omega)) _, g.rowOther (by first | exact Nat.ne_of_lt (Nat.lt_of_lt_of_le lt_g hp.1) | omega) _, f.rowOther (by first | exact Nat.ne_of_lt (Nat.lt_of_lt_of_le lt_f hp.1) | omega) _, fun _ => ⟨hp.1, ?_⟩⟩
        rw [show upL L 3 3 = true from rfl]
        exact hp.2.row _
    exact AllI.nil
  case hV0 =>
    intro p q
    refine AllI.cons ?_ ?_
    · skip
      iterate 4 (refine AllI.cons (by first | exact .inl rfl | (refine .inr ?_; simp only [List.getD_cons_zero, List.getD_cons_succ]; done) | exact .inr rfl) ?_)
      exact AllI.nil
    exact AllI.nil
  case he =>
  clear hB g f
  rintro p wrrrrrrr ⟨hsz, hB, g, f, h_q⟩
  obtain ⟨le_q, q⟩ := h_q rfl
  clear h_q
  replace q : blk wrrrrrrr (p 2) (qfn kq) 46 := q
  have ne_g_q : g_b ≠ p 2 := Nat.ne_of_lt (Nat.lt_of_lt_of_le lt_g le_q)
  have ne_f_q : f_b ≠ p 2 := Nat.ne_of_lt (Nat.lt_of_lt_of_le lt_f le_q)
  have ge_q : w.heap.size ≤ p 2 := Nat.le_trans hW0 le_q
  generalize p 2 = q_b at *
  clear lt_g
  clear lt_f
  clear hsz hW0
  go_upto_region 9 with (fail)
  have E2 : ∀ w, (Op.equalIn 10000 39 (.agg (vfn fun _ => 0)) (.agg #[.int .i64 0, .int .i64 0, .int .i64 0])).run Try.prog w = .ok true w := fun w => by rw [zero_vec]; exact vec_eq_self _ w
  have K1 := k_q1
  have K2 := k_q2
  have K3 := k_q3.1
  have K4 := k_q3.2
  have lt_g := g.lt
  have lt_f := f.lt
  have lt_q := q.lt
  have hW0 : w.heap.size ≤ wrrrrrrr.heap.size := by have := hB.size; first | exact this | simpa using this
  apply wp_region_Q 52 [0, 1, 3, 7, 15, 31, 63, 127, 255, 511, 1023, 2047, 4095, 8191, 16383, 32767, 65535, 131071, 262143, 524287, 1048575, 2097151, 4194303, 8388607, 16777215, 33554431, 67108863, 134217727, 268435455, 536870911, 1073741823, 2147483647, 4294967295, 8589934591, 17179869183, 34359738367, 68719476735, 137438953471, 274877906943, 549755813887, 1099511627775, 2199023255551, 4398046511103, 8796093022207, 17592186044415, 35184372088831, 70368744177663, 140737488355327, 281474976710655, 562949953421311, 1125899906842623, 2251799813685247] [] [_, _, _, _, _, _, _, _, _, _, _, _, _, _, _, _, _, _, _, _, _, _, _, _, _, _, _, _, _, _, _, _, _, _, _, _, _, _, _, _, _, _, _, _, _, _, _, _, _, _, _, _] (fun p L w' => wrrrrrrr.heap.size ≤ w'.heap.size ∧ Below w.heap.size w w' ∧ blk w' g_b (qfn (gyS (of3 6 0 (-7)) 100)) 88 ∧ blk w' f_b (bif L 45 then (fltc (kq, fun _ => 0)) else (bif L 39 then (fltc (kq, fun _ => 0)) else (fltc (kq, fun _ => 0)))) 91 ∧ blk w' q_b (qfn kq) 46) _ [(0, 69), (1, 70), (2, 71), (3, 72), (4, 73), (5, 74), (6, 75), (7, 76), (8, 77), (9, 78), (10, 79), (11, 80), (12, 81), (13, 82), (14, 83), (15, 84), (16, 85), (17, 86), (18, 87), (19, 88), (20, 89), (21, 90), (22, 91), (23, 92), (24, 93), (25, 94), (26, 95), (27, 96), (28, 97), (29, 98), (30, 99), (31, 100), (32, 101), (33, 102), (34, 103), (35, 104), (36, 105), (37, 106), (38, 107), (39, 108), (40, 109), (41, 110), (42, 111), (43, 112), (44, 113), (45, 114), (46, 115), (47, 116), (48, 117), (49, 118), (50, 119), (51, 0)] [0, 1, 2, 3, 4, 5, 6, 7, 8, 9, 10, 11, 12, 13, 14, 15, 16, 17, 18, 19, 20, 21, 22, 23, 24, 25, 26, 27, 28, 29, 30, 31, 32, 33, 34, 35, 36, 37, 38, 39, 40, 41, 42, 43, 44, 45, 46, 47, 48, 49, 50, 51]
  case hn => rfl
  case hB => kernel_rfl
  case hds => kernel_rfl
  case hA => (intro p; simp only [putsD, Act.put, List.setIfInBounds_toArray, List.set_cons_zero, List.set_cons_succ, List.getD_cons_zero, List.getD_cons_succ]; exact rfl)
  case h0 => exact fun p => ⟨Nat.le_refl _, hB, g, f, q⟩
  case hmore => exact fun p L w1 w2 ⟨hsz, hB, g, f, q⟩ hm => ⟨Nat.le_trans hsz hm.size, hB.trans (hm.mono (Nat.le_trans hW0 hsz)), g.below hm g.lt, f.below hm f.lt, q.below hm q.lt⟩
  case hs =>
    intro more
    refine stepV 0 rfl rfl (fun _ _ _ h => h) ?_ ?_
    · intros; go_simp; exact ⟨rfl, rfl⟩
    refine stepV 1 rfl rfl (fun _ _ _ h => h) ?_ ?_
    · intros; go_simp; exact ⟨rfl, rfl⟩
    refine stepV 2 rfl rfl (fun _ _ _ h => h) ?_ ?_
    · intros; go_simp; exact ⟨rfl, rfl⟩
    refine stepVg 3 rfl (fun p => (by first | rfl | (simp [Region.wanted, yielded]; done))) (fun _ _ _ h => h) ?_ ?_
    · intros; go_simp; exact ⟨rfl, rfl⟩
    refine stepVg 4 rfl (fun p => (by first | rfl | (simp [Region.wanted, yielded]; done))) (fun _ _ _ h => h) ?_ ?_
    · intros; go_simp; exact ⟨rfl, rfl⟩
    refine stepV 5 rfl rfl (fun _ _ _ h => h) ?_ ?_
    · intros; go_simp; exact ⟨rfl, rfl⟩
    refine stepV 6 rfl rfl (fun _ _ _ h => h) ?_ ?_
    · intros; go_simp; exact ⟨rfl, rfl⟩
    refine stepVg 7 rfl (fun p => (by first | rfl | (simp [Region.wanted, yielded]; done))) (fun _ _ _ h => h) ?_ ?_
    · intros; go_simp; exact ⟨rfl, rfl⟩
    refine stepVg 8 rfl (fun p => (by first | rfl | (simp [Region.wanted, yielded]; done))) (fun _ _ _ h => h) ?_ ?_
    · intros; go_simp; exact ⟨rfl, rfl⟩
    refine stepV 9 rfl rfl (fun _ _ _ h => h) ?_ ?_
    · intros; go_simp; exact ⟨rfl, rfl⟩
    refine stepV 10 rfl rfl (fun _ _ _ h => h) ?_ ?_
    · intros; go_simp; exact ⟨rfl, rfl⟩
    refine stepVg 11 rfl (fun p => (by first | rfl | (simp [Region.wanted, yielded]; done))) (fun _ _ _ h => h) ?_ ?_
    · intros; go_simp; exact ⟨rfl, rfl⟩
    refine stepVg 12 rfl (fun p => (by first | rfl | (simp [Region.wanted, yielded]; done))) (fun _ _ _ h => h) ?_ ?_
    · rintro p L w1 ⟨hsz, hB, g, f, q⟩ hk
      have L39 : L 39 = false := hk.2.2 39 rfl
      have L45 : L 45 = false := hk.2.2 45 rfl
      first | exact valR_row _ _ rfl _ rfl _ _ q _ Try.underlying46 rfl (by first | kernel_rfl | (rw [qfn_size]; kernel_rfl)) rfl | (have hc := q.cellIs (qfn_get _ (show 1 < 4 by omega)); go_simp; exact ⟨rfl, rfl⟩)
    refine stepVg 13 rfl (fun p => (by first | rfl | (simp [Region.wanted, yielded]; done))) (fun _ _ _ h => h) ?_ ?_
    · intros; go_simp; exact ⟨rfl, rfl⟩
    refine stepV 14 rfl rfl (fun _ _ _ h => h) ?_ ?_
    · intros; go_simp; exact ⟨rfl, rfl⟩
    refine stepV 15 rfl rfl (fun _ _ _ h => h) ?_ ?_
    · intros; go_simp; exact ⟨rfl, rfl⟩
    refine stepVg 16 rfl (fun p => (by first | rfl | (simp [Region.wanted, yielded]; done))) (fun _ _ _ h => h) ?_ ?_
    · intros; go_simp; exact ⟨rfl, rfl⟩
    refine stepVg 17 rfl (fun p => (by first | rfl | (simp [Region.wanted, yielded]; done))) (fun _ _ _ h => h) ?_ ?_
    · rintro p L w1 ⟨hsz, hB, g, f, q⟩ hk
      have L39 : L 39 = false := hk.2.2 39 rfl
      have L45 : L 45 = false := hk.2.2 45 rfl
      first | exact valR_row _ _ rfl _ rfl _ _ q _ Try.underlying46 rfl (by first | kernel_rfl | (rw [qfn_size]; kernel_rfl)) rfl | (have hc := q.cellIs (qfn_get _ (show 2 < 4 by omega)); go_simp; exact ⟨rfl, rfl⟩)
    refine stepVg 18 rfl (fun p => (by first | rfl | (simp [Region.wanted, yielded]; done))) (fun _ _ _ h => h) ?_ ?_
    · intros; go_simp; exact ⟨rfl, rfl⟩
    refine stepV 19 rfl rfl (fun _ _ _ h => h) ?_ ?_
    · intros; go_simp; exact ⟨rfl, rfl⟩
    refine stepV 20 rfl rfl (fun _ _ _ h => h) ?_ ?_
    · intros; go_simp; exact ⟨rfl, rfl⟩
    refine stepVg 21 rfl (fun p => (by first | rfl | (simp [Region.wanted, yielded]; done))) (fun _ _ _ h => h) ?_ ?_
    · intros; go_simp; exact ⟨rfl, rfl⟩
    refine stepVg 22 rfl (fun p => (by first | rfl | (simp [Region.wanted, yielded]; done))) (fun _ _ _ h => h) ?_ ?_
    · rintro p L w1 ⟨hsz, hB, g, f, q⟩ hk
      have L39 : L 39 = false := hk.2.2 39 rfl
      have L45 : L 45 = false := hk.2.2 45 rfl
      first | exact valR_row _ _ rfl _ rfl _ _ q _ Try.underlying46 rfl (by first | kernel_rfl | (rw [qfn_size]; kernel_rfl)) rfl | (have hc := q.cellIs (qfn_get _ (show 3 < 4 by omega)); go_simp; exact ⟨rfl, rfl⟩)
    refine stepVg 23 rfl (fun p => (by first | rfl | (simp [Region.wanted, yielded]; done))) (fun _ _ _ h => h) ?_ ?_
    · intros; go_simp; exact ⟨rfl, rfl⟩
    refine stepV 24 rfl rfl (fun _ _ _ h => h) ?_ ?_
    · intros; go_simp; exact ⟨rfl, rfl⟩
    refine stepV 25 rfl rfl (fun _ _ _ h => h) ?_ ?_
    · intros; go_simp; exact ⟨rfl, rfl⟩
    refine stepVg 26 rfl (fun p => (by first | rfl | (simp [Region.wanted, yielded]; done))) (fun _ _ _ h => h) ?_ ?_
    · intros; go_simp; exact ⟨rfl, rfl⟩
    refine stepVg 27 rfl (fun p => (by first | rfl | (simp [Region.wanted, yielded]; done))) (fun _ _ _ h => h) ?_ ?_
    · rintro p L w1 ⟨hsz, hB, g, f, q⟩ hk
      have L39 : L 39 = false := hk.2.2 39 rfl
      have L45 : L 45 = false := hk.2.2 45 rfl
      first | exact valR_row _ _ rfl _ rfl _ _ q _ Try.underlying46 rfl (by first | kernel_rfl | (rw [qfn_size]; kernel_rfl)) rfl | (have hc := q.cellIs (qfn_get _ (show 3 < 4 by omega)); go_simp; exact ⟨rfl, rfl⟩)
    refine stepVg 28 rfl (fun p => (by first | rfl | (simp [Region.wanted, yielded]; done))) (fun _ _ _ h => h) ?_ ?_
    · intros; go_simp; exact ⟨rfl, rfl⟩
    refine stepV 29 rfl rfl (fun _ _ _ h => h) ?_ ?_
    · intros; go_simp; exact ⟨rfl, rfl⟩
    refine stepV 30 rfl rfl (fun _ _ _ h => h) ?_ ?_
    · intros; go_simp; exact ⟨rfl, rfl⟩
    refine stepVg 31 rfl (fun p => (by first | rfl | (simp [Region.wanted, yielded]; done))) (fun _ _ _ h => h) ?_ ?_
    · intros; go_simp; exact ⟨rfl, rfl⟩
    refine stepD 32 rfl (fun p => (by first | rfl | (simp [Region.wanted, yielded]; done))) (fun _ _ _ h => h) more ?_ ?_
    · rintro p L w1 ⟨hsz, hB, g, f, q⟩ hk
      have L39 : L 39 = false := hk.2.2 39 rfl
      have L45 : L 45 = false := hk.2.2 45 rfl
      rw [L39, L45] at f
      try simp only [cond_true, cond_false] at f
      go_simp
      refine (BI.out _ _ f).mono ?_
      rintro e w2 ⟨rfl, h2⟩
      first | exact ⟨rfl, h2⟩ | (subst h2; exact ⟨rfl, Below.refl _ _⟩)
    refine stepVg 33 rfl (fun p => (by first | rfl | (simp [Region.wanted, yielded]; done))) (fun _ _ _ h => h) ?_ ?_
    · intros; (try simp only [vfn, qfn]); go_simp; exact ⟨rfl, rfl⟩
    refine stepVg 34 rfl (fun p => (by first | rfl | (simp [Region.wanted, yielded]; done))) (fun _ _ _ h => h) ?_ ?_
    · intros; go_simp; exact ⟨rfl, rfl⟩
    refine stepV 35 rfl rfl (fun _ _ _ h => h) ?_ ?_
    · intros; go_simp; exact ⟨rfl, rfl⟩
    refine stepV 36 rfl rfl (fun _ _ _ h => h) ?_ ?_
    · intros; go_simp; exact ⟨rfl, rfl⟩
    refine stepVg 37 rfl (fun p => (by first | rfl | (simp [Region.wanted, yielded]; done))) (fun _ _ _ h => h) ?_ ?_
    · intros; go_simp; exact ⟨rfl, rfl⟩
    refine stepVg 38 rfl (fun p => (by first | rfl | (simp [Region.wanted, yielded]; done))) (fun _ _ _ h => h) ?_ ?_
    · intros; (try simp only [vfn, qfn]); go_simp; exact ⟨rfl, rfl⟩
    refine AllI.cons ?_ ?_
    · refine stepI_mut 39 rfl (fun p => (by first | rfl | (simp [Region.wanted, yielded]; done))) (fun _ => f_b) (fun p => (fltc (kq, fun _ => 0))) ?_ ?_
      · rintro p L w1 ⟨hsz, hB, g, f, q⟩ hk
        have L39 : L 39 = false := hk.1
        have L45 : L 45 = false := hk.2.2 45 rfl
        rw [L39, L45] at f
        try simp only [cond_true, cond_false] at f
        go_simp
        refine (P3.out _ _ f).mono ?_
        rintro e w2 ⟨rfl, h2⟩
        exact ⟨rfl, h2⟩
      · rintro p L w1 w2 ⟨hsz, hB, g, f, q⟩ hk hm
        have L39 : L 39 = false := hk.1
        have L45 : L 45 = false := hk.2.2 45 rfl
        refine ⟨Nat.le_trans hsz (by have := hm.size; simpa using this), (Below.setRow hB (by first | exact Nat.le_trans hW0 hp.1 | exact ge_f | omega | (have := hB.size; simp at this ⊢; omega)) _).trans (hm.mono (Nat.le_trans hW0 hsz)), (g.rowOther (by first | exact ne_g_f | exact Ne.symm ne_f_g | omega) _).below hm (by simpa using g.lt), ?_, (q.rowOther (by first | exact ne_q_f | exact Ne.symm ne_f_q | omega) _).below hm (by simpa using q.lt)⟩
        rw [show upL L 39 45 = false from L45, show upL L 39 39 = true from rfl]
        exact (f.row _).below hm (by simpa using f.lt)
    refine stepVg 40 rfl (fun p => (by first | rfl | (simp [Region.wanted, yielded]; done))) (fun _ _ _ h => h) ?_ ?_
    · intros; go_simp; exact ⟨rfl, rfl⟩
    refine stepV 41 rfl rfl (fun _ _ _ h => h) ?_ ?_
    · intros; go_simp; exact ⟨rfl, rfl⟩
    refine stepV 42 rfl rfl (fun _ _ _ h => h) ?_ ?_
    · intros; go_simp; exact ⟨rfl, rfl⟩
    refine stepVg 43 rfl (fun p => (by first | rfl | (simp [Region.wanted, yielded]; done))) (fun _ _ _ h => h) ?_ ?_
    · intros; go_simp; exact ⟨rfl, rfl⟩
    refine stepVg 44 rfl (fun p => (by first | rfl | (simp [Region.wanted, yielded]; done))) (fun _ _ _ h => h) ?_ ?_
    · intros; (try simp only [vfn, qfn]); go_simp; exact ⟨rfl, rfl⟩
    refine AllI.cons ?_ ?_
    · refine stepI_mut 45 rfl (fun p => (by first | rfl | (simp [Region.wanted, yielded]; done))) (fun _ => f_b) (fun p => (fltc (kq, fun _ => 0))) ?_ ?_
      · rintro p L w1 ⟨hsz, hB, g, f, q⟩ hk
        have L39 : L 39 = true := hk.2.1 39 rfl
        have L45 : L 45 = false := hk.1
        rw [L39, L45] at f
        try simp only [cond_true, cond_false] at f
        go_simp
        refine (C3.out _ _ f).mono ?_
        rintro e w2 ⟨rfl, h2⟩
        exact ⟨rfl, h2⟩
      · rintro p L w1 w2 ⟨hsz, hB, g, f, q⟩ hk hm
        have L39 : L 39 = true := hk.2.1 39 rfl
        have L45 : L 45 = false := hk.1
        refine ⟨Nat.le_trans hsz (by have := hm.size; simpa using this), (Below.setRow hB (by first | exact Nat.le_trans hW0 hp.1 | exact ge_f | omega | (have := hB.size; simp at this ⊢; omega)) _).trans (hm.mono (Nat.le_trans hW0 hsz)), (g.rowOther (by first | exact ne_g_f | exact Ne.symm ne_f_g | omega) _).below hm (by simpa using g.lt), ?_, (q.rowOther (by first | exact ne_q_f | exact Ne.symm ne_f_q | omega) _).below hm (by simpa using q.lt)⟩
        rw [show upL L 45 45 = true from rfl]
        exact (f.row _).below hm (by simpa using f.lt)
    refine stepVg 46 rfl (fun p => (by first | rfl | (simp [Region.wanted, yielded]; done))) (fun _ _ _ h => h) ?_ ?_
    · intros; go_simp; exact ⟨rfl, rfl⟩
    refine stepV 47 rfl rfl (fun _ _ _ h => h) ?_ ?_
    · intros; go_simp; exact ⟨rfl, rfl⟩
    refine stepV 48 rfl rfl (fun _ _ _ h => h) ?_ ?_
    · intros; go_simp; exact ⟨rfl, rfl⟩
    refine stepD 49 rfl (fun p => (by first | rfl | (simp [Region.wanted, yielded]; done))) (fun _ _ _ h => h) more ?_ ?_
    · rintro p L w1 ⟨hsz, hB, g, f, q⟩ hk
      go_simp
      refine (AW.out _).mono ?_
      rintro e w2 ⟨rfl, h2⟩
      first | exact ⟨rfl, h2⟩ | (subst h2; exact ⟨rfl, Below.refl _ _⟩)
    refine stepV 50 rfl rfl (fun _ _ _ h => h) ?_ ?_
    · intros; go_simp; exact ⟨rfl, rfl⟩
    refine stepV 51 rfl rfl (fun _ _ _ h => h) ?_ ?_
    · intros; go_simp; exact ⟨rfl, rfl⟩
    exact AllI.nil
  case hV0 => exact fun p q => AllI.nil
  case he =>
  clear hB g f q
  rintro p wrrrrrrrr ⟨hsz, hB, g, f, q⟩
  replace f : blk wrrrrrrrr f_b (fltc (kq, fun _ => 0)) 91 := f
  clear lt_g
  clear lt_f
  clear lt_q
  clear hsz hW0
  go_wp2_with (fail)
  go_ret
  exact ⟨rfl, hB⟩
end Go.Proofs.Ytnkjbdfhdenbcaa
