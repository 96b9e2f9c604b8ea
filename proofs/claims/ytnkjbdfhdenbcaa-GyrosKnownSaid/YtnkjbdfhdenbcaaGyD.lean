/-
  The gyros of the package: Drift.
-/
import Derived.Test.YtnkjbdfhdenbcaaFlR
set_option linter.unusedSimpArgs false
set_option linter.unusedVariables false
namespace Go.Proofs.Ytnkjbdfhdenbcaa
open Go.RowKit PM Dt
/-- Two vectors, as a row of two. -/
def row2 (x : (Nat → Int) × (Nat → Int)) : Array Value := #[.int .i64 (x.1 0), .int .i64 (x.1 1), .int .i64 (x.1 2), .int .i64 (x.2 0), .int .i64 (x.2 1), .int .i64 (x.2 2)]
theorem pick2_bd {R G : Nat → Int} (hG : GI G) (hR : ∀ i, i < 3 → -4398046511104 ≤ R i ∧ R i ≤ 4398046511104) (k : Nat) (hk : k < 2) (j : Nat) (hj : j < 3) : -4398046511104 ≤ pick3 G R R k j ∧ pick3 G R R k j ≤ 4398046511104 := by
  unfold pick3
  split
  · have := hG.1 j hj; omega
  · split <;> exact hR j hj
theorem dr_over (G R : Nat → Int) : over (qfn G) 0 (vfn fun i => clampV (sumF (pick3 G R R) 2 i) (-16777216) 16777216).toList = qfn (drF G R) := by
  have e : ∀ i, i < 3 → clampV (sumF (pick3 G R R) 2 i) (-16777216) 16777216 = drF G R i := fun i hi => by
    rw [drF_at G R hi]; congr 1; simp [sumF, pick3]
  unfold vfn qfn
  simp only [over, e 0 (by omega), e 1 (by omega), e 2 (by omega)]
  rfl
set_option maxRecDepth 100000 in
set_option maxHeartbeats 2000000 in
theorem gdrift_none (v : Value) (R : Nat → Int) (w : World) (hn : ∀ w', Below w.heap.size w w' → Calls Try.prog 78 #[v] w' fun e w2 => e = .returned (.bool true) ∧ w' = w2) : Calls Try.prog 32 #[v, .agg (vfn R)] w fun e w' => e = .returned (.int .i64 1) ∧ Below w.heap.size w w' := by
  have NN := Lib.hid hn
  clear hn
  go_enter Try.func32, Try.ntmps32
  go_upto_region 1 with (fail)
  have v : blk (w.alloc (.cells (vfn R) 39)) w.heap.size (vfn R) 39 := blk.new _ _ _
  have hB : Below w.heap.size w (w.alloc (.cells (vfn R) 39)) := by go_grown
  generalize (w.alloc (.cells (vfn R) 39)) = w0 at *
  go_wp2_with (first
    | (refine wpList_load_rowG ?hw _ _ rfl _ rfl _ _ _ _ v Try.underlying39 rfl ?hi ?_; (case hw => (first | rfl | (simp [Region.wanted, yielded]; done))); (case hi => (first | kernel_rfl | (rw [vfn_size]; kernel_rfl))))
    | (go_at_call 78; with_reducible refine (NN.out _ hB).mono ?_; rintro e w9 ⟨rfl, rfl⟩))
  go_ret
  exact ⟨rfl, hB⟩
set_option maxRecDepth 100000 in
set_option maxHeartbeats 2000000 in
theorem gdrift_no (G R : Nat → Int) (b : Nat) (w : World) (hg : blk w b (qfn G) 88) (h3 : G 3 ≠ 0) (hR : okV R = false) : Calls Try.prog 32 #[.pointer (some ⟨b, 0, none⟩), .agg (vfn R)] w fun e w' => e = .returned (.int .i64 2) ∧ Below w.heap.size w w' := by
  have NN := Lib.hid (fun w' (hb : Below w.heap.size w w') => gnone_any G b w' (hg.below hb hg.lt))
  rw [show decide (G 3 = 0) = false from decide_eq_false h3] at NN
  have VR := Lib.hid (fun w => valid_any R w)
  rw [hR] at VR
  go_enter Try.func32, Try.ntmps32
  go_upto_region 1 with (fail)
  have v : blk (w.alloc (.cells (vfn R) 39)) w.heap.size (vfn R) 39 := blk.new _ _ _
  have hB : Below w.heap.size w (w.alloc (.cells (vfn R) 39)) := by go_grown
  generalize (w.alloc (.cells (vfn R) 39)) = w0 at *
  go_wp2_with (first
    | (refine wpList_load_rowG ?hw _ _ rfl _ rfl _ _ _ _ v Try.underlying39 rfl ?hi ?_; (case hw => (first | rfl | (simp [Region.wanted, yielded]; done))); (case hi => (first | kernel_rfl | (rw [vfn_size]; kernel_rfl))))
    | (go_at_call 79; with_reducible refine (VR.out _).mono ?_; rintro e w1 ⟨rfl, hb⟩; replace hB := hB.trans (hb.mono hB.size); replace v := v.below hb v.lt; clear hb)
    | (go_at_call 78; with_reducible refine (NN.out _ hB).mono ?_; rintro e w9 ⟨rfl, rfl⟩))
  go_ret
  exact ⟨rfl, hB⟩
set_option maxRecDepth 100000 in
set_option maxHeartbeats 4000000 in
theorem gdrift_ok (G R : Nat → Int) (b : Nat) (w : World) (hg : blk w b (qfn G) 88) (hG : GI G) (hR : okV R = true) : Calls Try.prog 32 #[.pointer (some ⟨b, 0, none⟩), .agg (vfn R)] w fun e w' => e = .returned (.int .i64 0) ∧ Below w.heap.size (w.setRow b (qfn (drF G R))) w' := by
  have h3 : G 3 ≠ 0 := by have := hG.2; omega
  have NN := Lib.hid (fun w' (hb : Below w.heap.size w w') => gnone_any G b w' (hg.below hb hg.lt))
  rw [show decide (G 3 = 0) = false from decide_eq_false h3] at NN
  have VR := Lib.hid (fun w => valid_any R w)
  have CL := Lib.hid (fun b C t w (hb : blk w b C t) hC => clamped_any (pick3 G R R) 2 16777216 b C t w hb hC (by omega) (pick2_bd hG (ok_bd hR)) (by omega) (by omega))
  rw [hR] at VR
  have hgl := hg.lt
  go_enter Try.func32, Try.ntmps32
  go_upto_region 1 with (fail)
  have v : blk (w.alloc (.cells (vfn R) 39)) w.heap.size (vfn R) 39 := blk.new _ _ _
  have hB : Below w.heap.size w (w.alloc (.cells (vfn R) 39)) := by go_grown
  generalize (w.alloc (.cells (vfn R) 39)) = w0 at *
  go_upto_region 5 with (first
    | (refine wpList_load_rowG ?hw _ _ rfl _ rfl _ _ _ _ v Try.underlying39 rfl ?hi ?_; (case hw => (first | rfl | (simp [Region.wanted, yielded]; done))); (case hi => (first | kernel_rfl | (rw [vfn_size]; kernel_rfl))))
    | (go_at_call 79; with_reducible refine (VR.out _).mono ?_; rintro e w1 ⟨rfl, hb⟩; replace hB := hB.trans (hb.mono hB.size); replace v := v.below hb v.lt; clear hb)
    | (go_at_call 78; with_reducible refine (NN.out _ hB).mono ?_; rintro e w9 ⟨rfl, rfl⟩))
  have g : blk w1 b (qfn G) 88 := hg.below hB hg.lt
  clear hg NN
  have ne_v_g : w.heap.size ≠ b := by omega
  have lt_v := v.lt
  have lt_g := g.lt
  have hW0 : w.heap.size ≤ w1.heap.size := by have := hB.size; first | exact this | simpa using this
  apply wp_region_I 11 [0, 0, 2, 6, 14, 0, 62, 126, 255, 511, 1023] [6] [_, _, _, _, _, _, (fun p => (fun b => .slice (some ⟨b, 0, none⟩) 2 2) (p 6)), _, _, _, (fun _ => undef)] (fun p L w' => w1.heap.size ≤ w'.heap.size ∧ Below w.heap.size (bif L 10 then w.setRow b (qfn (drF G R)) else w) w' ∧ blk w' w.heap.size (vfn R) 39 ∧ blk w' b (bif L 10 then (qfn (drF G R)) else (qfn G)) 88 ∧ (L 6 = true → w1.heap.size ≤ p 6 ∧ blk w' (p 6) (row2 (G, R)) 39)) _ [(0, 12), (1, 13), (2, 14), (3, 15), (4, 16), (5, 17), (6, 18), (7, 19), (8, 20), (9, 21)] [0, 1, 2, 3, 4, 5, 6, 7, 8, 9, 10]
  case hn => rfl
  case hm => kernel_rfl
  case hB => kernel_rfl
  case hds => kernel_rfl
  case hA => (intro p; simp only [putsD, Act.put, List.setIfInBounds_toArray, List.set_cons_zero, List.set_cons_succ, List.getD_cons_zero, List.getD_cons_succ]; exact rfl)
  case h0 => exact fun p => ⟨Nat.le_refl _, hB.drew, v.drew, g.drew, fun h => absurd h (by decide)⟩
  case hmore => exact fun p L w1 w2 ⟨hsz, hB, v, g, h_l⟩ hm => ⟨Nat.le_trans hsz hm.size, hB.trans (hm.mono (Nat.le_trans hW0 hsz)), v.below hm v.lt, g.below hm g.lt, fun hl => ⟨(h_l hl).1, (h_l hl).2.below hm (h_l hl).2.lt⟩⟩
  case hs =>
    intro more
    refine stepV 0 rfl rfl (fun _ _ _ h => h) ?_ ?_
    · intros; go_simp; exact ⟨rfl, rfl⟩
    refine stepV 1 rfl rfl (fun _ _ _ h => h) ?_ ?_
    · intros; go_simp; exact ⟨rfl, rfl⟩
    refine stepV 2 rfl rfl (fun _ _ _ h => h) ?_ ?_
    · intros; go_simp; exact ⟨rfl, rfl⟩
    refine stepV 3 rfl rfl (fun _ _ _ h => h) ?_ ?_
    · intros; go_simp; exact ⟨rfl, rfl⟩
    refine stepV 4 rfl rfl (fun _ _ _ h => h) ?_ ?_
    · rintro p L w1 ⟨hsz, hB, v, g, h_l⟩ hk
      have L10 : L 10 = false := hk.2.2 10 rfl
      rw [L10] at g
      try simp only [cond_true, cond_false] at g
      exact valR_part _ _ rfl _ 0 rfl _ _ g (vfn G) (part_q G) _ Try.underlying39 rfl (by rw [vfn_size]; kernel_rfl) rfl
    refine stepV 5 rfl rfl (fun _ _ _ h => h) ?_ ?_
    · rintro p L w1 ⟨hsz, hB, v, g, h_l⟩ hk
      have L10 : L 10 = false := hk.2.2 10 rfl
      first | exact valR_row _ _ rfl _ rfl _ _ v _ Try.underlying39 rfl (by first | kernel_rfl | (rw [vfn_size]; kernel_rfl)) rfl | (have hc := v.cellIs (vfn_get _ (show 0 < 3 by omega)); go_simp; exact ⟨rfl, rfl⟩)
    refine AllI.cons ?_ ?_
    · refine stepI_fresh 6 rfl (fun p => rfl) rfl (fun b => .slice (some ⟨b, 0, none⟩) 2 2) (fun p => (row2 (G, R))) 39 (fun p => rfl) ?_ ?_
      · intro p w1
        simp only [vfn, qfn]
        go_simp
        try rfl
      rintro p L w1 ⟨hsz, hB, v, g, h_l⟩ hk
      have L10 : L 10 = false := hk.2.2 10 rfl
      refine ⟨Nat.le_trans hsz (by simp), hB.alloc (Nat.le_trans (by first | exact hW0 | (have := hB.size; simp at this ⊢; omega)) hsz) _, v.alloc _, g.alloc _, fun _ => ⟨hsz, ?_⟩⟩
      exact blk.new _ _ _
    refine stepD 7 rfl (fun p => rfl) (fun _ _ _ h => h) more ?_ ?_
    · rintro p L w1 ⟨hsz, hB, v, g, h_l⟩ hk
      have L10 : L 10 = false := hk.2.2 10 rfl
      have hh_l := (h_l (hk.2.1 6 rfl)).2
      go_simp
      refine (CL.out _ _ _ _ hh_l (rows_pick2 _ _)).mono ?_
      rintro e w2 ⟨rfl, h2⟩
      first | exact ⟨rfl, h2⟩ | (subst h2; exact ⟨rfl, Below.refl _ _⟩)
    refine stepV 8 rfl rfl (fun _ _ _ h => h) ?_ ?_
    · intros; go_simp; exact ⟨rfl, rfl⟩
    refine stepV 9 rfl rfl (fun _ _ _ h => h) ?_ ?_
    · intros; go_simp; exact ⟨rfl, rfl⟩
    refine AllI.cons ?_ ?_
    · refine stepI_store 10 rfl (fun p => rfl) (fun p => rfl) _ _ _ rfl (fun _ => b) 0 (fun p => rfl) (fun p => (vfn (fun i => clampV (sumF (pick3 G R R) 2 i) (-16777216) 16777216))) (fun p => rfl) (fun p => (qfn G)) (fun p => (qfn (drF G R))) 88 (fun p => dr_over _ _) (fun p => by first | (rw [vfn_size, qfn_size]; decide) | simp [vfn_size, qfn_size]) (fun p => by rw [vfn_size]; kernel_rfl) (fun p => vfn_one _) ?_ ?_
      · rintro p L w1 ⟨hsz, hB, v, g, h_l⟩ hk
        have L10 : L 10 = false := hk.1
        rw [L10] at g
        try simp only [cond_true, cond_false] at g
        exact g
      · rintro p L w1 ⟨hsz, hB, v, g, h_l⟩ hk
        have L10 : L 10 = false := hk.1
        skip
        refine ⟨(by simpa using hsz), ?_, v.rowOther (by first | exact ne_v_g | exact Ne.symm ne_g_v | omega) _, ?_, fun hl => ⟨(h_l hl).1, (h_l hl).2.rowOther (Nat.ne_of_gt (Nat.lt_of_lt_of_le lt_g (h_l hl).1)) _⟩⟩
        · rw [show upL L 10 10 = true from rfl]
          rw [L10] at hB
          have hB2 := rowBoth hB b (qfn (drF G R))
          try simp only [cond_true, cond_false] at hB2 ⊢
          try rw [setRow_setRow] at hB2
          exact hB2
        · rw [show upL L 10 10 = true from rfl]
          exact g.row _
    exact AllI.nil
  case hV0 =>
    intro p q
    refine AllI.cons ?_ ?_
    · skip
      iterate 11 (refine AllI.cons (by first | exact .inl rfl | (refine .inr ?_; simp only [List.getD_cons_zero, List.getD_cons_succ]; done) | exact .inr rfl) ?_)
      exact AllI.nil
    exact AllI.nil
  case he =>
  clear hB v g
  rintro p w1r ⟨hsz, hB, v, g, h_l⟩
  obtain ⟨le_l, l⟩ := h_l rfl
  clear h_l
  replace g : blk w1r b (qfn (drF G R)) 88 := g
  replace l : blk w1r (p 6) (row2 (G, R)) 39 := l
  replace hB : Below w.heap.size (w.setRow b (qfn (drF G R))) w1r := hB
  have ne_v_l : w.heap.size ≠ p 6 := Nat.ne_of_lt (Nat.lt_of_lt_of_le lt_v le_l)
  have ne_g_l : b ≠ p 6 := Nat.ne_of_lt (Nat.lt_of_lt_of_le lt_g le_l)
  have ge_l : w.heap.size ≤ p 6 := Nat.le_trans hW0 le_l
  generalize p 6 = l_b at *
  clear lt_v
  clear lt_g
  clear hsz hW0
  go_wp2_with (fail)
  go_ret
  exact ⟨rfl, hB⟩
end Go.Proofs.Ytnkjbdfhdenbcaa
