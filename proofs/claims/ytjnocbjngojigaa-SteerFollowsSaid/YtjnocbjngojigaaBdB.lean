/-
  Bodies: the readers.
-/
import Derived.Test.YtjnocbjngojigaaBdA
set_option linter.unusedSimpArgs false
set_option linter.unusedVariables false
namespace Go.Proofs.Ytjnocbjngojigaa
open Go.RowKit PM Dt
set_option maxRecDepth 100000 in
set_option maxHeartbeats 2000000 in
theorem battitude_any (X : BSt) (lo b : Nat) (w : World) (ho : bod lo b w X) : Calls Try.prog 31 #[.pointer (some ⟨b, 0, none⟩)] w fun e w' => e = .returned (.agg (qfn X.Q)) ∧ Below w.heap.size w w' := by
  obtain ⟨s, hl, hu, hg, hs⟩ := ho
  have NN := Lib.hid (fun w' (hb : Below w.heap.size w w') => bnone_any X.Q X.T s b w' (hg.below hb hg.lt))
  go_enter Try.func31, Try.ntmps31
  go_upto_region 1 with (fail)
  simp only [zero_quat]
  have r : blk (w.alloc (.cells (qfn fun _ => 0) 23)) w.heap.size (qfn fun _ => 0) 23 := blk.new _ _ _
  have hB : Below w.heap.size w (w.alloc (.cells (qfn fun _ => 0) 23)) := by go_grown
  generalize (w.alloc (.cells (qfn fun _ => 0) 23)) = w0 at *
  have g : blk w0 b (bdc (X.Q, X.T, s)) 75 := hg.below hB hg.lt
  go_wp2_with (first
    | (go_at_call 53; with_reducible refine (NN.out _ hB).mono ?_; rintro e w9 ⟨rfl, rfl⟩)
    | (refine wpList_load_part ?hw _ _ rfl _ 0 rfl _ _ g (qfn X.Q) (bd_q X.Q X.T s) _ Try.underlying23 rfl ?hi ?_; (case hw => (first | rfl | (simp [Region.wanted, yielded]; done))); (case hi => (rw [qfn_size]; kernel_rfl)))
    | (refine wpList_store_row rfl _ _ _ rfl _ rfl _ rfl _ _ r (by first | kernel_rfl | (rw [qfn_size]; kernel_rfl)) (by first | rfl | simp only [qfn_size]) (by first | exact qfn_one _ | rfl) ?_))
  refine bodyPost_ret (results_cell_row rfl _ _ _ _ _ _ _ rfl (r.row (qfn X.Q)) Try.underlying23 rfl (by first | kernel_rfl | (rw [qfn_size]; kernel_rfl))) rfl ?_
  refine ⟨?_, Below.setRow hB (by omega) _⟩
  rfl
set_option maxRecDepth 100000 in
set_option maxHeartbeats 2000000 in
theorem btotal_any (X : BSt) (lo b : Nat) (w : World) (ho : bod lo b w X) : Calls Try.prog 29 #[.pointer (some ⟨b, 0, none⟩)] w fun e w' => e = .returned (.agg (vfn X.T)) ∧ Below w.heap.size w w' := by
  obtain ⟨s, hl, hu, hg, hs⟩ := ho
  have NN := Lib.hid (fun w' (hb : Below w.heap.size w w') => bnone_any X.Q X.T s b w' (hg.below hb hg.lt))
  go_enter Try.func29, Try.ntmps29
  go_upto_region 1 with (fail)
  simp only [zero_vec]
  have r : blk (w.alloc (.cells (vfn fun _ => 0) 25)) w.heap.size (vfn fun _ => 0) 25 := blk.new _ _ _
  have hB : Below w.heap.size w (w.alloc (.cells (vfn fun _ => 0) 25)) := by go_grown
  generalize (w.alloc (.cells (vfn fun _ => 0) 25)) = w0 at *
  have g : blk w0 b (bdc (X.Q, X.T, s)) 75 := hg.below hB hg.lt
  go_wp2_with (first
    | (go_at_call 53; with_reducible refine (NN.out _ hB).mono ?_; rintro e w9 ⟨rfl, rfl⟩)
    | (refine wpList_load_part ?hw _ _ rfl _ 4 rfl _ _ g (vfn X.T) (bd_t X.Q X.T s) _ Try.underlying25 rfl ?hi ?_; (case hw => (first | rfl | (simp [Region.wanted, yielded]; done))); (case hi => (rw [vfn_size]; kernel_rfl)))
    | (refine wpList_store_row rfl _ _ _ rfl _ rfl _ rfl _ _ r (by first | kernel_rfl | (rw [vfn_size]; kernel_rfl)) (by first | rfl | simp only [vfn_size]) (by first | exact vfn_one _ | rfl) ?_))
  refine bodyPost_ret (results_cell_row rfl _ _ _ _ _ _ _ rfl (r.row (vfn X.T)) Try.underlying25 rfl (by first | kernel_rfl | (rw [vfn_size]; kernel_rfl))) rfl ?_
  refine ⟨?_, Below.setRow hB (by omega) _⟩
  rfl
set_option maxRecDepth 100000 in
set_option maxHeartbeats 2000000 in
theorem bspeeds_any (X : BSt) (lo b : Nat) (w : World) (ho : bod lo b w X) : Calls Try.prog 36 #[.pointer (some ⟨b, 0, none⟩)] w fun e w' => e = .returned (.agg (qfn X.h)) ∧ Below w.heap.size w w' := by
  obtain ⟨s, hl, hu, hg, hs⟩ := ho
  have NN := Lib.hid (fun w' (hb : Below w.heap.size w w') => bnone_any X.Q X.T s b w' (hg.below hb hg.lt))
  have SP := Lib.hid (fun w1 (hb : Below w.heap.size w w1) => sspeeds_any X.h X.f s w1 (hs.below hb hs.lt))
  go_enter Try.func36, Try.ntmps36
  go_upto_region 1 with (fail)
  simp only [zero_spd]
  have r : blk (w.alloc (.cells (qfn fun _ => 0) 22)) w.heap.size (qfn fun _ => 0) 22 := blk.new _ _ _
  have hB : Below w.heap.size w (w.alloc (.cells (qfn fun _ => 0) 22)) := by go_grown
  generalize (w.alloc (.cells (qfn fun _ => 0) 22)) = w0 at *
  have g : blk w0 b (bdc (X.Q, X.T, s)) 75 := hg.below hB hg.lt
  have sv : blk w0 s (setc (X.h, X.f)) 126 := hs.below hB hs.lt
  have gl := hg.lt
  have sl := hs.lt
  clear hg hs
  have ne_g_sv : b ≠ s := by omega
  have ne_r_g : w.heap.size ≠ b := by omega
  have ne_r_sv : w.heap.size ≠ s := by omega
  have hc : w0.cell? ⟨b, 7, none⟩ = some (.pointer (some ⟨s, 0, none⟩)) := g.cellIs rfl
  go_wp2_with (first
    | (go_at_call 53; with_reducible refine (NN.out _ hB).mono ?_; rintro e w9 ⟨rfl, rfl⟩)
    | (go_at_call 72; with_reducible refine (SP.out _ hB).mono ?_; rintro e wc ⟨rfl, hb⟩; replace hB := hB.trans (hb.mono hB.size); replace r := r.below hb r.lt; clear hb)
    | (refine wpList_store_row rfl _ _ _ rfl _ rfl _ rfl _ _ r (by first | kernel_rfl | (rw [qfn_size]; kernel_rfl)) (by first | rfl | simp only [qfn_size]) (by first | exact qfn_one _ | rfl) ?_))
  refine bodyPost_ret (results_cell_row rfl _ _ _ _ _ _ _ rfl (r.row (qfn X.h)) Try.underlying22 rfl (by first | kernel_rfl | (rw [qfn_size]; kernel_rfl))) rfl ?_
  refine ⟨?_, Below.setRow hB (by omega) _⟩
  rfl
set_option maxRecDepth 100000 in
set_option maxHeartbeats 2000000 in
theorem bfailed_any (X : BSt) (lo b : Nat) (w : World) (ho : bod lo b w X) : Calls Try.prog 35 #[.pointer (some ⟨b, 0, none⟩)] w fun e w' => e = .returned (.int .i64 X.f) ∧ Below w.heap.size w w' := by
  obtain ⟨s, hl, hu, hg, hs⟩ := ho
  have NN := Lib.hid (fun w' (hb : Below w.heap.size w w') => bnone_any X.Q X.T s b w' (hg.below hb hg.lt))
  have SP := Lib.hid (fun w1 (hb : Below w.heap.size w w1) => sfailed_any X.h X.f s w1 (hs.below hb hs.lt))
  have hB : Below w.heap.size w w := Below.refl _ _
  have hc : w.cell? ⟨b, 7, none⟩ = some (.pointer (some ⟨s, 0, none⟩)) := hg.cellIs rfl
  go_enter Try.func35, Try.ntmps35
  go_wp2_with (first
    | (go_at_call 53; with_reducible refine (NN.out _ hB).mono ?_; rintro e w9 ⟨rfl, rfl⟩)
    | (go_at_call 71; with_reducible refine (SP.out _ hB).mono ?_; rintro e wc ⟨rfl, hb⟩; replace hB := hB.trans (hb.mono hB.size); clear hb))
  go_ret
  exact ⟨rfl, hB⟩
set_option maxRecDepth 100000 in
set_option maxHeartbeats 4000000 in
theorem bmom_any (X : BSt) (lo b : Nat) (w : World) (ho : bod lo b w X) (hQ : ∀ i, i < 4 → I64 (X.Q i)) (hI : SI X.h X.f) : Calls Try.prog 28 #[.pointer (some ⟨b, 0, none⟩)] w fun e w' => e = .returned (.agg (vfn (momF X))) ∧ Below w.heap.size w w' := by
  obtain ⟨s, hl, hu, hg, hs⟩ := ho
  have NN := Lib.hid (fun w' (hb : Below w.heap.size w w') => bnone_any X.Q X.T s b w' (hg.below hb hg.lt))
  have BA := Lib.hid (fun w => qback_any X.Q X.T w hQ)
  have SU := Lib.hid (fun w1 (hb : blk w1 s (setc (X.h, X.f)) 126) => ssum_any X.h X.f s w1 hb hI)
  have SB := Lib.hid (fun w => vsub_any (qbackF X.Q X.T) (sumW X.h) w)
  clear hQ hI
  rw [show vsubF (qbackF X.Q X.T) (sumW X.h) = momF X from rfl] at SB
  go_enter Try.func28, Try.ntmps28
  go_upto_region 1 with (fail)
  simp only [zero_vec]
  have r : blk (w.alloc (.cells (vfn fun _ => 0) 25)) w.heap.size (vfn fun _ => 0) 25 := blk.new _ _ _
  have hB : Below w.heap.size w (w.alloc (.cells (vfn fun _ => 0) 25)) := by go_grown
  generalize (w.alloc (.cells (vfn fun _ => 0) 25)) = w0 at *
  have g : blk w0 b (bdc (X.Q, X.T, s)) 75 := hg.below hB hg.lt
  have sv : blk w0 s (setc (X.h, X.f)) 126 := hs.below hB hs.lt
  have gl := hg.lt
  have sl := hs.lt
  clear hg hs
  have ne_g_sv : b ≠ s := by omega
  have ne_r_g : w.heap.size ≠ b := by omega
  have ne_r_sv : w.heap.size ≠ s := by omega
  go_upto_region 3 with (first
    | (go_at_call 53; with_reducible refine (NN.out _ hB).mono ?_; rintro e w9 ⟨rfl, rfl⟩))
  clear NN
  have lt_r := r.lt
  have lt_g := g.lt
  have lt_sv := sv.lt
  have hW0 : w.heap.size ≤ w0.heap.size := by simpa using hB.size
  apply wp_region_I 17 [0, 1, 3, 7, 15, 0, 32, 96, 224, 480, 1023, 2047, 4095, 4095, 0, 24575, 65535] [14] [_, _, _, _, _, _, _, _, _, _, _, _, _, _, (fun p => .pointer (some ⟨p 14, 0, none⟩)), (fun _ => undef), _] (fun p L w' => w0.heap.size ≤ w'.heap.size ∧ Below w.heap.size w w' ∧ blk w' w.heap.size (vfn fun _ => 0) 25 ∧ blk w' b (bdc (X.Q, X.T, s)) 75 ∧ blk w' s (setc (X.h, X.f)) 126 ∧ (L 14 = true → w0.heap.size ≤ p 14 ∧ blk w' (p 14) (bif L 15 then (vfn (qbackF X.Q X.T)) else (vfn fun _ => 0)) 25)) _ [(0, 11), (1, 12), (2, 13), (3, 14), (4, 15), (5, 16), (6, 17), (7, 18), (8, 19), (9, 20), (10, 21), (11, 10), (12, 22), (13, 23), (14, 3), (16, 4)] [0, 1, 2, 3, 4, 5, 6, 7, 8, 9, 10, 11, 12, 13, 14, 15, 16]
  case hn => rfl
  case hm => kernel_rfl
  case hB => kernel_rfl
  case hds => kernel_rfl
  case hA => (intro p; simp only [putsD, Act.put, sIT, sCZ, sCS, List.getD_cons_zero, List.getD_cons_succ]; exact rfl)
  case h0 => exact fun p => ⟨Nat.le_refl _, hB.drew, r.drew, g.drew, sv.drew, fun h => absurd h (by decide)⟩
  case hmore => exact fun p L w1 w2 ⟨hsz, hB, r, g, sv, h_x⟩ hm => ⟨Nat.le_trans hsz hm.size, hB.trans (hm.mono (Nat.le_trans hW0 hsz)), r.below hm r.lt, g.below hm g.lt, sv.below hm sv.lt, fun hl => ⟨(h_x hl).1, (h_x hl).2.below hm (h_x hl).2.lt⟩⟩
  case hs =>
    intro more
    refine stepV 0 rfl rfl (fun _ _ _ h => h) ?_ ?_
    · intros; go_simp; exact ⟨rfl, rfl⟩
    refine stepV 1 rfl rfl (fun _ _ _ h => h) ?_ ?_
    · intros; go_simp; exact ⟨rfl, rfl⟩
    refine stepV 2 rfl rfl (fun _ _ _ h => h) ?_ ?_
    · intros; go_simp; exact ⟨rfl, rfl⟩
    refine stepV 3 rfl rfl (fun _ _ _ h => h) ?_ ?_
    · intros; go_simp; exact ⟨rfl, rfl⟩
    refine stepV 4 rfl rfl (fun _ _ _ h => h) ?_ ?_
    · rintro p L w1 ⟨hsz, hB, r, g, sv, h_x⟩ hk
      have L15 : L 15 = false := hk.2.2 15 rfl
      exact valR_part _ _ rfl _ 0 rfl _ _ g (qfn X.Q) (bd_q X.Q X.T s) _ Try.underlying23 rfl (by rw [qfn_size]; kernel_rfl) rfl
    refine stepV 5 rfl rfl (fun _ _ _ h => h) ?_ ?_
    · intros; go_simp; exact ⟨rfl, rfl⟩
    refine stepV 6 rfl rfl (fun _ _ _ h => h) ?_ ?_
    · intros; go_simp; exact ⟨rfl, rfl⟩
    refine stepV 7 rfl rfl (fun _ _ _ h => h) ?_ ?_
    · intros; go_simp; exact ⟨rfl, rfl⟩
    refine stepV 8 rfl rfl (fun _ _ _ h => h) ?_ ?_
    · intros; go_simp; exact ⟨rfl, rfl⟩
    refine stepV 9 rfl rfl (fun _ _ _ h => h) ?_ ?_
    · rintro p L w1 ⟨hsz, hB, r, g, sv, h_x⟩ hk
      have L15 : L 15 = false := hk.2.2 15 rfl
      exact valR_part _ _ rfl _ 4 rfl _ _ g (vfn X.T) (bd_t X.Q X.T s) _ Try.underlying25 rfl (by rw [vfn_size]; kernel_rfl) rfl
    refine stepD 10 rfl (fun p => rfl) (fun _ _ _ h => h) more ?_ ?_
    · rintro p L w1 ⟨hsz, hB, r, g, sv, h_x⟩ hk
      go_simp
      refine (BA.out _).mono ?_
      rintro e w2 ⟨rfl, h2⟩
      first | exact ⟨rfl, h2⟩ | (subst h2; exact ⟨rfl, Below.refl _ _⟩)
    refine stepV 11 rfl rfl (fun _ _ _ h => h) ?_ ?_
    · intros; go_simp; exact ⟨rfl, rfl⟩
    refine stepV 12 rfl rfl (fun _ _ _ h => h) ?_ ?_
    · intros; go_simp; exact ⟨rfl, rfl⟩
    refine stepV 13 rfl rfl (fun _ _ _ h => h) ?_ ?_
    · intros; go_simp; exact ⟨rfl, rfl⟩
    refine AllI.cons ?_ ?_
    · refine stepI_alloc 14 rfl (fun p => rfl) rfl (vfn fun _ => 0) 25 (fun p => rfl) ?_ ?_
      · intro p w1
        go_simp
        first | rfl | rw [zero_vec]
      rintro p L w1 ⟨hsz, hB, r, g, sv, h_x⟩ hk
      have L15 : L 15 = false := hk.2.2 15 rfl
      refine ⟨Nat.le_trans hsz (by simp), hB.alloc (Nat.le_trans (by first | exact hW0 | (have := hB.size; simp at this ⊢; omega)) hsz) _, r.alloc _, g.alloc _, sv.alloc _, fun _ => ⟨hsz, ?_⟩⟩
      rw [show upL L 14 15 = false from L15]
      exact blk.new _ _ _
    refine AllI.cons ?_ ?_
    · refine stepI_store 15 rfl (fun p => rfl) (fun p => rfl) _ _ _ rfl (fun p => p 14) 0 (fun p => rfl) (fun p => (vfn (qbackF X.Q X.T))) (fun p => rfl) (fun p => (vfn fun _ => 0)) (fun p => (vfn (qbackF X.Q X.T))) 25 (fun p => over_v _ _) (fun p => by first | (rw [vfn_size, vfn_size]; decide) | simp [vfn_size, vfn_size]) (fun p => by rw [vfn_size]; kernel_rfl) (fun p => vfn_one _) ?_ ?_
      · rintro p L w1 ⟨hsz, hB, r, g, sv, h_x⟩ hk
        have L15 : L 15 = false := hk.1
        have hh := (h_x (hk.2.1 14 rfl)).2
        rw [L15] at hh
        try simp only [cond_true, cond_false] at hh
        exact hh
      · rintro p L w1 ⟨hsz, hB, r, g, sv, h_x⟩ hk
        have L15 : L 15 = false := hk.1
        skip
        have hp := h_x (hk.2.1 14 rfl)
        refine ⟨(by simpa using hsz), Below.setRow hB (by first | exact Nat.le_trans hW0 hp.1 | exact ge_x | omega | (have := hB.size; simp at this ⊢; omega)) _, r.rowOther (by first | exact Nat.ne_of_lt (Nat.lt_of_lt_of_le lt_r hp.1) | omega) _, g.rowOther (by first | exact Nat.ne_of_lt (Nat.lt_of_lt_of_le lt_g hp.1) | omega) _, sv.rowOther (by first | exact Nat.ne_of_lt (Nat.lt_of_lt_of_le lt_sv hp.1) | omega) _, fun _ => ⟨hp.1, ?_⟩⟩
        rw [show upL L 15 15 = true from rfl]
        exact hp.2.row _
    refine stepV 16 rfl rfl (fun _ _ _ h => h) ?_ ?_
    · intros; go_simp; exact ⟨rfl, rfl⟩
    exact AllI.nil
  case hV0 =>
    intro p q
    refine AllI.cons ?_ ?_
    · skip
      iterate 17 (refine AllI.cons (by first | exact .inl rfl | (refine .inr ?_; simp only [List.getD_cons_zero, List.getD_cons_succ]; done) | exact .inr rfl) ?_)
      exact AllI.nil
    exact AllI.nil
  case he =>
  clear hB r g sv
  rintro p w0r ⟨hsz, hB, r, g, sv, h_x⟩
  obtain ⟨le_x, x⟩ := h_x rfl
  clear h_x
  replace x : blk w0r (p 14) (vfn (qbackF X.Q X.T)) 25 := x
  have ne_r_x : w.heap.size ≠ p 14 := Nat.ne_of_lt (Nat.lt_of_lt_of_le lt_r le_x)
  have ne_g_x : b ≠ p 14 := Nat.ne_of_lt (Nat.lt_of_lt_of_le lt_g le_x)
  have ne_sv_x : s ≠ p 14 := Nat.ne_of_lt (Nat.lt_of_lt_of_le lt_sv le_x)
  have ge_x : w.heap.size ≤ p 14 := Nat.le_trans hW0 le_x
  generalize p 14 = x_b at *
  clear lt_r lt_g lt_sv hsz hW0
  go_upto_region 4 with (fail)
  clear BA
  have lt_r := r.lt
  have lt_g := g.lt
  have lt_sv := sv.lt
  have lt_x := x.lt
  have hW0 : w.heap.size ≤ w0r.heap.size := by simpa using hB.size
  apply wp_region_I 13 [0, 0, 2, 6, 14, 30, 63, 127, 255, 255, 0, 1535, 4095] [10] [_, _, _, _, _, _, _, _, _, _, (fun p => .pointer (some ⟨p 10, 0, none⟩)), (fun _ => undef), _] (fun p L w' => w0r.heap.size ≤ w'.heap.size ∧ Below w.heap.size w w' ∧ blk w' w.heap.size (vfn fun _ => 0) 25 ∧ blk w' b (bdc (X.Q, X.T, s)) 75 ∧ blk w' s (setc (X.h, X.f)) 126 ∧ blk w' x_b (vfn (qbackF X.Q X.T)) 25 ∧ (L 10 = true → w0r.heap.size ≤ p 10 ∧ blk w' (p 10) (bif L 11 then (vfn (momF X)) else (vfn fun _ => 0)) 25)) _ [(0, 25), (1, 26), (2, 27), (3, 28), (4, 29), (5, 30), (6, 31), (7, 24), (8, 32), (9, 33), (10, 5), (12, 6)] [0, 1, 2, 3, 4, 5, 6, 7, 8, 9, 10, 11, 12]
  case hn => rfl
  case hm => kernel_rfl
  case hB => kernel_rfl
  case hds => kernel_rfl
  case hA => (intro p; simp only [putsD, Act.put, sIT, sCZ, sCS, List.getD_cons_zero, List.getD_cons_succ]; exact rfl)
  case h0 => exact fun p => ⟨Nat.le_refl _, hB.drew, r.drew, g.drew, sv.drew, x.drew, fun h => absurd h (by decide)⟩
  case hmore => exact fun p L w1 w2 ⟨hsz, hB, r, g, sv, x, h_y⟩ hm => ⟨Nat.le_trans hsz hm.size, hB.trans (hm.mono (Nat.le_trans hW0 hsz)), r.below hm r.lt, g.below hm g.lt, sv.below hm sv.lt, x.below hm x.lt, fun hl => ⟨(h_y hl).1, (h_y hl).2.below hm (h_y hl).2.lt⟩⟩
  case hs =>
    intro more
    refine stepV 0 rfl rfl (fun _ _ _ h => h) ?_ ?_
    · rintro p L w1 ⟨hsz, hB, r, g, sv, x, h_y⟩ hk
      have L11 : L 11 = false := hk.2.2 11 rfl
      first | exact valR_row _ _ rfl _ rfl _ _ x _ Try.underlying25 rfl (by first | kernel_rfl | (rw [vfn_size]; kernel_rfl)) rfl | (have hc := x.cellIs (vfn_get _ (show 0 < 3 by omega)); go_simp; exact ⟨rfl, rfl⟩)
    refine stepV 1 rfl rfl (fun _ _ _ h => h) ?_ ?_
    · intros; go_simp; exact ⟨rfl, rfl⟩
    refine stepV 2 rfl rfl (fun _ _ _ h => h) ?_ ?_
    · intros; go_simp; exact ⟨rfl, rfl⟩
    refine stepV 3 rfl rfl (fun _ _ _ h => h) ?_ ?_
    · intros; go_simp; exact ⟨rfl, rfl⟩
    refine stepV 4 rfl rfl (fun _ _ _ h => h) ?_ ?_
    · rintro p L w1 ⟨hsz, hB, r, g, sv, x, h_y⟩ hk
      have L11 : L 11 = false := hk.2.2 11 rfl
      have hc : w1.cell? ⟨b, 7, none⟩ = some (.pointer (some ⟨s, 0, none⟩)) := g.cellIs rfl
      go_simp
      exact ⟨rfl, rfl⟩
    refine stepD 5 rfl (fun p => rfl) (fun _ _ _ h => h) more ?_ ?_
    · rintro p L w1 ⟨hsz, hB, r, g, sv, x, h_y⟩ hk
      have L11 : L 11 = false := hk.2.2 11 rfl
      go_simp
      refine (SU.out _ sv).mono ?_
      rintro e w2 ⟨rfl, h2⟩
      first | exact ⟨rfl, h2⟩ | (subst h2; exact ⟨rfl, Below.refl _ _⟩)
    refine stepD 6 rfl (fun p => rfl) (fun _ _ _ h => h) more ?_ ?_
    · rintro p L w1 ⟨hsz, hB, r, g, sv, x, h_y⟩ hk
      go_simp
      refine (SB.out _).mono ?_
      rintro e w2 ⟨rfl, h2⟩
      first | exact ⟨rfl, h2⟩ | (subst h2; exact ⟨rfl, Below.refl _ _⟩)
    refine stepV 7 rfl rfl (fun _ _ _ h => h) ?_ ?_
    · intros; go_simp; exact ⟨rfl, rfl⟩
    refine stepV 8 rfl rfl (fun _ _ _ h => h) ?_ ?_
    · intros; go_simp; exact ⟨rfl, rfl⟩
    refine stepV 9 rfl rfl (fun _ _ _ h => h) ?_ ?_
    · intros; go_simp; exact ⟨rfl, rfl⟩
    refine AllI.cons ?_ ?_
    · refine stepI_alloc 10 rfl (fun p => rfl) rfl (vfn fun _ => 0) 25 (fun p => rfl) ?_ ?_
      · intro p w1
        go_simp
        first | rfl | rw [zero_vec]
      rintro p L w1 ⟨hsz, hB, r, g, sv, x, h_y⟩ hk
      have L11 : L 11 = false := hk.2.2 11 rfl
      refine ⟨Nat.le_trans hsz (by simp), hB.alloc (Nat.le_trans (by first | exact hW0 | (have := hB.size; simp at this ⊢; omega)) hsz) _, r.alloc _, g.alloc _, sv.alloc _, x.alloc _, fun _ => ⟨hsz, ?_⟩⟩
      rw [show upL L 10 11 = false from L11]
      exact blk.new _ _ _
    refine AllI.cons ?_ ?_
    · refine stepI_store 11 rfl (fun p => rfl) (fun p => rfl) _ _ _ rfl (fun p => p 10) 0 (fun p => rfl) (fun p => (vfn (momF X))) (fun p => rfl) (fun p => (vfn fun _ => 0)) (fun p => (vfn (momF X))) 25 (fun p => over_v _ _) (fun p => by first | (rw [vfn_size, vfn_size]; decide) | simp [vfn_size, vfn_size]) (fun p => by rw [vfn_size]; kernel_rfl) (fun p => vfn_one _) ?_ ?_
      · rintro p L w1 ⟨hsz, hB, r, g, sv, x, h_y⟩ hk
        have L11 : L 11 = false := hk.1
        have hh := (h_y (hk.2.1 10 rfl)).2
        rw [L11] at hh
        try simp only [cond_true, cond_false] at hh
        exact hh
      · rintro p L w1 ⟨hsz, hB, r, g, sv, x, h_y⟩ hk
        have L11 : L 11 = false := hk.1
        skip
        have hp := h_y (hk.2.1 10 rfl)
        refine ⟨(by simpa using hsz), Below.setRow hB (by first | exact Nat.le_trans hW0 hp.1 | exact ge_y | omega | (have := hB.size; simp at this ⊢; omega)) _, r.rowOther (by first | exact Nat.ne_of_lt (Nat.lt_of_lt_of_le lt_r hp.1) | omega) _, g.rowOther (by first | exact Nat.ne_of_lt (Nat.lt_of_lt_of_le lt_g hp.1) | omega) _, sv.rowOther (by first | exact Nat.ne_of_lt (Nat.lt_of_lt_of_le lt_sv hp.1) | omega) _, x.rowOther (by first | exact Nat.ne_of_lt (Nat.lt_of_lt_of_le lt_x hp.1) | omega) _, fun _ => ⟨hp.1, ?_⟩⟩
        rw [show upL L 11 11 = true from rfl]
        exact hp.2.row _
    refine stepV 12 rfl rfl (fun _ _ _ h => h) ?_ ?_
    · intros; go_simp; exact ⟨rfl, rfl⟩
    exact AllI.nil
  case hV0 =>
    intro p q
    refine AllI.cons ?_ ?_
    · skip
      iterate 13 (refine AllI.cons (by first | exact .inl rfl | (refine .inr ?_; simp only [List.getD_cons_zero, List.getD_cons_succ]; done) | exact .inr rfl) ?_)
      exact AllI.nil
    exact AllI.nil
  case he =>
  clear hB r g sv x
  rintro p w0rr ⟨hsz, hB, r, g, sv, x, h_y⟩
  obtain ⟨le_y, y⟩ := h_y rfl
  clear h_y
  replace y : blk w0rr (p 10) (vfn (momF X)) 25 := y
  have ne_r_y : w.heap.size ≠ p 10 := Nat.ne_of_lt (Nat.lt_of_lt_of_le lt_r le_y)
  have ne_g_y : b ≠ p 10 := Nat.ne_of_lt (Nat.lt_of_lt_of_le lt_g le_y)
  have ne_sv_y : s ≠ p 10 := Nat.ne_of_lt (Nat.lt_of_lt_of_le lt_sv le_y)
  have ne_x_y : x_b ≠ p 10 := Nat.ne_of_lt (Nat.lt_of_lt_of_le lt_x le_y)
  have ge_y : w.heap.size ≤ p 10 := Nat.le_trans hW0 le_y
  generalize p 10 = y_b at *
  clear lt_r lt_g lt_sv lt_x hsz hW0 SU SB
  go_wp2_with (first
    | (refine wpList_load_rowG ?hw _ _ rfl _ rfl _ _ _ _ y Try.underlying25 rfl ?hi ?_; (case hw => (first | rfl | (simp [Region.wanted, yielded]; done))); (case hi => (first | kernel_rfl | (rw [vfn_size]; kernel_rfl))))
    | (refine wpList_store_row rfl _ _ _ rfl _ rfl _ rfl _ _ r (by first | kernel_rfl | (rw [vfn_size]; kernel_rfl)) (by first | rfl | simp only [vfn_size]) (by first | exact vfn_one _ | rfl) ?_))
  refine bodyPost_ret (results_cell_row rfl _ _ _ _ _ _ _ rfl (r.row (vfn (momF X))) Try.underlying25 rfl (by first | kernel_rfl | (rw [vfn_size]; kernel_rfl))) rfl ?_
  refine ⟨?_, Below.setRow hB (by omega) _⟩
  rfl
set_option maxRecDepth 100000 in
set_option maxHeartbeats 2000000 in
theorem brate_any (X : BSt) (lo b : Nat) (w : World) (ho : bod lo b w X) (hQ : ∀ i, i < 4 → I64 (X.Q i)) (hI : SI X.h X.f) : Calls Try.prog 37 #[.pointer (some ⟨b, 0, none⟩)] w fun e w' => e = .returned (.agg (vfn (mulF 4 (momF X)))) ∧ Below w.heap.size w w' := by
  have MO := Lib.hid (fun w1 (hb : Below w.heap.size w w1) => bmom_any X lo b w1 (ho.below hb ho.lt) hQ hI)
  have e0 : IntKind.i64.wrap (4 * momF X 0) = mulF 4 (momF X) 0 := by have := mom_ok X.Q X.T X.h 0 (by omega); rw [IntKind.wrap_i64]; unfold mulF momF; omega
  have e1 : IntKind.i64.wrap (4 * momF X 1) = mulF 4 (momF X) 1 := by have := mom_ok X.Q X.T X.h 1 (by omega); rw [IntKind.wrap_i64]; unfold mulF momF; omega
  have e2 : IntKind.i64.wrap (4 * momF X 2) = mulF 4 (momF X) 2 := by have := mom_ok X.Q X.T X.h 2 (by omega); rw [IntKind.wrap_i64]; unfold mulF momF; omega
  clear hQ hI ho
  generalize momF X = Lm at *
  go_enter Try.func37, Try.ntmps37
  go_upto_region 1 with (fail)
  simp only [zero_vec]
  have r : blk (w.alloc (.cells (vfn fun _ => 0) 25)) w.heap.size (vfn fun _ => 0) 25 := blk.new _ _ _
  have hB : Below w.heap.size w (w.alloc (.cells (vfn fun _ => 0) 25)) := by go_grown
  generalize (w.alloc (.cells (vfn fun _ => 0) 25)) = w0 at *
  have lt_r := r.lt
  have hW0 : w.heap.size ≤ w0.heap.size := by simpa using hB.size
  apply wp_region_Q 4 [0, 1, 3, 7] [2] [_, _, (fun p => .pointer (some ⟨p 2, 0, none⟩)), (fun _ => undef)] (fun p L w' => w0.heap.size ≤ w'.heap.size ∧ Below w.heap.size w w' ∧ blk w' w.heap.size (vfn fun _ => 0) 25 ∧ (L 2 = true → w0.heap.size ≤ p 2 ∧ blk w' (p 2) (bif L 3 then (vfn Lm) else (vfn fun _ => 0)) 25)) _ [(0, 4), (1, 5), (2, 3)] [0, 1, 2, 3]
  case hn => rfl
  case hB => kernel_rfl
  case hds => kernel_rfl
  case hA => (intro p; simp only [putsD, Act.put, sIT, sCZ, sCS, List.getD_cons_zero, List.getD_cons_succ]; exact rfl)
  case h0 => exact fun p => ⟨Nat.le_refl _, hB, r, fun h => absurd h (by decide)⟩
  case hmore => exact fun p L w1 w2 ⟨hsz, hB, r, h_x⟩ hm => ⟨Nat.le_trans hsz hm.size, hB.trans (hm.mono (Nat.le_trans hW0 hsz)), r.below hm r.lt, fun hl => ⟨(h_x hl).1, (h_x hl).2.below hm (h_x hl).2.lt⟩⟩
  case hs =>
    intro more
    refine stepV 0 rfl rfl (fun _ _ _ h => h) ?_ ?_
    · intros; go_simp; exact ⟨rfl, rfl⟩
    refine stepD 1 rfl (fun p => rfl) (fun _ _ _ h => h) more ?_ ?_
    · rintro p L w1 ⟨hsz, hB, r, h_x⟩ hk
      go_simp
      refine (MO.out _ hB).mono ?_
      rintro e w2 ⟨rfl, h2⟩
      first | exact ⟨rfl, h2⟩ | (subst h2; exact ⟨rfl, Below.refl _ _⟩)
    refine AllI.cons ?_ ?_
    · refine stepI_alloc 2 rfl (fun p => rfl) rfl (vfn fun _ => 0) 25 (fun p => rfl) ?_ ?_
      · intro p w1
        go_simp
        first | rfl | rw [zero_vec]
      rintro p L w1 ⟨hsz, hB, r, h_x⟩ hk
      have L3 : L 3 = false := hk.2.2 3 rfl
      refine ⟨Nat.le_trans hsz (by simp), hB.alloc (Nat.le_trans (by first | exact hW0 | (have := hB.size; simp at this ⊢; omega)) hsz) _, r.alloc _, fun _ => ⟨hsz, ?_⟩⟩
      rw [show upL L 2 3 = false from L3]
      exact blk.new _ _ _
    refine AllI.cons ?_ ?_
    · refine stepI_store 3 rfl (fun p => rfl) (fun p => rfl) _ _ _ rfl (fun p => p 2) 0 (fun p => rfl) (fun p => (vfn Lm)) (fun p => rfl) (fun p => (vfn fun _ => 0)) (fun p => (vfn Lm)) 25 (fun p => over_v _ _) (fun p => by first | (rw [vfn_size, vfn_size]; decide) | simp [vfn_size, vfn_size]) (fun p => by rw [vfn_size]; kernel_rfl) (fun p => vfn_one _) ?_ ?_
      · rintro p L w1 ⟨hsz, hB, r, h_x⟩ hk
        have L3 : L 3 = false := hk.1
        have hh := (h_x (hk.2.1 2 rfl)).2
        rw [L3] at hh
        try simp only [cond_true, cond_false] at hh
        exact hh
      · rintro p L w1 ⟨hsz, hB, r, h_x⟩ hk
        have L3 : L 3 = false := hk.1
        skip
        have hp := h_x (hk.2.1 2 rfl)
        refine ⟨(by simpa using hsz), Below.setRow hB (by first | exact Nat.le_trans hW0 hp.1 | exact ge_x | omega | (have := hB.size; simp at this ⊢; omega)) _, r.rowOther (by first | exact Nat.ne_of_lt (Nat.lt_of_lt_of_le lt_r hp.1) | omega) _, fun _ => ⟨hp.1, ?_⟩⟩
        rw [show upL L 3 3 = true from rfl]
        exact hp.2.row _
    exact AllI.nil
  case hV0 =>
    intro p q
    refine AllI.cons ?_ ?_
    · skip
      iterate 4 (refine AllI.cons (by first | exact .inl rfl | (refine .inr ?_; simp only [List.getD_cons_zero, List.getD_cons_succ]; done) | exact .inr rfl) ?_)
      exact AllI.nil
    exact AllI.nil
  case he =>
  clear hB r
  rintro p w0r ⟨hsz, hB, r, h_x⟩
  obtain ⟨le_x, x⟩ := h_x rfl
  clear h_x
  replace x : blk w0r (p 2) (vfn Lm) 25 := x
  have ne_r_x : w.heap.size ≠ p 2 := Nat.ne_of_lt (Nat.lt_of_lt_of_le lt_r le_x)
  have ge_x : w.heap.size ≤ p 2 := Nat.le_trans hW0 le_x
  generalize p 2 = x_b at *
  clear lt_r hsz hW0
  go_upto_region 2 with (fail)
  have lt_r := r.lt
  have lt_x := x.lt
  have hW0 : w.heap.size ≤ w0r.heap.size := by simpa using hB.size
  apply wp_region_Q 11 [0, 1, 3, 7, 15, 31, 63, 127, 255, 511, 1023] [] [_, _, _, _, _, _, _, _, _, _, (fun _ => undef)] (fun p L w' => w0r.heap.size ≤ w'.heap.size ∧ Below w.heap.size w w' ∧ blk w' w.heap.size (bif L 10 then (vfn (mulF 4 Lm)) else (vfn fun _ => 0)) 25 ∧ blk w' x_b (vfn Lm) 25) _ [(0, 6), (1, 7), (2, 8), (3, 9), (4, 10), (5, 11), (6, 12), (7, 13), (8, 14), (9, 15)] [0, 1, 2, 3, 4, 5, 6, 7, 8, 9, 10]
  case hn => rfl
  case hB => kernel_rfl
  case hds => kernel_rfl
  case hA => (intro p; simp only [putsD, Act.put, sIT, sCZ, sCS, List.getD_cons_zero, List.getD_cons_succ]; exact rfl)
  case h0 => exact fun p => ⟨Nat.le_refl _, hB, r, x⟩
  case hmore => exact fun p L w1 w2 ⟨hsz, hB, r, x⟩ hm => ⟨Nat.le_trans hsz hm.size, hB.trans (hm.mono (Nat.le_trans hW0 hsz)), r.below hm r.lt, x.below hm x.lt⟩
  case hs =>
    intro more
    refine stepV 0 rfl rfl (fun _ _ _ h => h) ?_ ?_
    · intros; go_simp; exact ⟨rfl, rfl⟩
    refine stepV 1 rfl rfl (fun _ _ _ h => h) ?_ ?_
    · rintro p L w1 ⟨hsz, hB, r, x⟩ hk
      have L10 : L 10 = false := hk.2.2 10 rfl
      have hc : w1.cell? ⟨x_b, 0, none⟩ = some (.int .i64 (Lm 0)) := x.cellIs (vfn_get _ (by omega))
      go_simp
      exact ⟨rfl, rfl⟩
    refine stepV 2 rfl rfl (fun _ _ _ h => h) ?_ ?_
    · intros; go_simp; exact ⟨rfl, rfl⟩
    refine stepV 3 rfl rfl (fun _ _ _ h => h) ?_ ?_
    · intros; go_simp; exact ⟨rfl, rfl⟩
    refine stepV 4 rfl rfl (fun _ _ _ h => h) ?_ ?_
    · rintro p L w1 ⟨hsz, hB, r, x⟩ hk
      have L10 : L 10 = false := hk.2.2 10 rfl
      have hc : w1.cell? ⟨x_b, 1, none⟩ = some (.int .i64 (Lm 1)) := x.cellIs (vfn_get _ (by omega))
      go_simp
      exact ⟨rfl, rfl⟩
    refine stepV 5 rfl rfl (fun _ _ _ h => h) ?_ ?_
    · intros; go_simp; exact ⟨rfl, rfl⟩
    refine stepV 6 rfl rfl (fun _ _ _ h => h) ?_ ?_
    · intros; go_simp; exact ⟨rfl, rfl⟩
    refine stepV 7 rfl rfl (fun _ _ _ h => h) ?_ ?_
    · rintro p L w1 ⟨hsz, hB, r, x⟩ hk
      have L10 : L 10 = false := hk.2.2 10 rfl
      have hc : w1.cell? ⟨x_b, 2, none⟩ = some (.int .i64 (Lm 2)) := x.cellIs (vfn_get _ (by omega))
      go_simp
      exact ⟨rfl, rfl⟩
    refine stepV 8 rfl rfl (fun _ _ _ h => h) ?_ ?_
    · intros; go_simp; exact ⟨rfl, rfl⟩
    refine stepV 9 rfl rfl (fun _ _ _ h => h) ?_ ?_
    · intros; (try simp only [vfn, qfn]); go_simp; exact ⟨rfl, rfl⟩
    refine AllI.cons ?_ ?_
    · refine stepI_store 10 rfl (fun p => rfl) (fun p => rfl) _ _ _ rfl (fun _ => w.heap.size) 0 (fun p => rfl) (fun p => (vfn (mulF 4 Lm))) (fun p => (congrArg Value.agg (vfn_of (mulF 4 Lm)))) (fun p => (vfn fun _ => 0)) (fun p => (vfn (mulF 4 Lm))) 25 (fun p => over_v _ _) (fun p => by first | (rw [vfn_size, vfn_size]; decide) | simp [vfn_size, vfn_size]) (fun p => by rw [vfn_size]; kernel_rfl) (fun p => vfn_one _) ?_ ?_
      · rintro p L w1 ⟨hsz, hB, r, x⟩ hk
        have L10 : L 10 = false := hk.1
        rw [L10] at r
        try simp only [cond_true, cond_false] at r
        exact r
      · rintro p L w1 ⟨hsz, hB, r, x⟩ hk
        have L10 : L 10 = false := hk.1
        skip
        refine ⟨(by simpa using hsz), Below.setRow hB (by first | exact Nat.le_trans hW0 hp.1 | exact ge_r | omega | (have := hB.size; simp at this ⊢; omega)) _, ?_, x.rowOther (Ne.symm ne_r_x) _⟩
        rw [show upL L 10 10 = true from rfl]
        exact r.row _
    exact AllI.nil
  case hV0 => exact fun p q => AllI.nil
  case he =>
  clear hB r x
  rintro p w0rr ⟨hsz, hB, r, x⟩
  replace r : blk w0rr w.heap.size (vfn (mulF 4 Lm)) 25 := r
  clear lt_r lt_x hsz hW0
  go_wp2_with (fail)
  refine bodyPost_ret (results_cell_row rfl _ _ _ _ _ _ _ rfl r Try.underlying25 rfl (by first | kernel_rfl | (rw [vfn_size]; kernel_rfl))) rfl ?_
  refine ⟨?_, hB⟩
  rfl
set_option maxRecDepth 100000 in
set_option maxHeartbeats 2000000 in
theorem bsee_any (X : BSt) (lo b : Nat) (v : Nat → Int) (w : World) (ho : bod lo b w X) (hQ : ∀ i, i < 4 → I64 (X.Q i)) : Calls Try.prog 17 #[.pointer (some ⟨b, 0, none⟩), .agg (vfn v)] w fun e w' => e = .returned (.tuple #[.agg (vfn (qbackF X.Q v)), .int .i64 (qbackE X.Q v)]) ∧ Below w.heap.size w w' := by
  obtain ⟨s, hl, hu, hg, hs⟩ := ho
  have NN := Lib.hid (fun w' (hb : Below w.heap.size w w') => bnone_any X.Q X.T s b w' (hg.below hb hg.lt))
  have BA := Lib.hid (fun w => qback_any X.Q v w hQ)
  clear hQ
  go_enter Try.func17, Try.ntmps17
  go_upto_region 1 with (fail)
  simp only [zero_vec]
  have a : blk ((w.alloc (.cells (vfn v) 25)).alloc (.cells (vfn fun _ => 0) 25)) w.heap.size (vfn v) 25 := (blk.new _ _ _).alloc _
  have r : blk ((w.alloc (.cells (vfn v) 25)).alloc (.cells (vfn fun _ => 0) 25)) (w.heap.size + 1) (vfn fun _ => 0) 25 := blk.new' (by simp)
  have hB : Below w.heap.size w ((w.alloc (.cells (vfn v) 25)).alloc (.cells (vfn fun _ => 0) 25)) := by go_grown
  generalize ((w.alloc (.cells (vfn v) 25)).alloc (.cells (vfn fun _ => 0) 25)) = w0 at *
  have g : blk w0 b (bdc (X.Q, X.T, s)) 75 := hg.below hB hg.lt
  have sv : blk w0 s (setc (X.h, X.f)) 126 := hs.below hB hs.lt
  have gl := hg.lt
  have sl := hs.lt
  clear hg hs
  have ne_g_sv : b ≠ s := by omega
  have ne_a_g : w.heap.size ≠ b := by omega
  have ne_a_sv : w.heap.size ≠ s := by omega
  have ne_r_g : (w.heap.size + 1) ≠ b := by omega
  have ne_r_sv : (w.heap.size + 1) ≠ s := by omega
  go_upto_region 3 with (first
    | (go_at_call 53; with_reducible refine (NN.out _ hB).mono ?_; rintro e w9 ⟨rfl, rfl⟩))
  clear NN
  have lt_a := a.lt
  have lt_r := r.lt
  have lt_g := g.lt
  have lt_sv := sv.lt
  have hW0 : w.heap.size ≤ w0.heap.size := by simpa using hB.size
  apply wp_region_I 11 [0, 1, 3, 7, 15, 0, 63, 127, 127, 511, 1023] [] [_, _, _, _, _, _, _, _, _, (fun _ => undef), _] (fun p L w' => w0.heap.size ≤ w'.heap.size ∧ Below w.heap.size w w' ∧ blk w' w.heap.size (vfn v) 25 ∧ blk w' (w.heap.size + 1) (bif L 9 then (vfn (qbackF X.Q v)) else (vfn fun _ => 0)) 25 ∧ blk w' b (bdc (X.Q, X.T, s)) 75 ∧ blk w' s (setc (X.h, X.f)) 126) _ [(0, 9), (1, 10), (2, 11), (3, 12), (4, 13), (5, 14), (6, 15), (7, 16), (8, 17), (10, 5)] [0, 1, 2, 3, 4, 5, 6, 7, 8, 9, 10]
  case hn => rfl
  case hm => kernel_rfl
  case hB => kernel_rfl
  case hds => kernel_rfl
  case hA => (intro p; simp only [putsD, Act.put, sIT, sCZ, sCS, List.getD_cons_zero, List.getD_cons_succ]; exact rfl)
  case h0 => exact fun p => ⟨Nat.le_refl _, hB.drew, a.drew, r.drew, g.drew, sv.drew⟩
  case hmore => exact fun p L w1 w2 ⟨hsz, hB, a, r, g, sv⟩ hm => ⟨Nat.le_trans hsz hm.size, hB.trans (hm.mono (Nat.le_trans hW0 hsz)), a.below hm a.lt, r.below hm r.lt, g.below hm g.lt, sv.below hm sv.lt⟩
  case hs =>
    intro more
    refine stepV 0 rfl rfl (fun _ _ _ h => h) ?_ ?_
    · intros; go_simp; exact ⟨rfl, rfl⟩
    refine stepV 1 rfl rfl (fun _ _ _ h => h) ?_ ?_
    · intros; go_simp; exact ⟨rfl, rfl⟩
    refine stepV 2 rfl rfl (fun _ _ _ h => h) ?_ ?_
    · intros; go_simp; exact ⟨rfl, rfl⟩
    refine stepV 3 rfl rfl (fun _ _ _ h => h) ?_ ?_
    · intros; go_simp; exact ⟨rfl, rfl⟩
    refine stepV 4 rfl rfl (fun _ _ _ h => h) ?_ ?_
    · rintro p L w1 ⟨hsz, hB, a, r, g, sv⟩ hk
      have L9 : L 9 = false := hk.2.2 9 rfl
      exact valR_part _ _ rfl _ 0 rfl _ _ g (qfn X.Q) (bd_q X.Q X.T s) _ Try.underlying23 rfl (by rw [qfn_size]; kernel_rfl) rfl
    refine stepV 5 rfl rfl (fun _ _ _ h => h) ?_ ?_
    · rintro p L w1 ⟨hsz, hB, a, r, g, sv⟩ hk
      have L9 : L 9 = false := hk.2.2 9 rfl
      first | exact valR_row _ _ rfl _ rfl _ _ a _ Try.underlying25 rfl (by first | kernel_rfl | (rw [vfn_size]; kernel_rfl)) rfl | (have hc := a.cellIs (vfn_get _ (show 0 < 3 by omega)); go_simp; exact ⟨rfl, rfl⟩)
    refine stepD 6 rfl (fun p => rfl) (fun _ _ _ h => h) more ?_ ?_
    · rintro p L w1 ⟨hsz, hB, a, r, g, sv⟩ hk
      go_simp
      refine (BA.out _).mono ?_
      rintro e w2 ⟨rfl, h2⟩
      first | exact ⟨rfl, h2⟩ | (subst h2; exact ⟨rfl, Below.refl _ _⟩)
    refine stepV 7 rfl rfl (fun _ _ _ h => h) ?_ ?_
    · intros; go_simp; exact ⟨rfl, rfl⟩
    refine stepV 8 rfl rfl (fun _ _ _ h => h) ?_ ?_
    · intros; go_simp; exact ⟨rfl, rfl⟩
    refine AllI.cons ?_ ?_
    · refine stepI_store 9 rfl (fun p => rfl) (fun p => rfl) _ _ _ rfl (fun _ => (w.heap.size + 1)) 0 (fun p => rfl) (fun p => (vfn (qbackF X.Q v))) (fun p => rfl) (fun p => (vfn fun _ => 0)) (fun p => (vfn (qbackF X.Q v))) 25 (fun p => over_v _ _) (fun p => by first | (rw [vfn_size, vfn_size]; decide) | simp [vfn_size, vfn_size]) (fun p => by rw [vfn_size]; kernel_rfl) (fun p => vfn_one _) ?_ ?_
      · rintro p L w1 ⟨hsz, hB, a, r, g, sv⟩ hk
        have L9 : L 9 = false := hk.1
        rw [L9] at r
        try simp only [cond_true, cond_false] at r
        exact r
      · rintro p L w1 ⟨hsz, hB, a, r, g, sv⟩ hk
        have L9 : L 9 = false := hk.1
        skip
        refine ⟨(by simpa using hsz), Below.setRow hB (by first | exact Nat.le_trans hW0 hp.1 | exact ge_r | omega | (have := hB.size; simp at this ⊢; omega)) _, a.rowOther (by first | exact ne_a_r | exact Ne.symm ne_r_a | omega) _, ?_, g.rowOther (Ne.symm ne_r_g) _, sv.rowOther (Ne.symm ne_r_sv) _⟩
        rw [show upL L 9 9 = true from rfl]
        exact r.row _
    refine stepV 10 rfl rfl (fun _ _ _ h => h) ?_ ?_
    · intros; go_simp; exact ⟨rfl, rfl⟩
    exact AllI.nil
  case hV0 => exact fun p q => AllI.nil
  case he =>
  clear hB a r g sv
  rintro p w0r ⟨hsz, hB, a, r, g, sv⟩
  replace r : blk w0r (w.heap.size + 1) (vfn (qbackF X.Q v)) 25 := r
  clear lt_a lt_r lt_g lt_sv hsz hW0
  go_wp2_with (fail)
  refine bodyPost_ret (results_vec rfl _ _ _ _ _ _ _ rfl r Try.underlying25 rfl (by first | kernel_rfl | (rw [vfn_size]; kernel_rfl))) rfl ?_
  refine ⟨?_, hB⟩
  rfl
def failX (X : BSt) (i : Int) : BSt := ⟨X.Q, X.T, failH X.h X.f i, failF X.f i⟩
theorem Save.wide {lo hi lo' hi' : Nat} {a w : World} (h : Save lo hi a w) (h1 : lo' ≤ lo) (h2 : hi ≤ hi') : Save lo' hi' a w := ⟨h.os, h.tape, h.output, h.size, fun k hk ho => h.block k hk (by omega)⟩
end Go.Proofs.Ytjnocbjngojigaa
