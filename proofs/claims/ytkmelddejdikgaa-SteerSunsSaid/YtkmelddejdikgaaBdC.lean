/-
  Bodies: the readers. Bodies: Tick.
-/
import Derived.Test.YtkmelddejdikgaaBdA
set_option linter.unusedSimpArgs false
set_option linter.unusedVariables false
namespace Go.Proofs.Ytkmelddejdikgaa
open Go.RowKit PM Dt
set_option maxRecDepth 100000 in
set_option maxHeartbeats 2000000 in
theorem battitude_any (X : BSt) (lo b : Nat) (w : World) (ho : bod lo b w X) : Calls Try.prog 35 #[.pointer (some ⟨b, 0, none⟩)] w fun e w' => e = .returned (.agg (qfn X.Q)) ∧ Below w.heap.size w w' := by
  obtain ⟨s, hl, hu, hg, hs⟩ := ho
  have NN := Lib.hid (fun w' (hb : Below w.heap.size w w') => bnone_any X.Q X.T s b w' (hg.below hb hg.lt))
  go_enter Try.func35, Try.ntmps35
  go_upto_region 1 with (fail)
  simp only [zero_quat]
  have r : blk (w.alloc (.cells (qfn fun _ => 0) 23)) w.heap.size (qfn fun _ => 0) 23 := blk.new _ _ _
  have hB : Below w.heap.size w (w.alloc (.cells (qfn fun _ => 0) 23)) := by go_grown
  generalize (w.alloc (.cells (qfn fun _ => 0) 23)) = w0 at *
  have g : blk w0 b (bdc (X.Q, X.T, s)) 158 := hg.below hB hg.lt
  go_wp2_with (first
    | (go_at_call 98; with_reducible refine (NN.out _ hB).mono ?_; rintro e w9 ⟨rfl, rfl⟩)
    | (refine wpList_load_part ?hw _ _ rfl _ 0 rfl _ _ g (qfn X.Q) (bd_q X.Q X.T s) _ Try.underlying23 rfl ?hi ?_; (case hw => (first | rfl | (simp [Region.wanted, yielded]; done))); (case hi => (rw [qfn_size]; kernel_rfl)))
    | (refine wpList_store_row rfl _ _ _ rfl _ rfl _ rfl _ _ r (by first | kernel_rfl | (rw [qfn_size]; kernel_rfl)) (by first | rfl | simp only [qfn_size]) (by first | exact qfn_one _ | rfl) ?_))
  refine bodyPost_ret (results_cell_row rfl _ _ _ _ _ _ _ rfl (r.row (qfn X.Q)) Try.underlying23 rfl (by first | kernel_rfl | (rw [qfn_size]; kernel_rfl))) rfl ?_
  refine ⟨?_, Below.setRow hB (by omega) _⟩
  rfl
set_option maxRecDepth 100000 in
set_option maxHeartbeats 2000000 in
theorem btotal_any (X : BSt) (lo b : Nat) (w : World) (ho : bod lo b w X) : Calls Try.prog 89 #[.pointer (some ⟨b, 0, none⟩)] w fun e w' => e = .returned (.agg (vfn X.T)) ∧ Below w.heap.size w w' := by
  obtain ⟨s, hl, hu, hg, hs⟩ := ho
  have NN := Lib.hid (fun w' (hb : Below w.heap.size w w') => bnone_any X.Q X.T s b w' (hg.below hb hg.lt))
  go_enter Try.func89, Try.ntmps89
  go_upto_region 1 with (fail)
  simp only [zero_vec]
  have r : blk (w.alloc (.cells (vfn fun _ => 0) 31)) w.heap.size (vfn fun _ => 0) 31 := blk.new _ _ _
  have hB : Below w.heap.size w (w.alloc (.cells (vfn fun _ => 0) 31)) := by go_grown
  generalize (w.alloc (.cells (vfn fun _ => 0) 31)) = w0 at *
  have g : blk w0 b (bdc (X.Q, X.T, s)) 158 := hg.below hB hg.lt
  go_wp2_with (first
    | (go_at_call 98; with_reducible refine (NN.out _ hB).mono ?_; rintro e w9 ⟨rfl, rfl⟩)
    | (refine wpList_load_part ?hw _ _ rfl _ 4 rfl _ _ g (vfn X.T) (bd_t X.Q X.T s) _ Try.underlying31 rfl ?hi ?_; (case hw => (first | rfl | (simp [Region.wanted, yielded]; done))); (case hi => (rw [vfn_size]; kernel_rfl)))
    | (refine wpList_store_row rfl _ _ _ rfl _ rfl _ rfl _ _ r (by first | kernel_rfl | (rw [vfn_size]; kernel_rfl)) (by first | rfl | simp only [vfn_size]) (by first | exact vfn_one _ | rfl) ?_))
  refine bodyPost_ret (results_cell_row rfl _ _ _ _ _ _ _ rfl (r.row (vfn X.T)) Try.underlying31 rfl (by first | kernel_rfl | (rw [vfn_size]; kernel_rfl))) rfl ?_
  refine ⟨?_, Below.setRow hB (by omega) _⟩
  rfl
set_option maxRecDepth 100000 in
set_option maxHeartbeats 2000000 in
theorem bspeeds_any (X : BSt) (lo b : Nat) (w : World) (ho : bod lo b w X) : Calls Try.prog 91 #[.pointer (some ⟨b, 0, none⟩)] w fun e w' => e = .returned (.agg (qfn X.h)) ∧ Below w.heap.size w w' := by
  obtain ⟨s, hl, hu, hg, hs⟩ := ho
  have NN := Lib.hid (fun w' (hb : Below w.heap.size w w') => bnone_any X.Q X.T s b w' (hg.below hb hg.lt))
  have SP := Lib.hid (fun w1 (hb : Below w.heap.size w w1) => sspeeds_any X.h X.f s w1 (hs.below hb hs.lt))
  go_enter Try.func91, Try.ntmps91
  go_upto_region 1 with (fail)
  simp only [zero_spd]
  have r : blk (w.alloc (.cells (qfn fun _ => 0) 22)) w.heap.size (qfn fun _ => 0) 22 := blk.new _ _ _
  have hB : Below w.heap.size w (w.alloc (.cells (qfn fun _ => 0) 22)) := by go_grown
  generalize (w.alloc (.cells (qfn fun _ => 0) 22)) = w0 at *
  have g : blk w0 b (bdc (X.Q, X.T, s)) 158 := hg.below hB hg.lt
  have sv : blk w0 s (setc (X.h, X.f)) 230 := hs.below hB hs.lt
  have gl := hg.lt
  have sl := hs.lt
  clear hg hs
  have ne_g_sv : b ≠ s := by omega
  have ne_r_g : w.heap.size ≠ b := by omega
  have ne_r_sv : w.heap.size ≠ s := by omega
  have hc : w0.cell? ⟨b, 7, none⟩ = some (.pointer (some ⟨s, 0, none⟩)) := g.cellIs rfl
  go_wp2_with (first
    | (go_at_call 98; with_reducible refine (NN.out _ hB).mono ?_; rintro e w9 ⟨rfl, rfl⟩)
    | (go_at_call 154; with_reducible refine (SP.out _ hB).mono ?_; rintro e wc ⟨rfl, hb⟩; replace hB := hB.trans (hb.mono hB.size); replace r := r.below hb r.lt; clear hb)
    | (refine wpList_store_row rfl _ _ _ rfl _ rfl _ rfl _ _ r (by first | kernel_rfl | (rw [qfn_size]; kernel_rfl)) (by first | rfl | simp only [qfn_size]) (by first | exact qfn_one _ | rfl) ?_))
  refine bodyPost_ret (results_cell_row rfl _ _ _ _ _ _ _ rfl (r.row (qfn X.h)) Try.underlying22 rfl (by first | kernel_rfl | (rw [qfn_size]; kernel_rfl))) rfl ?_
  refine ⟨?_, Below.setRow hB (by omega) _⟩
  rfl
set_option maxRecDepth 100000 in
set_option maxHeartbeats 2000000 in
theorem bfailed_any (X : BSt) (lo b : Nat) (w : World) (ho : bod lo b w X) : Calls Try.prog 94 #[.pointer (some ⟨b, 0, none⟩)] w fun e w' => e = .returned (.int .i64 X.f) ∧ Below w.heap.size w w' := by
  obtain ⟨s, hl, hu, hg, hs⟩ := ho
  have NN := Lib.hid (fun w' (hb : Below w.heap.size w w') => bnone_any X.Q X.T s b w' (hg.below hb hg.lt))
  have SP := Lib.hid (fun w1 (hb : Below w.heap.size w w1) => sfailed_any X.h X.f s w1 (hs.below hb hs.lt))
  have hB : Below w.heap.size w w := Below.refl _ _
  have hc : w.cell? ⟨b, 7, none⟩ = some (.pointer (some ⟨s, 0, none⟩)) := hg.cellIs rfl
  go_enter Try.func94, Try.ntmps94
  go_wp2_with (first
    | (go_at_call 98; with_reducible refine (NN.out _ hB).mono ?_; rintro e w9 ⟨rfl, rfl⟩)
    | (go_at_call 155; with_reducible refine (SP.out _ hB).mono ?_; rintro e wc ⟨rfl, hb⟩; replace hB := hB.trans (hb.mono hB.size); clear hb))
  go_ret
  exact ⟨rfl, hB⟩
set_option maxRecDepth 100000 in
set_option maxHeartbeats 4000000 in
theorem bmom_any (X : BSt) (lo b : Nat) (w : World) (ho : bod lo b w X) (hQ : ∀ i, i < 4 → I64 (X.Q i)) (hI : SI X.h X.f) : Calls Try.prog 151 #[.pointer (some ⟨b, 0, none⟩)] w fun e w' => e = .returned (.agg (vfn (momF X))) ∧ Below w.heap.size w w' := by
  obtain ⟨s, hl, hu, hg, hs⟩ := ho
  have NN := Lib.hid (fun w' (hb : Below w.heap.size w w') => bnone_any X.Q X.T s b w' (hg.below hb hg.lt))
  have BA := Lib.hid (fun w => qback_any X.Q X.T w hQ)
  have SU := Lib.hid (fun w1 (hb : blk w1 s (setc (X.h, X.f)) 230) => ssum_any X.h X.f s w1 hb hI)
  have SB := Lib.hid (fun w => vsub_any (qbackF X.Q X.T) (sumW X.h) w)
  clear hQ hI
  rw [show vsubF (qbackF X.Q X.T) (sumW X.h) = momF X from rfl] at SB
  go_enter Try.func151, Try.ntmps151
  go_upto_region 1 with (fail)
  simp only [zero_vec]
  have r : blk (w.alloc (.cells (vfn fun _ => 0) 31)) w.heap.size (vfn fun _ => 0) 31 := blk.new _ _ _
  have hB : Below w.heap.size w (w.alloc (.cells (vfn fun _ => 0) 31)) := by go_grown
  generalize (w.alloc (.cells (vfn fun _ => 0) 31)) = w0 at *
  have g : blk w0 b (bdc (X.Q, X.T, s)) 158 := hg.below hB hg.lt
  have sv : blk w0 s (setc (X.h, X.f)) 230 := hs.below hB hs.lt
  have gl := hg.lt
  have sl := hs.lt
  clear hg hs
  have ne_g_sv : b ≠ s := by omega
  have ne_r_g : w.heap.size ≠ b := by omega
  have ne_r_sv : w.heap.size ≠ s := by omega
  go_upto_region 3 with (first
    | (go_at_call 98; with_reducible refine (NN.out _ hB).mono ?_; rintro e w9 ⟨rfl, rfl⟩))
  clear NN
  have lt_r := r.lt
  have lt_g := g.lt
  have lt_sv := sv.lt
  have hW0 : w.heap.size ≤ w0.heap.size := by simpa using hB.size
  apply wp_region_I 17 [0, 1, 3, 7, 15, 0, 32, 96, 224, 480, 1023, 2047, 4095, 4095, 0, 24575, 65535] [14] [_, _, _, _, _, _, _, _, _, _, _, _, _, _, (fun p => .pointer (some ⟨p 14, 0, none⟩)), (fun _ => undef), _] (fun p L w' => w0.heap.size ≤ w'.heap.size ∧ Below w.heap.size w w' ∧ blk w' w.heap.size (vfn fun _ => 0) 31 ∧ blk w' b (bdc (X.Q, X.T, s)) 158 ∧ blk w' s (setc (X.h, X.f)) 230 ∧ (L 14 = true → w0.heap.size ≤ p 14 ∧ blk w' (p 14) (bif L 15 then (vfn (qbackF X.Q X.T)) else (vfn fun _ => 0)) 31)) _ [(0, 11), (1, 12), (2, 13), (3, 14), (4, 15), (5, 16), (6, 17), (7, 18), (8, 19), (9, 20), (10, 21), (11, 10), (12, 22), (13, 23), (14, 3), (16, 4)] [0, 1, 2, 3, 4, 5, 6, 7, 8, 9, 10, 11, 12, 13, 14, 15, 16]
  case hn => rfl
  case hm => kernel_rfl
  case hB => kernel_rfl
  case hds => kernel_rfl
  case hA => (intro p; simp only [putsD, Act.put, sIT, sCZ, sCS, gCZ, gCS]; exact rfl)
  case h0 => exact fun p => ⟨Nat.le_refl _, hB.drew, r.drew, g.drew, sv.drew, fun h => absurd h (by decide)⟩
  case hmore => exact fun p L w1 w2 ⟨hsz, hB, r, g, sv, h_x⟩ hm => ⟨Nat.le_trans hsz hm.size, hB.trans (hm.mono (Nat.le_trans hW0 hsz)), r.below hm r.lt, g.below hm g.lt, sv.below hm sv.lt, fun hl => ⟨(h_x hl).1, (h_x hl).2.below hm (h_x hl).2.lt⟩⟩
  case hs =>
    intro more
    refine stepV 0 rfl rfl (fun _ _ _ h => h) ?_ ?_
    · intros; go_simp; exact ⟨rfl, rfl⟩
    refine stepV 1 rfl rfl (fun _ _ _ h => h) ?_ ?_
    · intros; go_simp; exact ⟨rfl, rfl⟩
    refine stepV 2 rfl rfl (fun _ _ _ h => h) ?_ ?_
    · intros; go_simp; exact ⟨rfl, rfl⟩
    refine stepV 3 rfl rfl (fun _ _ _ h => h) ?_ ?_
    · intros; go_simp; exact ⟨rfl, rfl⟩
    refine stepV 4 rfl rfl (fun _ _ _ h => h) ?_ ?_
    · rintro p L w1 ⟨hsz, hB, r, g, sv, h_x⟩ hk
      have L15 : L 15 = false := hk.2.2 15 rfl
      exact valR_part _ _ rfl _ 0 rfl _ _ g (qfn X.Q) (bd_q X.Q X.T s) _ Try.underlying23 rfl (by rw [qfn_size]; kernel_rfl) rfl
    refine stepV 5 rfl rfl (fun _ _ _ h => h) ?_ ?_
    · intros; go_simp; exact ⟨rfl, rfl⟩
    refine stepV 6 rfl rfl (fun _ _ _ h => h) ?_ ?_
    · intros; go_simp; exact ⟨rfl, rfl⟩
    refine stepV 7 rfl rfl (fun _ _ _ h => h) ?_ ?_
    · intros; go_simp; exact ⟨rfl, rfl⟩
    refine stepV 8 rfl rfl (fun _ _ _ h => h) ?_ ?_
    · intros; go_simp; exact ⟨rfl, rfl⟩
    refine stepV 9 rfl rfl (fun _ _ _ h => h) ?_ ?_
    · rintro p L w1 ⟨hsz, hB, r, g, sv, h_x⟩ hk
      have L15 : L 15 = false := hk.2.2 15 rfl
      exact valR_part _ _ rfl _ 4 rfl _ _ g (vfn X.T) (bd_t X.Q X.T s) _ Try.underlying31 rfl (by rw [vfn_size]; kernel_rfl) rfl
    refine stepD 10 rfl (fun p => rfl) (fun _ _ _ h => h) more ?_ ?_
    · rintro p L w1 ⟨hsz, hB, r, g, sv, h_x⟩ hk
      go_simp
      refine (BA.out _).mono ?_
      rintro e w2 ⟨rfl, h2⟩
      first | exact ⟨rfl, h2⟩ | (subst h2; exact ⟨rfl, Below.refl _ _⟩)
    refine stepV 11 rfl rfl (fun _ _ _ h => h) ?_ ?_
    · intros; go_simp; exact ⟨rfl, rfl⟩
    refine stepV 12 rfl rfl (fun _ _ _ h => h) ?_ ?_
    · intros; go_simp; exact ⟨rfl, rfl⟩
    refine stepV 13 rfl rfl (fun _ _ _ h => h) ?_ ?_
    · intros; go_simp; exact ⟨rfl, rfl⟩
    refine AllI.cons ?_ ?_
    · refine stepI_alloc 14 rfl (fun p => rfl) rfl (vfn fun _ => 0) 31 (fun p => rfl) ?_ ?_
      · intro p w1
        go_simp
        first | rfl | rw [zero_vec]
      rintro p L w1 ⟨hsz, hB, r, g, sv, h_x⟩ hk
      have L15 : L 15 = false := hk.2.2 15 rfl
      refine ⟨Nat.le_trans hsz (by simp), hB.alloc (Nat.le_trans (by first | exact hW0 | (have := hB.size; simp at this ⊢; omega)) hsz) _, r.alloc _, g.alloc _, sv.alloc _, fun _ => ⟨hsz, ?_⟩⟩
      rw [show upL L 14 15 = false from L15]
      exact blk.new _ _ _
    refine AllI.cons ?_ ?_
    · refine stepI_store 15 rfl (fun p => rfl) (fun p => rfl) _ _ _ rfl (fun p => p 14) 0 (fun p => rfl) (fun p => (vfn (qbackF X.Q X.T))) (fun p => rfl) (fun p => (vfn fun _ => 0)) (fun p => (vfn (qbackF X.Q X.T))) 31 (fun p => over_v _ _) (fun p => by first | (rw [vfn_size, vfn_size]; decide) | simp [vfn_size, vfn_size]) (fun p => by rw [vfn_size]; kernel_rfl) (fun p => vfn_one _) ?_ ?_
      · rintro p L w1 ⟨hsz, hB, r, g, sv, h_x⟩ hk
        have L15 : L 15 = false := hk.1
        have hh := (h_x (hk.2.1 14 rfl)).2
        rw [L15] at hh
        try simp only [cond_true, cond_false] at hh
        exact hh
      · rintro p L w1 ⟨hsz, hB, r, g, sv, h_x⟩ hk
        have L15 : L 15 = false := hk.1
        skip
        have hp := h_x (hk.2.1 14 rfl)
        refine ⟨(by simpa using hsz), Below.setRow hB (by first | exact Nat.le_trans hW0 hp.1 | exact ge_x | omega | (have := hB.size; simp at this ⊢; omega)) _, r.rowOther (by first | exact Nat.ne_of_lt (Nat.lt_of_lt_of_le lt_r hp.1) | omega) _, g.rowOther (by first | exact Nat.ne_of_lt (Nat.lt_of_lt_of_le lt_g hp.1) | omega) _, sv.rowOther (by first | exact Nat.ne_of_lt (Nat.lt_of_lt_of_le lt_sv hp.1) | omega) _, fun _ => ⟨hp.1, ?_⟩⟩
        rw [show upL L 15 15 = true from rfl]
        exact hp.2.row _
    refine stepV 16 rfl rfl (fun _ _ _ h => h) ?_ ?_
    · intros; go_simp; exact ⟨rfl, rfl⟩
    exact AllI.nil
  case hV0 =>
    intro p q
    refine AllI.cons ?_ ?_
    · skip
      iterate 17 (refine AllI.cons (by first | exact .inl rfl | (refine .inr ?_; simp only [gCZ, gCS]; done) | exact .inr rfl) ?_)
      exact AllI.nil
    exact AllI.nil
  case he =>
  clear hB r g sv
  rintro p w0r ⟨hsz, hB, r, g, sv, h_x⟩
  obtain ⟨le_x, x⟩ := h_x rfl
  clear h_x
  replace x : blk w0r (p 14) (vfn (qbackF X.Q X.T)) 31 := x
  have ne_r_x : w.heap.size ≠ p 14 := Nat.ne_of_lt (Nat.lt_of_lt_of_le lt_r le_x)
  have ne_g_x : b ≠ p 14 := Nat.ne_of_lt (Nat.lt_of_lt_of_le lt_g le_x)
  have ne_sv_x : s ≠ p 14 := Nat.ne_of_lt (Nat.lt_of_lt_of_le lt_sv le_x)
  have ge_x : w.heap.size ≤ p 14 := Nat.le_trans hW0 le_x
  generalize p 14 = x_b at *
  clear lt_r lt_g lt_sv hsz hW0
  go_upto_region 4 with (fail)
  clear BA
  have lt_r := r.lt
  have lt_g := g.lt
  have lt_sv := sv.lt
  have lt_x := x.lt
  have hW0 : w.heap.size ≤ w0r.heap.size := by simpa using hB.size
  apply wp_region_I 13 [0, 0, 2, 6, 14, 30, 63, 127, 255, 255, 0, 1535, 4095] [10] [_, _, _, _, _, _, _, _, _, _, (fun p => .pointer (some ⟨p 10, 0, none⟩)), (fun _ => undef), _] (fun p L w' => w0r.heap.size ≤ w'.heap.size ∧ Below w.heap.size w w' ∧ blk w' w.heap.size (vfn fun _ => 0) 31 ∧ blk w' b (bdc (X.Q, X.T, s)) 158 ∧ blk w' s (setc (X.h, X.f)) 230 ∧ blk w' x_b (vfn (qbackF X.Q X.T)) 31 ∧ (L 10 = true → w0r.heap.size ≤ p 10 ∧ blk w' (p 10) (bif L 11 then (vfn (momF X)) else (vfn fun _ => 0)) 31)) _ [(0, 25), (1, 26), (2, 27), (3, 28), (4, 29), (5, 30), (6, 31), (7, 24), (8, 32), (9, 33), (10, 5), (12, 6)] [0, 1, 2, 3, 4, 5, 6, 7, 8, 9, 10, 11, 12]
  case hn => rfl
  case hm => kernel_rfl
  case hB => kernel_rfl
  case hds => kernel_rfl
  case hA => (intro p; simp only [putsD, Act.put, sIT, sCZ, sCS, gCZ, gCS]; exact rfl)
  case h0 => exact fun p => ⟨Nat.le_refl _, hB.drew, r.drew, g.drew, sv.drew, x.drew, fun h => absurd h (by decide)⟩
  case hmore => exact fun p L w1 w2 ⟨hsz, hB, r, g, sv, x, h_y⟩ hm => ⟨Nat.le_trans hsz hm.size, hB.trans (hm.mono (Nat.le_trans hW0 hsz)), r.below hm r.lt, g.below hm g.lt, sv.below hm sv.lt, x.below hm x.lt, fun hl => ⟨(h_y hl).1, (h_y hl).2.below hm (h_y hl).2.lt⟩⟩
  case hs =>
    intro more
    refine stepV 0 rfl rfl (fun _ _ _ h => h) ?_ ?_
    · rintro p L w1 ⟨hsz, hB, r, g, sv, x, h_y⟩ hk
      have L11 : L 11 = false := hk.2.2 11 rfl
      first | exact valR_row _ _ rfl _ rfl _ _ x _ Try.underlying31 rfl (by first | kernel_rfl | (rw [vfn_size]; kernel_rfl)) rfl | (have hc := x.cellIs (vfn_get _ (show 0 < 3 by omega)); go_simp; exact ⟨rfl, rfl⟩)
    refine stepV 1 rfl rfl (fun _ _ _ h => h) ?_ ?_
    · intros; go_simp; exact ⟨rfl, rfl⟩
    refine stepV 2 rfl rfl (fun _ _ _ h => h) ?_ ?_
    · intros; go_simp; exact ⟨rfl, rfl⟩
    refine stepV 3 rfl rfl (fun _ _ _ h => h) ?_ ?_
    · intros; go_simp; exact ⟨rfl, rfl⟩
    refine stepV 4 rfl rfl (fun _ _ _ h => h) ?_ ?_
    · rintro p L w1 ⟨hsz, hB, r, g, sv, x, h_y⟩ hk
      have L11 : L 11 = false := hk.2.2 11 rfl
      have hc : w1.cell? ⟨b, 7, none⟩ = some (.pointer (some ⟨s, 0, none⟩)) := g.cellIs rfl
      go_simp
      exact ⟨rfl, rfl⟩
    refine stepD 5 rfl (fun p => rfl) (fun _ _ _ h => h) more ?_ ?_
    · rintro p L w1 ⟨hsz, hB, r, g, sv, x, h_y⟩ hk
      have L11 : L 11 = false := hk.2.2 11 rfl
      go_simp
      refine (SU.out _ sv).mono ?_
      rintro e w2 ⟨rfl, h2⟩
      first | exact ⟨rfl, h2⟩ | (subst h2; exact ⟨rfl, Below.refl _ _⟩)
    refine stepD 6 rfl (fun p => rfl) (fun _ _ _ h => h) more ?_ ?_
    · rintro p L w1 ⟨hsz, hB, r, g, sv, x, h_y⟩ hk
      go_simp
      refine (SB.out _).mono ?_
      rintro e w2 ⟨rfl, h2⟩
      first | exact ⟨rfl, h2⟩ | (subst h2; exact ⟨rfl, Below.refl _ _⟩)
    refine stepV 7 rfl rfl (fun _ _ _ h => h) ?_ ?_
    · intros; go_simp; exact ⟨rfl, rfl⟩
    refine stepV 8 rfl rfl (fun _ _ _ h => h) ?_ ?_
    · intros; go_simp; exact ⟨rfl, rfl⟩
    refine stepV 9 rfl rfl (fun _ _ _ h => h) ?_ ?_
    · intros; go_simp; exact ⟨rfl, rfl⟩
    refine AllI.cons ?_ ?_
    · refine stepI_alloc 10 rfl (fun p => rfl) rfl (vfn fun _ => 0) 31 (fun p => rfl) ?_ ?_
      · intro p w1
        go_simp
        first | rfl | rw [zero_vec]
      rintro p L w1 ⟨hsz, hB, r, g, sv, x, h_y⟩ hk
      have L11 : L 11 = false := hk.2.2 11 rfl
      refine ⟨Nat.le_trans hsz (by simp), hB.alloc (Nat.le_trans (by first | exact hW0 | (have := hB.size; simp at this ⊢; omega)) hsz) _, r.alloc _, g.alloc _, sv.alloc _, x.alloc _, fun _ => ⟨hsz, ?_⟩⟩
      rw [show upL L 10 11 = false from L11]
      exact blk.new _ _ _
    refine AllI.cons ?_ ?_
    · refine stepI_store 11 rfl (fun p => rfl) (fun p => rfl) _ _ _ rfl (fun p => p 10) 0 (fun p => rfl) (fun p => (vfn (momF X))) (fun p => rfl) (fun p => (vfn fun _ => 0)) (fun p => (vfn (momF X))) 31 (fun p => over_v _ _) (fun p => by first | (rw [vfn_size, vfn_size]; decide) | simp [vfn_size, vfn_size]) (fun p => by rw [vfn_size]; kernel_rfl) (fun p => vfn_one _) ?_ ?_
      · rintro p L w1 ⟨hsz, hB, r, g, sv, x, h_y⟩ hk
        have L11 : L 11 = false := hk.1
        have hh := (h_y (hk.2.1 10 rfl)).2
        rw [L11] at hh
        try simp only [cond_true, cond_false] at hh
        exact hh
      · rintro p L w1 ⟨hsz, hB, r, g, sv, x, h_y⟩ hk
        have L11 : L 11 = false := hk.1
        skip
        have hp := h_y (hk.2.1 10 rfl)
        refine ⟨(by simpa using hsz), Below.setRow hB (by first | exact Nat.le_trans hW0 hp.1 | exact ge_y | omega | (have := hB.size; simp at this ⊢; omega)) _, r.rowOther (by first | exact Nat.ne_of_lt (Nat.lt_of_lt_of_le lt_r hp.1) | omega) _, g.rowOther (by first | exact Nat.ne_of_lt (Nat.lt_of_lt_of_le lt_g hp.1) | omega) _, sv.rowOther (by first | exact Nat.ne_of_lt (Nat.lt_of_lt_of_le lt_sv hp.1) | omega) _, x.rowOther (by first | exact Nat.ne_of_lt (Nat.lt_of_lt_of_le lt_x hp.1) | omega) _, fun _ => ⟨hp.1, ?_⟩⟩
        rw [show upL L 11 11 = true from rfl]
        exact hp.2.row _
    refine stepV 12 rfl rfl (fun _ _ _ h => h) ?_ ?_
    · intros; go_simp; exact ⟨rfl, rfl⟩
    exact AllI.nil
  case hV0 =>
    intro p q
    refine AllI.cons ?_ ?_
    · skip
      iterate 13 (refine AllI.cons (by first | exact .inl rfl | (refine .inr ?_; simp only [gCZ, gCS]; done) | exact .inr rfl) ?_)
      exact AllI.nil
    exact AllI.nil
  case he =>
  clear hB r g sv x
  rintro p w0rr ⟨hsz, hB, r, g, sv, x, h_y⟩
  obtain ⟨le_y, y⟩ := h_y rfl
  clear h_y
  replace y : blk w0rr (p 10) (vfn (momF X)) 31 := y
  have ne_r_y : w.heap.size ≠ p 10 := Nat.ne_of_lt (Nat.lt_of_lt_of_le lt_r le_y)
  have ne_g_y : b ≠ p 10 := Nat.ne_of_lt (Nat.lt_of_lt_of_le lt_g le_y)
  have ne_sv_y : s ≠ p 10 := Nat.ne_of_lt (Nat.lt_of_lt_of_le lt_sv le_y)
  have ne_x_y : x_b ≠ p 10 := Nat.ne_of_lt (Nat.lt_of_lt_of_le lt_x le_y)
  have ge_y : w.heap.size ≤ p 10 := Nat.le_trans hW0 le_y
  generalize p 10 = y_b at *
  clear lt_r lt_g lt_sv lt_x hsz hW0 SU SB
  go_wp2_with (first
    | (refine wpList_load_rowG ?hw _ _ rfl _ rfl _ _ _ _ y Try.underlying31 rfl ?hi ?_; (case hw => (first | rfl | (simp [Region.wanted, yielded]; done))); (case hi => (first | kernel_rfl | (rw [vfn_size]; kernel_rfl))))
    | (refine wpList_store_row rfl _ _ _ rfl _ rfl _ rfl _ _ r (by first | kernel_rfl | (rw [vfn_size]; kernel_rfl)) (by first | rfl | simp only [vfn_size]) (by first | exact vfn_one _ | rfl) ?_))
  refine bodyPost_ret (results_cell_row rfl _ _ _ _ _ _ _ rfl (r.row (vfn (momF X))) Try.underlying31 rfl (by first | kernel_rfl | (rw [vfn_size]; kernel_rfl))) rfl ?_
  refine ⟨?_, Below.setRow hB (by omega) _⟩
  rfl
set_option maxRecDepth 100000 in
set_option maxHeartbeats 2000000 in
theorem brate_any (X : BSt) (lo b : Nat) (w : World) (ho : bod lo b w X) (hQ : ∀ i, i < 4 → I64 (X.Q i)) (hI : SI X.h X.f) : Calls Try.prog 93 #[.pointer (some ⟨b, 0, none⟩)] w fun e w' => e = .returned (.agg (vfn (mulF 4 (momF X)))) ∧ Below w.heap.size w w' := by
  have MO := Lib.hid (fun w1 (hb : Below w.heap.size w w1) => bmom_any X lo b w1 (ho.below hb ho.lt) hQ hI)
  have e0 : IntKind.i64.wrap (4 * momF X 0) = mulF 4 (momF X) 0 := by have := mom_ok X.Q X.T X.h 0 (by omega); rw [IntKind.wrap_i64]; unfold mulF momF; omega
  have e1 : IntKind.i64.wrap (4 * momF X 1) = mulF 4 (momF X) 1 := by have := mom_ok X.Q X.T X.h 1 (by omega); rw [IntKind.wrap_i64]; unfold mulF momF; omega
  have e2 : IntKind.i64.wrap (4 * momF X 2) = mulF 4 (momF X) 2 := by have := mom_ok X.Q X.T X.h 2 (by omega); rw [IntKind.wrap_i64]; unfold mulF momF; omega
  clear hQ hI ho
  generalize momF X = Lm at *
  go_enter Try.func93, Try.ntmps93
  go_upto_region 1 with (fail)
  simp only [zero_vec]
  have r : blk (w.alloc (.cells (vfn fun _ => 0) 31)) w.heap.size (vfn fun _ => 0) 31 := blk.new _ _ _
  have hB : Below w.heap.size w (w.alloc (.cells (vfn fun _ => 0) 31)) := by go_grown
  generalize (w.alloc (.cells (vfn fun _ => 0) 31)) = w0 at *
  have lt_r := r.lt
  have hW0 : w.heap.size ≤ w0.heap.size := by simpa using hB.size
  apply wp_region_Q 4 [0, 1, 3, 7] [2] [_, _, (fun p => .pointer (some ⟨p 2, 0, none⟩)), (fun _ => undef)] (fun p L w' => w0.heap.size ≤ w'.heap.size ∧ Below w.heap.size w w' ∧ blk w' w.heap.size (vfn fun _ => 0) 31 ∧ (L 2 = true → w0.heap.size ≤ p 2 ∧ blk w' (p 2) (bif L 3 then (vfn Lm) else (vfn fun _ => 0)) 31)) _ [(0, 4), (1, 5), (2, 3)] [0, 1, 2, 3]
  case hn => rfl
  case hB => kernel_rfl
  case hds => kernel_rfl
  case hA => (intro p; simp only [putsD, Act.put, sIT, sCZ, sCS, gCZ, gCS]; exact rfl)
  case h0 => exact fun p => ⟨Nat.le_refl _, hB, r, fun h => absurd h (by decide)⟩
  case hmore => exact fun p L w1 w2 ⟨hsz, hB, r, h_x⟩ hm => ⟨Nat.le_trans hsz hm.size, hB.trans (hm.mono (Nat.le_trans hW0 hsz)), r.below hm r.lt, fun hl => ⟨(h_x hl).1, (h_x hl).2.below hm (h_x hl).2.lt⟩⟩
  case hs =>
    intro more
    refine stepV 0 rfl rfl (fun _ _ _ h => h) ?_ ?_
    · intros; go_simp; exact ⟨rfl, rfl⟩
    refine stepD 1 rfl (fun p => rfl) (fun _ _ _ h => h) more ?_ ?_
    · rintro p L w1 ⟨hsz, hB, r, h_x⟩ hk
      go_simp
      refine (MO.out _ hB).mono ?_
      rintro e w2 ⟨rfl, h2⟩
      first | exact ⟨rfl, h2⟩ | (subst h2; exact ⟨rfl, Below.refl _ _⟩)
    refine AllI.cons ?_ ?_
    · refine stepI_alloc 2 rfl (fun p => rfl) rfl (vfn fun _ => 0) 31 (fun p => rfl) ?_ ?_
      · intro p w1
        go_simp
        first | rfl | rw [zero_vec]
      rintro p L w1 ⟨hsz, hB, r, h_x⟩ hk
      have L3 : L 3 = false := hk.2.2 3 rfl
      refine ⟨Nat.le_trans hsz (by simp), hB.alloc (Nat.le_trans (by first | exact hW0 | (have := hB.size; simp at this ⊢; omega)) hsz) _, r.alloc _, fun _ => ⟨hsz, ?_⟩⟩
      rw [show upL L 2 3 = false from L3]
      exact blk.new _ _ _
    refine AllI.cons ?_ ?_
    · refine stepI_store 3 rfl (fun p => rfl) (fun p => rfl) _ _ _ rfl (fun p => p 2) 0 (fun p => rfl) (fun p => (vfn Lm)) (fun p => rfl) (fun p => (vfn fun _ => 0)) (fun p => (vfn Lm)) 31 (fun p => over_v _ _) (fun p => by first | (rw [vfn_size, vfn_size]; decide) | simp [vfn_size, vfn_size]) (fun p => by rw [vfn_size]; kernel_rfl) (fun p => vfn_one _) ?_ ?_
      · rintro p L w1 ⟨hsz, hB, r, h_x⟩ hk
        have L3 : L 3 = false := hk.1
        have hh := (h_x (hk.2.1 2 rfl)).2
        rw [L3] at hh
        try simp only [cond_true, cond_false] at hh
        exact hh
      · rintro p L w1 ⟨hsz, hB, r, h_x⟩ hk
        have L3 : L 3 = false := hk.1
        skip
        have hp := h_x (hk.2.1 2 rfl)
        refine ⟨(by simpa using hsz), Below.setRow hB (by first | exact Nat.le_trans hW0 hp.1 | exact ge_x | omega | (have := hB.size; simp at this ⊢; omega)) _, r.rowOther (by first | exact Nat.ne_of_lt (Nat.lt_of_lt_of_le lt_r hp.1) | omega) _, fun _ => ⟨hp.1, ?_⟩⟩
        rw [show upL L 3 3 = true from rfl]
        exact hp.2.row _
    exact AllI.nil
  case hV0 =>
    intro p q
    refine AllI.cons ?_ ?_
    · skip
      iterate 4 (refine AllI.cons (by first | exact .inl rfl | (refine .inr ?_; simp only [gCZ, gCS]; done) | exact .inr rfl) ?_)
      exact AllI.nil
    exact AllI.nil
  case he =>
  clear hB r
  rintro p w0r ⟨hsz, hB, r, h_x⟩
  obtain ⟨le_x, x⟩ := h_x rfl
  clear h_x
  replace x : blk w0r (p 2) (vfn Lm) 31 := x
  have ne_r_x : w.heap.size ≠ p 2 := Nat.ne_of_lt (Nat.lt_of_lt_of_le lt_r le_x)
  have ge_x : w.heap.size ≤ p 2 := Nat.le_trans hW0 le_x
  generalize p 2 = x_b at *
  clear lt_r hsz hW0
  go_upto_region 2 with (fail)
  have lt_r := r.lt
  have lt_x := x.lt
  have hW0 : w.heap.size ≤ w0r.heap.size := by simpa using hB.size
  apply wp_region_Q 11 [0, 1, 3, 7, 15, 31, 63, 127, 255, 511, 1023] [] [_, _, _, _, _, _, _, _, _, _, (fun _ => undef)] (fun p L w' => w0r.heap.size ≤ w'.heap.size ∧ Below w.heap.size w w' ∧ blk w' w.heap.size (bif L 10 then (vfn (mulF 4 Lm)) else (vfn fun _ => 0)) 31 ∧ blk w' x_b (vfn Lm) 31) _ [(0, 6), (1, 7), (2, 8), (3, 9), (4, 10), (5, 11), (6, 12), (7, 13), (8, 14), (9, 15)] [0, 1, 2, 3, 4, 5, 6, 7, 8, 9, 10]
  case hn => rfl
  case hB => kernel_rfl
  case hds => kernel_rfl
  case hA => (intro p; simp only [putsD, Act.put, sIT, sCZ, sCS, gCZ, gCS]; exact rfl)
  case h0 => exact fun p => ⟨Nat.le_refl _, hB, r, x⟩
  case hmore => exact fun p L w1 w2 ⟨hsz, hB, r, x⟩ hm => ⟨Nat.le_trans hsz hm.size, hB.trans (hm.mono (Nat.le_trans hW0 hsz)), r.below hm r.lt, x.below hm x.lt⟩
  case hs =>
    intro more
    refine stepV 0 rfl rfl (fun _ _ _ h => h) ?_ ?_
    · intros; go_simp; exact ⟨rfl, rfl⟩
    refine stepV 1 rfl rfl (fun _ _ _ h => h) ?_ ?_
    · rintro p L w1 ⟨hsz, hB, r, x⟩ hk
      have L10 : L 10 = false := hk.2.2 10 rfl
      have hc : w1.cell? ⟨x_b, 0, none⟩ = some (.int .i64 (Lm 0)) := x.cellIs (vfn_get _ (by omega))
      go_simp
      exact ⟨rfl, rfl⟩
    refine stepV 2 rfl rfl (fun _ _ _ h => h) ?_ ?_
    · intros; go_simp; exact ⟨rfl, rfl⟩
    refine stepV 3 rfl rfl (fun _ _ _ h => h) ?_ ?_
    · intros; go_simp; exact ⟨rfl, rfl⟩
    refine stepV 4 rfl rfl (fun _ _ _ h => h) ?_ ?_
    · rintro p L w1 ⟨hsz, hB, r, x⟩ hk
      have L10 : L 10 = false := hk.2.2 10 rfl
      have hc : w1.cell? ⟨x_b, 1, none⟩ = some (.int .i64 (Lm 1)) := x.cellIs (vfn_get _ (by omega))
      go_simp
      exact ⟨rfl, rfl⟩
    refine stepV 5 rfl rfl (fun _ _ _ h => h) ?_ ?_
    · intros; go_simp; exact ⟨rfl, rfl⟩
    refine stepV 6 rfl rfl (fun _ _ _ h => h) ?_ ?_
    · intros; go_simp; exact ⟨rfl, rfl⟩
    refine stepV 7 rfl rfl (fun _ _ _ h => h) ?_ ?_
    · rintro p L w1 ⟨hsz, hB, r, x⟩ hk
      have L10 : L 10 = false := hk.2.2 10 rfl
      have hc : w1.cell? ⟨x_b, 2, none⟩ = some (.int .i64 (Lm 2)) := x.cellIs (vfn_get _ (by omega))
      go_simp
      exact ⟨rfl, rfl⟩
    refine stepV 8 rfl rfl (fun _ _ _ h => h) ?_ ?_
    · intros; go_simp; exact ⟨rfl, rfl⟩
    refine stepV 9 rfl rfl (fun _ _ _ h => h) ?_ ?_
    · intros; (try simp only [vfn, qfn]); go_simp; exact ⟨rfl, rfl⟩
    refine AllI.cons ?_ ?_
    · refine stepI_store 10 rfl (fun p => rfl) (fun p => rfl) _ _ _ rfl (fun _ => w.heap.size) 0 (fun p => rfl) (fun p => (vfn (mulF 4 Lm))) (fun p => (congrArg Value.agg (vfn_of (mulF 4 Lm)))) (fun p => (vfn fun _ => 0)) (fun p => (vfn (mulF 4 Lm))) 31 (fun p => over_v _ _) (fun p => by first | (rw [vfn_size, vfn_size]; decide) | simp [vfn_size, vfn_size]) (fun p => by rw [vfn_size]; kernel_rfl) (fun p => vfn_one _) ?_ ?_
      · rintro p L w1 ⟨hsz, hB, r, x⟩ hk
        have L10 : L 10 = false := hk.1
        rw [L10] at r
        try simp only [cond_true, cond_false] at r
        exact r
      · rintro p L w1 ⟨hsz, hB, r, x⟩ hk
        have L10 : L 10 = false := hk.1
        skip
        refine ⟨(by simpa using hsz), Below.setRow hB (by first | exact Nat.le_trans hW0 hp.1 | exact ge_r | omega | (have := hB.size; simp at this ⊢; omega)) _, ?_, x.rowOther (Ne.symm ne_r_x) _⟩
        rw [show upL L 10 10 = true from rfl]
        exact r.row _
    exact AllI.nil
  case hV0 => exact fun p q => AllI.nil
  case he =>
  clear hB r x
  rintro p w0rr ⟨hsz, hB, r, x⟩
  replace r : blk w0rr w.heap.size (vfn (mulF 4 Lm)) 31 := r
  clear lt_r lt_x hsz hW0
  go_wp2_with (fail)
  refine bodyPost_ret (results_cell_row rfl _ _ _ _ _ _ _ rfl r Try.underlying31 rfl (by first | kernel_rfl | (rw [vfn_size]; kernel_rfl))) rfl ?_
  refine ⟨?_, hB⟩
  rfl
set_option maxRecDepth 100000 in
set_option maxHeartbeats 2000000 in
theorem bsee_any (X : BSt) (lo b : Nat) (v : Nat → Int) (w : World) (ho : bod lo b w X) (hQ : ∀ i, i < 4 → I64 (X.Q i)) : Calls Try.prog 92 #[.pointer (some ⟨b, 0, none⟩), .agg (vfn v)] w fun e w' => e = .returned (.tuple #[.agg (vfn (qbackF X.Q v)), .int .i64 (qbackE X.Q v)]) ∧ Below w.heap.size w w' := by
  obtain ⟨s, hl, hu, hg, hs⟩ := ho
  have NN := Lib.hid (fun w' (hb : Below w.heap.size w w') => bnone_any X.Q X.T s b w' (hg.below hb hg.lt))
  have BA := Lib.hid (fun w => qback_any X.Q v w hQ)
  clear hQ
  go_enter Try.func92, Try.ntmps92
  go_upto_region 1 with (fail)
  simp only [zero_vec]
  have a : blk ((w.alloc (.cells (vfn v) 31)).alloc (.cells (vfn fun _ => 0) 31)) w.heap.size (vfn v) 31 := (blk.new _ _ _).alloc _
  have r : blk ((w.alloc (.cells (vfn v) 31)).alloc (.cells (vfn fun _ => 0) 31)) (w.heap.size + 1) (vfn fun _ => 0) 31 := blk.new' (by simp)
  have hB : Below w.heap.size w ((w.alloc (.cells (vfn v) 31)).alloc (.cells (vfn fun _ => 0) 31)) := by go_grown
  generalize ((w.alloc (.cells (vfn v) 31)).alloc (.cells (vfn fun _ => 0) 31)) = w0 at *
  have g : blk w0 b (bdc (X.Q, X.T, s)) 158 := hg.below hB hg.lt
  have sv : blk w0 s (setc (X.h, X.f)) 230 := hs.below hB hs.lt
  have gl := hg.lt
  have sl := hs.lt
  clear hg hs
  have ne_g_sv : b ≠ s := by omega
  have ne_a_g : w.heap.size ≠ b := by omega
  have ne_a_sv : w.heap.size ≠ s := by omega
  have ne_r_g : (w.heap.size + 1) ≠ b := by omega
  have ne_r_sv : (w.heap.size + 1) ≠ s := by omega
  go_upto_region 3 with (first
    | (go_at_call 98; with_reducible refine (NN.out _ hB).mono ?_; rintro e w9 ⟨rfl, rfl⟩))
  clear NN
  have lt_a := a.lt
  have lt_r := r.lt
  have lt_g := g.lt
  have lt_sv := sv.lt
  have hW0 : w.heap.size ≤ w0.heap.size := by simpa using hB.size
  apply wp_region_I 11 [0, 1, 3, 7, 15, 0, 63, 127, 127, 511, 1023] [] [_, _, _, _, _, _, _, _, _, (fun _ => undef), _] (fun p L w' => w0.heap.size ≤ w'.heap.size ∧ Below w.heap.size w w' ∧ blk w' w.heap.size (vfn v) 31 ∧ blk w' (w.heap.size + 1) (bif L 9 then (vfn (qbackF X.Q v)) else (vfn fun _ => 0)) 31 ∧ blk w' b (bdc (X.Q, X.T, s)) 158 ∧ blk w' s (setc (X.h, X.f)) 230) _ [(0, 9), (1, 10), (2, 11), (3, 12), (4, 13), (5, 14), (6, 15), (7, 16), (8, 17), (10, 5)] [0, 1, 2, 3, 4, 5, 6, 7, 8, 9, 10]
  case hn => rfl
  case hm => kernel_rfl
  case hB => kernel_rfl
  case hds => kernel_rfl
  case hA => (intro p; simp only [putsD, Act.put, sIT, sCZ, sCS, gCZ, gCS]; exact rfl)
  case h0 => exact fun p => ⟨Nat.le_refl _, hB.drew, a.drew, r.drew, g.drew, sv.drew⟩
  case hmore => exact fun p L w1 w2 ⟨hsz, hB, a, r, g, sv⟩ hm => ⟨Nat.le_trans hsz hm.size, hB.trans (hm.mono (Nat.le_trans hW0 hsz)), a.below hm a.lt, r.below hm r.lt, g.below hm g.lt, sv.below hm sv.lt⟩
  case hs =>
    intro more
    refine stepV 0 rfl rfl (fun _ _ _ h => h) ?_ ?_
    · intros; go_simp; exact ⟨rfl, rfl⟩
    refine stepV 1 rfl rfl (fun _ _ _ h => h) ?_ ?_
    · intros; go_simp; exact ⟨rfl, rfl⟩
    refine stepV 2 rfl rfl (fun _ _ _ h => h) ?_ ?_
    · intros; go_simp; exact ⟨rfl, rfl⟩
    refine stepV 3 rfl rfl (fun _ _ _ h => h) ?_ ?_
    · intros; go_simp; exact ⟨rfl, rfl⟩
    refine stepV 4 rfl rfl (fun _ _ _ h => h) ?_ ?_
    · rintro p L w1 ⟨hsz, hB, a, r, g, sv⟩ hk
      have L9 : L 9 = false := hk.2.2 9 rfl
      exact valR_part _ _ rfl _ 0 rfl _ _ g (qfn X.Q) (bd_q X.Q X.T s) _ Try.underlying23 rfl (by rw [qfn_size]; kernel_rfl) rfl
    refine stepV 5 rfl rfl (fun _ _ _ h => h) ?_ ?_
    · rintro p L w1 ⟨hsz, hB, a, r, g, sv⟩ hk
      have L9 : L 9 = false := hk.2.2 9 rfl
      first | exact valR_row _ _ rfl _ rfl _ _ a _ Try.underlying31 rfl (by first | kernel_rfl | (rw [vfn_size]; kernel_rfl)) rfl | (have hc := a.cellIs (vfn_get _ (show 0 < 3 by omega)); go_simp; exact ⟨rfl, rfl⟩)
    refine stepD 6 rfl (fun p => rfl) (fun _ _ _ h => h) more ?_ ?_
    · rintro p L w1 ⟨hsz, hB, a, r, g, sv⟩ hk
      go_simp
      refine (BA.out _).mono ?_
      rintro e w2 ⟨rfl, h2⟩
      first | exact ⟨rfl, h2⟩ | (subst h2; exact ⟨rfl, Below.refl _ _⟩)
    refine stepV 7 rfl rfl (fun _ _ _ h => h) ?_ ?_
    · intros; go_simp; exact ⟨rfl, rfl⟩
    refine stepV 8 rfl rfl (fun _ _ _ h => h) ?_ ?_
    · intros; go_simp; exact ⟨rfl, rfl⟩
    refine AllI.cons ?_ ?_
    · refine stepI_store 9 rfl (fun p => rfl) (fun p => rfl) _ _ _ rfl (fun _ => (w.heap.size + 1)) 0 (fun p => rfl) (fun p => (vfn (qbackF X.Q v))) (fun p => rfl) (fun p => (vfn fun _ => 0)) (fun p => (vfn (qbackF X.Q v))) 31 (fun p => over_v _ _) (fun p => by first | (rw [vfn_size, vfn_size]; decide) | simp [vfn_size, vfn_size]) (fun p => by rw [vfn_size]; kernel_rfl) (fun p => vfn_one _) ?_ ?_
      · rintro p L w1 ⟨hsz, hB, a, r, g, sv⟩ hk
        have L9 : L 9 = false := hk.1
        rw [L9] at r
        try simp only [cond_true, cond_false] at r
        exact r
      · rintro p L w1 ⟨hsz, hB, a, r, g, sv⟩ hk
        have L9 : L 9 = false := hk.1
        skip
        refine ⟨(by simpa using hsz), Below.setRow hB (by first | exact Nat.le_trans hW0 hp.1 | exact ge_r | omega | (have := hB.size; simp at this ⊢; omega)) _, a.rowOther (by first | exact ne_a_r | exact Ne.symm ne_r_a | omega) _, ?_, g.rowOther (Ne.symm ne_r_g) _, sv.rowOther (Ne.symm ne_r_sv) _⟩
        rw [show upL L 9 9 = true from rfl]
        exact r.row _
    refine stepV 10 rfl rfl (fun _ _ _ h => h) ?_ ?_
    · intros; go_simp; exact ⟨rfl, rfl⟩
    exact AllI.nil
  case hV0 => exact fun p q => AllI.nil
  case he =>
  clear hB a r g sv
  rintro p w0r ⟨hsz, hB, a, r, g, sv⟩
  replace r : blk w0r (w.heap.size + 1) (vfn (qbackF X.Q v)) 31 := r
  clear lt_a lt_r lt_g lt_sv hsz hW0
  go_wp2_with (fail)
  refine bodyPost_ret (results_vec rfl _ _ _ _ _ _ _ rfl r Try.underlying31 rfl (by first | kernel_rfl | (rw [vfn_size]; kernel_rfl))) rfl ?_
  refine ⟨?_, hB⟩
  rfl
def failX (X : BSt) (i : Int) : BSt := ⟨X.Q, X.T, failH X.h X.f i, failF X.f i⟩
theorem Save.wide {lo hi lo' hi' : Nat} {a w : World} (h : Save lo hi a w) (h1 : lo' ≤ lo) (h2 : hi ≤ hi') : Save lo' hi' a w := ⟨h.os, h.tape, h.output, h.size, fun k hk ho => h.block k hk (by omega)⟩
end Go.Proofs.Ytkmelddejdikgaa
namespace Go.Proofs.Ytkmelddejdikgaa
open Go.RowKit PM Dt
set_option maxRecDepth 100000 in
set_option maxHeartbeats 2000000 in
theorem btick_no (X : BSt) (lo b : Nat) (c t : Nat → Int) (w : World) (ho : bod lo b w X) (ht : smallB t 1048576 = false) : Calls Try.prog 90 #[.pointer (some ⟨b, 0, none⟩), .agg (qfn c), .agg (vfn t)] w fun e w' => e = .returned (.tuple #[.agg (vfn fun _ => 0), .int .i64 2]) ∧ Below w.heap.size w w' := by
  obtain ⟨s, hl, hu, hg, hs⟩ := ho
  have NN := Lib.hid (fun w' (hb : Below w.heap.size w w') => bnone_any X.Q X.T s b w' (hg.below hb hg.lt))
  go_enter Try.func90, Try.ntmps90
  go_upto_region 1 with (fail)
  simp only [zero_vec]
  have cv : blk (((w.alloc (.cells (qfn c) 22)).alloc (.cells (vfn t) 31)).alloc (.cells (vfn fun _ => 0) 31)) w.heap.size (qfn c) 22 := ((blk.new _ _ _).alloc _).alloc _
  have tv : blk (((w.alloc (.cells (qfn c) 22)).alloc (.cells (vfn t) 31)).alloc (.cells (vfn fun _ => 0) 31)) (w.heap.size + 1) (vfn t) 31 := (blk.new' (by simp)).alloc _
  have r : blk (((w.alloc (.cells (qfn c) 22)).alloc (.cells (vfn t) 31)).alloc (.cells (vfn fun _ => 0) 31)) (w.heap.size + 2) (vfn fun _ => 0) 31 := blk.new' (by simp)
  have hB : Below w.heap.size w (((w.alloc (.cells (qfn c) 22)).alloc (.cells (vfn t) 31)).alloc (.cells (vfn fun _ => 0) 31)) := by go_grown
  generalize (((w.alloc (.cells (qfn c) 22)).alloc (.cells (vfn t) 31)).alloc (.cells (vfn fun _ => 0) 31)) = w0 at *
  have g : blk w0 b (bdc (X.Q, X.T, s)) 158 := hg.below hB hg.lt
  have sv : blk w0 s (setc (X.h, X.f)) 230 := hs.below hB hs.lt
  have gl := hg.lt
  have sl := hs.lt
  clear hg hs
  have ne_g_sv : b ≠ s := by omega
  have ne_cv_g : w.heap.size ≠ b := by omega
  have ne_cv_sv : w.heap.size ≠ s := by omega
  have ne_tv_g : (w.heap.size + 1) ≠ b := by omega
  have ne_tv_sv : (w.heap.size + 1) ≠ s := by omega
  have ne_r_g : (w.heap.size + 2) ≠ b := by omega
  have ne_r_sv : (w.heap.size + 2) ≠ s := by omega
  go_upto_region 3 with (first
    | (go_at_call 98; with_reducible refine (NN.out _ hB).mono ?_; rintro e w9 ⟨rfl, rfl⟩))
  go_wp2_with (first
    | (refine wpList_load_rowG ?hw _ _ rfl _ rfl _ _ _ _ tv Try.underlying31 rfl ?hi ?_; (case hw => (first | rfl | (simp [Region.wanted, yielded]; done))); (case hi => (first | kernel_rfl | (rw [vfn_size]; kernel_rfl)))))
  clear NN
  go_loopg [19] 3 (fun g_ iv wr => ∃ k : Nat, g_ + k = 3 ∧ iv = .int .i64 k ∧ Hid (∀ j, j < k → sb 1048576 (t j) = true) ∧ blk wr w.heap.size (qfn c) 22 ∧ blk wr (w.heap.size + 1) (vfn t) 31 ∧ blk wr (w.heap.size + 1 + 1) (vfn fun _ => 0) 31 ∧ blk wr b (bdc (X.Q, X.T, s)) 158 ∧ blk wr s (setc (X.h, X.f)) 230 ∧ Below w.heap.size w wr)
  case atStart => exact ⟨0, rfl, rfl, fun j hj => by omega, cv, tv, r, g, sv, hB⟩
  case round =>
    clear hB cv tv r g sv
    obtain ⟨k, hk, rfl, hall, cv, tv, r, g, sv, hB⟩ := hrel
    by_cases hkn : k < 3
    · have hdk : decide ((k : Int) < 3) = true := decide_eq_true (by omega)
      have hdk' : decide (k < 3) = true := decide_eq_true (by omega)
      have hw3 : IntKind.i64.wrap ((k : Int) + 1) = ((k + 1 : Nat) : Int) := by rw [IntKind.wrap_i64]; omega
      have hix : Hid (∀ w, (Instr.index 31 (.agg (vfn t)) (.int .i64 k)).run Try.prog w = .ok (.int .i64 (t k)) w) := fun w => vidx3 t hkn w
      by_cases h1 : -1048576 ≤ t k
      · have d1 : decide (t k < -1048576) = false := decide_eq_false (by omega)
        by_cases h2 : t k ≤ 1048576
        · have d2 : decide (1048576 < t k) = false := decide_eq_false (by omega)
          have HV := Lib.hid ((sb_iff _ _).2 ⟨h1, h2⟩)
          clear h1 h2
          go_wp2_with ((refine wpList_index ?hw _ _ _ rfl _ rfl k _ rfl rfl _ hix.out ?_; (case hw => (first | rfl | (simp [Region.wanted, yielded]; done)))))
          go_roundg (3 - (k + 1))
          case rel =>
            refine ⟨k + 1, by omega, rfl, fun j hj => ?_, cv, tv, r, g, sv, hB⟩
            by_cases e : j = k
            · subst e; exact HV.out
            · exact hall.out j (by omega)
          case measure => omega
        · have d2 : decide (1048576 < t k) = true := decide_eq_true (by omega)
          clear h1 h2
          go_wp2_with (first | (refine wpList_index ?hw _ _ _ rfl _ rfl k _ rfl rfl _ hix.out ?_; (case hw => (first | rfl | (simp [Region.wanted, yielded]; done)))) | (rw [zero_vec]; refine wpList_store_row rfl _ _ _ rfl _ rfl _ rfl _ _ r (by first | kernel_rfl | (rw [vfn_size]; kernel_rfl)) (by first | rfl | simp only [vfn_size]) (by first | exact vfn_one _ | rfl) ?_))
          refine bodyPost_ret (results_vec rfl _ _ _ _ _ _ _ rfl (r.row (vfn fun _ => 0)) Try.underlying31 rfl (by rw [vfn_size]; kernel_rfl)) rfl ⟨rfl, Below.setRow hB (by omega) _⟩
      · have d1 : decide (t k < -1048576) = true := decide_eq_true (by omega)
        clear h1
        go_wp2_with (first | (refine wpList_index ?hw _ _ _ rfl _ rfl k _ rfl rfl _ hix.out ?_; (case hw => (first | rfl | (simp [Region.wanted, yielded]; done)))) | (rw [zero_vec]; refine wpList_store_row rfl _ _ _ rfl _ rfl _ rfl _ _ r (by first | kernel_rfl | (rw [vfn_size]; kernel_rfl)) (by first | rfl | simp only [vfn_size]) (by first | exact vfn_one _ | rfl) ?_))
        refine bodyPost_ret (results_vec rfl _ _ _ _ _ _ _ rfl (r.row (vfn fun _ => 0)) Try.underlying31 rfl (by rw [vfn_size]; kernel_rfl)) rfl ⟨rfl, Below.setRow hB (by omega) _⟩
    · obtain rfl : k = 3 := by omega
      exact absurd ((smallB_iff t _).2 hall.out) (by rw [ht]; decide)
set_option maxRecDepth 100000 in
set_option maxHeartbeats 24000000 in
theorem btick_ok (X : BSt) (lo b : Nat) (c t : Nat → Int) (w : World) (ho : bod lo b w X) (hQ : ∀ i, i < 4 → I64 (X.Q i)) (hI : SI X.h X.f) (ht : smallB t 1048576 = true) (hQ2 : ∀ i, i < 4 → I64 ((attG X.Q (tickL X c)) i)) : Calls Try.prog 90 #[.pointer (some ⟨b, 0, none⟩), .agg (qfn c), .agg (vfn t)] w fun e w' => e = .returned (.tuple #[.agg (vfn (bif allB (vaddF X.T (qrotF (attG X.Q (tickL X c)) t)) then (qrotF (attG X.Q (tickL X c)) t) else fun _ => 0)), .int .i64 0]) ∧ bod lo b w' ⟨(attG X.Q (tickL X c)), (bif allB (vaddF X.T (qrotF (attG X.Q (tickL X c)) t)) then (vaddF X.T (qrotF (attG X.Q (tickL X c)) t)) else X.T), tickH X c, X.f⟩ ∧ Save lo b w w' := by
  obtain ⟨s, hl, hu, hg, hs⟩ := ho
  have NN := Lib.hid (fun w' (hb : Below w.heap.size w w') => bnone_any X.Q X.T s b w' (hg.below hb hg.lt))
  have HT := Lib.hid (fun k hk => (sb_iff _ _).1 ((smallB_iff t _).1 ht k hk))
  have ST := Lib.hid (fun w1 (hb : blk w1 s (setc (X.h, X.f)) 230) => sstep_row X.h X.f s c w1 hb hI)
  have MO := Lib.hid (fun w1 (h1 : blk w1 b (bdc (X.Q, X.T, s)) 158) (h2 : blk w1 s (setc (tickH X c, X.f)) 230) => bmom_any ⟨X.Q, X.T, tickH X c, X.f⟩ lo b w1 ⟨s, hl, hu, h1, h2⟩ hQ (hI.step c))
  rw [show momF ⟨X.Q, X.T, tickH X c, X.f⟩ = tickL X c from rfl] at MO
  obtain ⟨z, hz⟩ : ∃ z, zV (tickL X c) = z := ⟨_, rfl⟩
  have EQ := vec_eq0 (tickL X c)
  simp only [hz] at EQ
  have HL := mom_ok X.Q X.T (tickH X c)
  have m0 : IntKind.i64.wrap (2 * tickL X c 0) = mulF 2 (tickL X c) 0 := by have := HL 0 (by omega); rw [IntKind.wrap_i64]; unfold mulF tickL; omega
  have m1 : IntKind.i64.wrap (2 * tickL X c 1) = mulF 2 (tickL X c) 1 := by have := HL 1 (by omega); rw [IntKind.wrap_i64]; unfold mulF tickL; omega
  have m2 : IntKind.i64.wrap (2 * tickL X c 2) = mulF 2 (tickL X c) 2 := by have := HL 2 (by omega); rw [IntKind.wrap_i64]; unfold mulF tickL; omega
  have TU := Lib.hid (fun w => turn_any X.Q (mulF 2 (tickL X c)) w hQ (mom_I X.Q X.T (tickH X c) (k := 2) (by omega)))
  obtain ⟨Q2, hq⟩ : ∃ Q2, Q2 = attG X.Q (tickL X c) := ⟨_, rfl⟩
  rw [← hq] at hQ2 ⊢
  have hqz : Hid (z = true ∧ Q2 = X.Q ∨ z = false ∧ turnF X.Q (mulF 2 (tickL X c)) = Q2) := by
    rw [hq]; unfold attG; rw [hz]; unfold Hid; cases z <;> simp
  have RO := Lib.hid (fun w => qrot_any Q2 t w hQ2)
  have AD := Lib.hid (fun w => vadd_any X.T (qrotF Q2 t) w)
  have AL := Lib.hid (fun w => allowed_any (vaddF X.T (qrotF Q2 t)) w)
  obtain ⟨al, ha⟩ : ∃ al, allB (vaddF X.T (qrotF Q2 t)) = al := ⟨_, rfl⟩
  rw [ha] at AL ⊢
  clear hQ hI ht hz HL hQ2 ha hq
  go_enter Try.func90, Try.ntmps90
  go_upto_region 1 with (fail)
  simp only [zero_vec]
  have cv : blk (((w.alloc (.cells (qfn c) 22)).alloc (.cells (vfn t) 31)).alloc (.cells (vfn fun _ => 0) 31)) w.heap.size (qfn c) 22 := ((blk.new _ _ _).alloc _).alloc _
  have tv : blk (((w.alloc (.cells (qfn c) 22)).alloc (.cells (vfn t) 31)).alloc (.cells (vfn fun _ => 0) 31)) (w.heap.size + 1) (vfn t) 31 := (blk.new' (by simp)).alloc _
  have r : blk (((w.alloc (.cells (qfn c) 22)).alloc (.cells (vfn t) 31)).alloc (.cells (vfn fun _ => 0) 31)) (w.heap.size + 2) (vfn fun _ => 0) 31 := blk.new' (by simp)
  have hB : Below w.heap.size w (((w.alloc (.cells (qfn c) 22)).alloc (.cells (vfn t) 31)).alloc (.cells (vfn fun _ => 0) 31)) := by go_grown
  generalize (((w.alloc (.cells (qfn c) 22)).alloc (.cells (vfn t) 31)).alloc (.cells (vfn fun _ => 0) 31)) = w0 at *
  have g : blk w0 b (bdc (X.Q, X.T, s)) 158 := hg.below hB hg.lt
  have sv : blk w0 s (setc (X.h, X.f)) 230 := hs.below hB hs.lt
  have gl := hg.lt
  have sl := hs.lt
  clear hg hs
  have ne_g_sv : b ≠ s := by omega
  have ne_cv_g : w.heap.size ≠ b := by omega
  have ne_cv_sv : w.heap.size ≠ s := by omega
  have ne_tv_g : (w.heap.size + 1) ≠ b := by omega
  have ne_tv_sv : (w.heap.size + 1) ≠ s := by omega
  have ne_r_g : (w.heap.size + 2) ≠ b := by omega
  have ne_r_sv : (w.heap.size + 2) ≠ s := by omega
  go_upto_region 3 with (first
    | (go_at_call 98; with_reducible refine (NN.out _ hB).mono ?_; rintro e w9 ⟨rfl, rfl⟩))
  go_wp2_with (first
    | (refine wpList_load_rowG ?hw _ _ rfl _ rfl _ _ _ _ tv Try.underlying31 rfl ?hi ?_; (case hw => (first | rfl | (simp [Region.wanted, yielded]; done))); (case hi => (first | kernel_rfl | (rw [vfn_size]; kernel_rfl)))))
  clear NN
  go_loopg [19] 3 (fun g_ iv wr => ∃ k : Nat, g_ + k = 3 ∧ iv = .int .i64 k ∧ blk wr w.heap.size (qfn c) 22 ∧ blk wr (w.heap.size + 1) (vfn t) 31 ∧ blk wr (w.heap.size + 2) (vfn fun _ => 0) 31 ∧ blk wr b (bdc (X.Q, X.T, s)) 158 ∧ blk wr s (setc (X.h, X.f)) 230 ∧ Below w.heap.size w wr)
  case atStart => exact ⟨0, rfl, rfl, cv, tv, r, g, sv, hB⟩
  case round =>
    clear hB cv tv r g sv
    obtain ⟨k, hk, rfl, cv, tv, r, g, sv, hB⟩ := hrel
    by_cases hkn : k < 3
    · have hdk : decide ((k : Int) < 3) = true := decide_eq_true (by omega)
      have hdk' : decide (k < 3) = true := decide_eq_true (by omega)
      have hw3 : IntKind.i64.wrap ((k : Int) + 1) = ((k + 1 : Nat) : Int) := by rw [IntKind.wrap_i64]; omega
      have hix : Hid (∀ w, (Instr.index 31 (.agg (vfn t)) (.int .i64 k)).run Try.prog w = .ok (.int .i64 (t k)) w) := fun w => vidx3 t hkn w
      have HK := HT.out k hkn
      have d1 : decide (t k < -1048576) = false := decide_eq_false (by omega)
      have d2 : decide (1048576 < t k) = false := decide_eq_false (by omega)
      clear HK
      go_wp2_with ((refine wpList_index ?hw _ _ _ rfl _ rfl k _ rfl rfl _ hix.out ?_; (case hw => (first | rfl | (simp [Region.wanted, yielded]; done)))))
      go_roundg (3 - (k + 1))
      case rel => exact ⟨k + 1, by omega, rfl, cv, tv, r, g, sv, hB⟩
      case measure => omega
    · obtain rfl : k = 3 := by omega
      clear HT
      replace hB : Save lo b w wr := Save.of hB
      go_upto_region 9 with (fail)
      have lt_cv := cv.lt
      have lt_tv := tv.lt
      have lt_r := r.lt
      have lt_g := g.lt
      have lt_sv := sv.lt
      have hW0 : w.heap.size ≤ wr.heap.size := by simpa using hB.size
      apply wp_region_I 6 [0, 1, 3, 7, 0, 31] [] [_, _, _, _, _, _] (fun p L w' => wr.heap.size ≤ w'.heap.size ∧ Save lo b w w' ∧ blk w' w.heap.size (qfn c) 22 ∧ blk w' (w.heap.size + 1) (vfn t) 31 ∧ blk w' (w.heap.size + 2) (vfn fun _ => 0) 31 ∧ blk w' b (bdc (X.Q, X.T, s)) 158 ∧ blk w' s (bif L 5 then (setc (tickH X c, X.f)) else (setc (X.h, X.f))) 230) _ [(0, 30), (1, 31), (2, 32), (3, 33), (4, 34), (5, 35)] [0, 1, 2, 3, 4, 5]
      case hn => rfl
      case hm => kernel_rfl
      case hB => kernel_rfl
      case hds => kernel_rfl
      case hA => (intro p; simp only [putsD, Act.put, sIT, sCZ, sCS, gCZ, gCS]; exact rfl)
      case h0 => exact fun p => ⟨Nat.le_refl _, hB.drew, cv.drew, tv.drew, r.drew, g.drew, sv.drew⟩
      case hmore => exact fun p L w1 w2 ⟨hsz, hB, cv, tv, r, g, sv⟩ hm => ⟨Nat.le_trans hsz hm.size, hB.trans (hm.mono (Nat.le_trans hW0 hsz)), cv.below hm cv.lt, tv.below hm tv.lt, r.below hm r.lt, g.below hm g.lt, sv.below hm sv.lt⟩
      case hs =>
        intro more
        refine stepV 0 rfl rfl (fun _ _ _ h => h) ?_ ?_
        · intros; go_simp; exact ⟨rfl, rfl⟩
        refine stepV 1 rfl rfl (fun _ _ _ h => h) ?_ ?_
        · intros; go_simp; exact ⟨rfl, rfl⟩
        refine stepV 2 rfl rfl (fun _ _ _ h => h) ?_ ?_
        · intros; go_simp; exact ⟨rfl, rfl⟩
        refine stepV 3 rfl rfl (fun _ _ _ h => h) ?_ ?_
        · rintro p L w1 ⟨hsz, hB, cv, tv, r, g, sv⟩ hk
          have L5 : L 5 = false := hk.2.2 5 rfl
          have hc : w1.cell? ⟨b, 7, none⟩ = some (.pointer (some ⟨s, 0, none⟩)) := g.cellIs rfl
          go_simp
          exact ⟨rfl, rfl⟩
        refine stepV 4 rfl rfl (fun _ _ _ h => h) ?_ ?_
        · rintro p L w1 ⟨hsz, hB, cv, tv, r, g, sv⟩ hk
          have L5 : L 5 = false := hk.2.2 5 rfl
          first | exact valR_row _ _ rfl _ rfl _ _ cv _ Try.underlying22 rfl (by first | kernel_rfl | (rw [qfn_size]; kernel_rfl)) rfl | (have hc := cv.cellIs (qfn_get _ (show 0 < 4 by omega)); go_simp; exact ⟨rfl, rfl⟩)
        refine AllI.cons ?_ ?_
        · refine stepI_mut 5 rfl (fun p => rfl) (fun _ => s) (fun p => (setc (tickH X c, X.f))) ?_ ?_
          · rintro p L w1 ⟨hsz, hB, cv, tv, r, g, sv⟩ hk
            have L5 : L 5 = false := hk.1
            rw [L5] at sv
            try simp only [cond_true, cond_false] at sv
            go_simp
            refine (ST.out _ sv).mono ?_
            rintro e w2 ⟨rfl, h2⟩
            exact ⟨rfl, h2⟩
          · rintro p L w1 w2 ⟨hsz, hB, cv, tv, r, g, sv⟩ hk hm
            have L5 : L 5 = false := hk.1
            refine ⟨Nat.le_trans hsz (by have := hm.size; simpa using this), (hB.row (by first | exact .inr (Nat.le_trans hW0 hp.1) | exact .inr ge_sv | exact .inl ⟨Nat.le_refl _, Nat.le_refl _⟩ | omega | (have := hB.size; simp at this ⊢; omega)) _).trans (hm.mono (Nat.le_trans hW0 hsz)), (cv.rowOther ne_cv_sv _).below hm (by simpa using cv.lt), (tv.rowOther ne_tv_sv _).below hm (by simpa using tv.lt), (r.rowOther ne_r_sv _).below hm (by simpa using r.lt), (g.rowOther ne_g_sv _).below hm (by simpa using g.lt), ?_⟩
            rw [show upL L 5 5 = true from rfl]
            exact (sv.row _).below hm (by simpa using sv.lt)
        exact AllI.nil
      case hV0 => exact fun p q => AllI.nil
      case he =>
      clear hB cv tv r g sv
      rintro p wrr ⟨hsz, hB, cv, tv, r, g, sv⟩
      replace sv : blk wrr s (setc (tickH X c, X.f)) 230 := sv
      clear lt_cv lt_tv lt_r lt_g lt_sv hsz hW0 ST
      go_upto_region 10 with (fail)
      have lt_cv := cv.lt
      have lt_tv := tv.lt
      have lt_r := r.lt
      have lt_g := g.lt
      have lt_sv := sv.lt
      have hW0 : w.heap.size ≤ wrr.heap.size := by simpa using hB.size
      apply wp_region_Q 4 [0, 1, 3, 7] [2] [_, _, (fun p => .pointer (some ⟨p 2, 0, none⟩)), (fun _ => undef)] (fun p L w' => wrr.heap.size ≤ w'.heap.size ∧ Save lo b w w' ∧ blk w' w.heap.size (qfn c) 22 ∧ blk w' (w.heap.size + 1) (vfn t) 31 ∧ blk w' (w.heap.size + 2) (vfn fun _ => 0) 31 ∧ blk w' b (bdc (X.Q, X.T, s)) 158 ∧ blk w' s (setc (tickH X c, X.f)) 230 ∧ (L 2 = true → wrr.heap.size ≤ p 2 ∧ blk w' (p 2) (bif L 3 then (vfn (tickL X c)) else (vfn fun _ => 0)) 31)) _ [(0, 36), (1, 37), (2, 10)] [0, 1, 2, 3]
      case hn => rfl
      case hB => kernel_rfl
      case hds => kernel_rfl
      case hA => (intro p; simp only [putsD, Act.put, sIT, sCZ, sCS, gCZ, gCS]; exact rfl)
      case h0 => exact fun p => ⟨Nat.le_refl _, hB, cv, tv, r, g, sv, fun h => absurd h (by decide)⟩
      case hmore => exact fun p L w1 w2 ⟨hsz, hB, cv, tv, r, g, sv, h_l⟩ hm => ⟨Nat.le_trans hsz hm.size, hB.trans (hm.mono (Nat.le_trans hW0 hsz)), cv.below hm cv.lt, tv.below hm tv.lt, r.below hm r.lt, g.below hm g.lt, sv.below hm sv.lt, fun hl => ⟨(h_l hl).1, (h_l hl).2.below hm (h_l hl).2.lt⟩⟩
      case hs =>
        intro more
        refine stepV 0 rfl rfl (fun _ _ _ h => h) ?_ ?_
        · intros; go_simp; exact ⟨rfl, rfl⟩
        refine stepD 1 rfl (fun p => rfl) (fun _ _ _ h => h) more ?_ ?_
        · rintro p L w1 ⟨hsz, hB, cv, tv, r, g, sv, h_l⟩ hk
          have L3 : L 3 = false := hk.2.2 3 rfl
          go_simp
          refine (MO.out _ g sv).mono ?_
          rintro e w2 ⟨rfl, h2⟩
          first | exact ⟨rfl, h2⟩ | (subst h2; exact ⟨rfl, Below.refl _ _⟩)
        refine AllI.cons ?_ ?_
        · refine stepI_alloc 2 rfl (fun p => rfl) rfl (vfn fun _ => 0) 31 (fun p => rfl) ?_ ?_
          · intro p w1
            go_simp
            first | rfl | rw [zero_vec]
          rintro p L w1 ⟨hsz, hB, cv, tv, r, g, sv, h_l⟩ hk
          have L3 : L 3 = false := hk.2.2 3 rfl
          refine ⟨Nat.le_trans hsz (by simp), hB.alloc (Nat.le_trans (by first | exact hW0 | (have := hB.size; simp at this ⊢; omega)) hsz) _, cv.alloc _, tv.alloc _, r.alloc _, g.alloc _, sv.alloc _, fun _ => ⟨hsz, ?_⟩⟩
          rw [show upL L 2 3 = false from L3]
          exact blk.new _ _ _
        refine AllI.cons ?_ ?_
        · refine stepI_store 3 rfl (fun p => rfl) (fun p => rfl) _ _ _ rfl (fun p => p 2) 0 (fun p => rfl) (fun p => (vfn (tickL X c))) (fun p => rfl) (fun p => (vfn fun _ => 0)) (fun p => (vfn (tickL X c))) 31 (fun p => over_v _ _) (fun p => by first | (rw [vfn_size, vfn_size]; decide) | simp [vfn_size, vfn_size]) (fun p => by rw [vfn_size]; kernel_rfl) (fun p => vfn_one _) ?_ ?_
          · rintro p L w1 ⟨hsz, hB, cv, tv, r, g, sv, h_l⟩ hk
            have L3 : L 3 = false := hk.1
            have hh := (h_l (hk.2.1 2 rfl)).2
            rw [L3] at hh
            try simp only [cond_true, cond_false] at hh
            exact hh
          · rintro p L w1 ⟨hsz, hB, cv, tv, r, g, sv, h_l⟩ hk
            have L3 : L 3 = false := hk.1
            skip
            have hp := h_l (hk.2.1 2 rfl)
            refine ⟨(by simpa using hsz), hB.row (by first | exact .inr (Nat.le_trans hW0 hp.1) | exact .inr ge_l | exact .inl ⟨Nat.le_refl _, Nat.le_refl _⟩ | omega | (have := hB.size; simp at this ⊢; omega)) _, cv.rowOther (by first | exact Nat.ne_of_lt (Nat.lt_of_lt_of_le lt_cv hp.1) | omega) _, tv.rowOther (by first | exact Nat.ne_of_lt (Nat.lt_of_lt_of_le lt_tv hp.1) | omega) _, r.rowOther (by first | exact Nat.ne_of_lt (Nat.lt_of_lt_of_le lt_r hp.1) | omega) _, g.rowOther (by first | exact Nat.ne_of_lt (Nat.lt_of_lt_of_le lt_g hp.1) | omega) _, sv.rowOther (by first | exact Nat.ne_of_lt (Nat.lt_of_lt_of_le lt_sv hp.1) | omega) _, fun _ => ⟨hp.1, ?_⟩⟩
            rw [show upL L 3 3 = true from rfl]
            exact hp.2.row _
        exact AllI.nil
      case hV0 =>
        intro p q
        refine AllI.cons ?_ ?_
        · skip
          iterate 4 (refine AllI.cons (by first | exact .inl rfl | (refine .inr ?_; simp only [gCZ, gCS]; done) | exact .inr rfl) ?_)
          exact AllI.nil
        exact AllI.nil
      case he =>
      clear hB cv tv r g sv
      rintro p wrrr ⟨hsz, hB, cv, tv, r, g, sv, h_l⟩
      obtain ⟨le_l, l⟩ := h_l rfl
      clear h_l
      replace l : blk wrrr (p 2) (vfn (tickL X c)) 31 := l
      have ne_cv_l : w.heap.size ≠ p 2 := Nat.ne_of_lt (Nat.lt_of_lt_of_le lt_cv le_l)
      have ne_tv_l : (w.heap.size + 1) ≠ p 2 := Nat.ne_of_lt (Nat.lt_of_lt_of_le lt_tv le_l)
      have ne_r_l : (w.heap.size + 2) ≠ p 2 := Nat.ne_of_lt (Nat.lt_of_lt_of_le lt_r le_l)
      have ne_g_l : b ≠ p 2 := Nat.ne_of_lt (Nat.lt_of_lt_of_le lt_g le_l)
      have ne_sv_l : s ≠ p 2 := Nat.ne_of_lt (Nat.lt_of_lt_of_le lt_sv le_l)
      have ge_l : w.heap.size ≤ p 2 := Nat.le_trans hW0 le_l
      generalize p 2 = l_b at *
      clear lt_cv lt_tv lt_r lt_g lt_sv hsz hW0 MO
      rcases hqz.out with ⟨rfl, hq⟩ | ⟨rfl, hq⟩
      case' inl =>
        rw [← hq] at g
        go_upto_region 13 with (first
          | (refine wpList_load_rowG ?hw _ _ rfl _ rfl _ _ _ _ l Try.underlying31 rfl ?hi ?_; (case hw => (first | rfl | (simp [Region.wanted, yielded]; done))); (case hi => (first | kernel_rfl | (rw [vfn_size]; kernel_rfl)))))
        clear EQ hq hqz
      case' inr =>
        rw [hq] at TU
        clear hq hqz
        go_upto_region 12 with (first
          | (refine wpList_load_rowG ?hw _ _ rfl _ rfl _ _ _ _ l Try.underlying31 rfl ?hi ?_; (case hw => (first | rfl | (simp [Region.wanted, yielded]; done))); (case hi => (first | kernel_rfl | (rw [vfn_size]; kernel_rfl)))))
        clear EQ
        have lt_cv := cv.lt
        have lt_tv := tv.lt
        have lt_r := r.lt
        have lt_g := g.lt
        have lt_sv := sv.lt
        have lt_l := l.lt
        have hW0 : w.heap.size ≤ wrrr.heap.size := by simpa using hB.size
        apply wp_region_I 24 [0, 0, 2, 6, 14, 30, 0, 64, 192, 0, 512, 1536, 0, 4096, 12288, 32704, 65534, 131070, 262142, 262142, 524287, 1572863, 3670015, 7864319] [] [_, _, _, _, _, _, _, _, _, _, _, _, _, _, _, _, _, _, _, _, _, _, _, (fun _ => undef)] (fun p L w' => wrrr.heap.size ≤ w'.heap.size ∧ Save lo b w w' ∧ blk w' w.heap.size (qfn c) 22 ∧ blk w' (w.heap.size + 1) (vfn t) 31 ∧ blk w' (w.heap.size + 2) (vfn fun _ => 0) 31 ∧ blk w' b (bif L 23 then (bdc (Q2, X.T, s)) else (bdc (X.Q, X.T, s))) 158 ∧ blk w' s (setc (tickH X c, X.f)) 230 ∧ blk w' l_b (vfn (tickL X c)) 31) _ [(0, 42), (1, 43), (2, 44), (3, 45), (4, 46), (5, 47), (6, 48), (7, 49), (8, 50), (9, 51), (10, 52), (11, 53), (12, 54), (13, 55), (14, 56), (15, 57), (16, 58), (17, 41), (18, 59), (19, 60), (20, 61), (21, 62), (22, 63)] [0, 1, 2, 3, 4, 5, 6, 7, 8, 9, 10, 11, 12, 13, 14, 15, 16, 17, 18, 19, 20, 21, 22, 23]
        case hn => rfl
        case hm => kernel_rfl
        case hB => kernel_rfl
        case hds => kernel_rfl
        case hA => (intro p; simp only [putsD, Act.put, sIT, sCZ, sCS, gCZ, gCS]; exact rfl)
        case h0 => exact fun p => ⟨Nat.le_refl _, hB.drew, cv.drew, tv.drew, r.drew, g.drew, sv.drew, l.drew⟩
        case hmore => exact fun p L w1 w2 ⟨hsz, hB, cv, tv, r, g, sv, l⟩ hm => ⟨Nat.le_trans hsz hm.size, hB.trans (hm.mono (Nat.le_trans hW0 hsz)), cv.below hm cv.lt, tv.below hm tv.lt, r.below hm r.lt, g.below hm g.lt, sv.below hm sv.lt, l.below hm l.lt⟩
        case hs =>
          intro more
          refine stepV 0 rfl rfl (fun _ _ _ h => h) ?_ ?_
          · intros; go_simp; exact ⟨rfl, rfl⟩
          refine stepV 1 rfl rfl (fun _ _ _ h => h) ?_ ?_
          · intros; go_simp; exact ⟨rfl, rfl⟩
          refine stepV 2 rfl rfl (fun _ _ _ h => h) ?_ ?_
          · intros; go_simp; exact ⟨rfl, rfl⟩
          refine stepV 3 rfl rfl (fun _ _ _ h => h) ?_ ?_
          · intros; go_simp; exact ⟨rfl, rfl⟩
          refine stepV 4 rfl rfl (fun _ _ _ h => h) ?_ ?_
          · intros; go_simp; exact ⟨rfl, rfl⟩
          refine stepV 5 rfl rfl (fun _ _ _ h => h) ?_ ?_
          · rintro p L w1 ⟨hsz, hB, cv, tv, r, g, sv, l⟩ hk
            have L23 : L 23 = false := hk.2.2 23 rfl
            rw [L23] at g
            try simp only [cond_true, cond_false] at g
            exact valR_part _ _ rfl _ 0 rfl _ _ g (qfn X.Q) (bd_q X.Q X.T s) _ Try.underlying23 rfl (by rw [qfn_size]; kernel_rfl) rfl
          refine stepV 6 rfl rfl (fun _ _ _ h => h) ?_ ?_
          · intros; go_simp; exact ⟨rfl, rfl⟩
          refine stepV 7 rfl rfl (fun _ _ _ h => h) ?_ ?_
          · rintro p L w1 ⟨hsz, hB, cv, tv, r, g, sv, l⟩ hk
            have L23 : L 23 = false := hk.2.2 23 rfl
            have hc : w1.cell? ⟨l_b, 0, none⟩ = some (.int .i64 (tickL X c 0)) := l.cellIs (vfn_get _ (by omega))
            go_simp
            exact ⟨rfl, rfl⟩
          refine stepV 8 rfl rfl (fun _ _ _ h => h) ?_ ?_
          · intros; go_simp; exact ⟨rfl, rfl⟩
          refine stepV 9 rfl rfl (fun _ _ _ h => h) ?_ ?_
          · intros; go_simp; exact ⟨rfl, rfl⟩
          refine stepV 10 rfl rfl (fun _ _ _ h => h) ?_ ?_
          · rintro p L w1 ⟨hsz, hB, cv, tv, r, g, sv, l⟩ hk
            have L23 : L 23 = false := hk.2.2 23 rfl
            have hc : w1.cell? ⟨l_b, 1, none⟩ = some (.int .i64 (tickL X c 1)) := l.cellIs (vfn_get _ (by omega))
            go_simp
            exact ⟨rfl, rfl⟩
          refine stepV 11 rfl rfl (fun _ _ _ h => h) ?_ ?_
          · intros; go_simp; exact ⟨rfl, rfl⟩
          refine stepV 12 rfl rfl (fun _ _ _ h => h) ?_ ?_
          · intros; go_simp; exact ⟨rfl, rfl⟩
          refine stepV 13 rfl rfl (fun _ _ _ h => h) ?_ ?_
          · rintro p L w1 ⟨hsz, hB, cv, tv, r, g, sv, l⟩ hk
            have L23 : L 23 = false := hk.2.2 23 rfl
            have hc : w1.cell? ⟨l_b, 2, none⟩ = some (.int .i64 (tickL X c 2)) := l.cellIs (vfn_get _ (by omega))
            go_simp
            exact ⟨rfl, rfl⟩
          refine stepV 14 rfl rfl (fun _ _ _ h => h) ?_ ?_
          · intros; go_simp; exact ⟨rfl, rfl⟩
          refine AllI.cons ?_ ?_
          · refine stepI_val 15 rfl (fun p => rfl) ?_ (fun _ _ _ h => h)
            intros; go_simp; exact ⟨congrArg Value.agg (vfn_of (mulF 2 (tickL X c))), rfl⟩
          refine stepD 16 rfl (fun p => rfl) (fun _ _ _ h => h) more ?_ ?_
          · rintro p L w1 ⟨hsz, hB, cv, tv, r, g, sv, l⟩ hk
            go_simp
            refine (TU.out _).mono ?_
            rintro e w2 ⟨rfl, h2⟩
            first | exact ⟨rfl, h2⟩ | (subst h2; exact ⟨rfl, Below.refl _ _⟩)
          refine stepV 17 rfl rfl (fun _ _ _ h => h) ?_ ?_
          · intros; go_simp; exact ⟨rfl, rfl⟩
          refine stepV 18 rfl rfl (fun _ _ _ h => h) ?_ ?_
          · intros; go_simp; exact ⟨rfl, rfl⟩
          refine stepV 19 rfl rfl (fun _ _ _ h => h) ?_ ?_
          · intros; go_simp; exact ⟨rfl, rfl⟩
          refine stepV 20 rfl rfl (fun _ _ _ h => h) ?_ ?_
          · intros; go_simp; exact ⟨rfl, rfl⟩
          refine stepV 21 rfl rfl (fun _ _ _ h => h) ?_ ?_
          · intros; go_simp; exact ⟨rfl, rfl⟩
          refine stepV 22 rfl rfl (fun _ _ _ h => h) ?_ ?_
          · intros; go_simp; exact ⟨rfl, rfl⟩
          refine AllI.cons ?_ ?_
          · refine stepI_store 23 rfl (fun p => rfl) (fun p => rfl) _ _ _ rfl (fun _ => b) 0 (fun p => rfl) (fun p => (qfn Q2)) (fun p => rfl) (fun p => (bdc (X.Q, X.T, s))) (fun p => (bdc (Q2, X.T, s))) 158 (fun p => over_bq _ _ _ _) (fun p => by first | (rw [qfn_size, bdc_size]; decide) | simp [qfn_size, bdc_size]) (fun p => by rw [qfn_size]; kernel_rfl) (fun p => qfn_one _) ?_ ?_
            · rintro p L w1 ⟨hsz, hB, cv, tv, r, g, sv, l⟩ hk
              have L23 : L 23 = false := hk.1
              rw [L23] at g
              try simp only [cond_true, cond_false] at g
              exact g
            · rintro p L w1 ⟨hsz, hB, cv, tv, r, g, sv, l⟩ hk
              have L23 : L 23 = false := hk.1
              skip
              refine ⟨(by simpa using hsz), hB.row (by first | exact .inr (Nat.le_trans hW0 hp.1) | exact .inr ge_g | exact .inl ⟨Nat.le_refl _, Nat.le_refl _⟩ | omega | (have := hB.size; simp at this ⊢; omega)) _, cv.rowOther ne_cv_g _, tv.rowOther ne_tv_g _, r.rowOther ne_r_g _, ?_, sv.rowOther (Ne.symm ne_g_sv) _, l.rowOther (Ne.symm ne_g_l) _⟩
              rw [show upL L 23 23 = true from rfl]
              exact g.row _
          exact AllI.nil
        case hV0 => exact fun p q => AllI.nil
        case' he =>
        clear hB cv tv r g sv l
        rintro p wrrr ⟨hsz, hB, cv, tv, r, g, sv, l⟩
        replace g : blk wrrr b (bdc (Q2, X.T, s)) 158 := g
        clear lt_cv lt_tv lt_r lt_g lt_sv lt_l hsz hW0
        go_upto_region 13 with (fail)
      all_goals
        clear m0 m1 m2 TU
        have lt_cv := cv.lt
        have lt_tv := tv.lt
        have lt_r := r.lt
        have lt_g := g.lt
        have lt_sv := sv.lt
        have lt_l := l.lt
        have hW0 : w.heap.size ≤ wrrr.heap.size := by simpa using hB.size
        apply wp_region_I 13 [0, 1, 3, 7, 15, 0, 63, 127, 255, 255, 0, 1535, 4095] [10] [_, _, _, _, _, _, _, _, _, _, (fun p => .pointer (some ⟨p 10, 0, none⟩)), (fun _ => undef), _] (fun p L w' => wrrr.heap.size ≤ w'.heap.size ∧ Save lo b w w' ∧ blk w' w.heap.size (qfn c) 22 ∧ blk w' (w.heap.size + 1) (vfn t) 31 ∧ blk w' (w.heap.size + 2) (vfn fun _ => 0) 31 ∧ blk w' b (bdc (Q2, X.T, s)) 158 ∧ blk w' s (setc (tickH X c, X.f)) 230 ∧ blk w' l_b (vfn (tickL X c)) 31 ∧ (L 10 = true → wrrr.heap.size ≤ p 10 ∧ blk w' (p 10) (bif L 11 then (vfn (qrotF Q2 t)) else (vfn fun _ => 0)) 31)) _ [(0, 65), (1, 66), (2, 67), (3, 68), (4, 69), (5, 70), (6, 71), (7, 64), (8, 72), (9, 73), (10, 11), (12, 12)] [0, 1, 2, 3, 4, 5, 6, 7, 8, 9, 10, 11, 12]
        case hn => rfl
        case hm => kernel_rfl
        case hB => kernel_rfl
        case hds => kernel_rfl
        case hA => (intro p; simp only [putsD, Act.put, sIT, sCZ, sCS, gCZ, gCS]; exact rfl)
        case h0 => exact fun p => ⟨Nat.le_refl _, hB.drew, cv.drew, tv.drew, r.drew, g.drew, sv.drew, l.drew, fun h => absurd h (by decide)⟩
        case hmore => exact fun p L w1 w2 ⟨hsz, hB, cv, tv, r, g, sv, l, h_ch⟩ hm => ⟨Nat.le_trans hsz hm.size, hB.trans (hm.mono (Nat.le_trans hW0 hsz)), cv.below hm cv.lt, tv.below hm tv.lt, r.below hm r.lt, g.below hm g.lt, sv.below hm sv.lt, l.below hm l.lt, fun hl => ⟨(h_ch hl).1, (h_ch hl).2.below hm (h_ch hl).2.lt⟩⟩
        case hs =>
          intro more
          refine stepV 0 rfl rfl (fun _ _ _ h => h) ?_ ?_
          · intros; go_simp; exact ⟨rfl, rfl⟩
          refine stepV 1 rfl rfl (fun _ _ _ h => h) ?_ ?_
          · intros; go_simp; exact ⟨rfl, rfl⟩
          refine stepV 2 rfl rfl (fun _ _ _ h => h) ?_ ?_
          · intros; go_simp; exact ⟨rfl, rfl⟩
          refine stepV 3 rfl rfl (fun _ _ _ h => h) ?_ ?_
          · intros; go_simp; exact ⟨rfl, rfl⟩
          refine stepV 4 rfl rfl (fun _ _ _ h => h) ?_ ?_
          · rintro p L w1 ⟨hsz, hB, cv, tv, r, g, sv, l, h_ch⟩ hk
            have L11 : L 11 = false := hk.2.2 11 rfl
            exact valR_part _ _ rfl _ 0 rfl _ _ g (qfn Q2) (bd_q Q2 X.T s) _ Try.underlying23 rfl (by rw [qfn_size]; kernel_rfl) rfl
          refine stepV 5 rfl rfl (fun _ _ _ h => h) ?_ ?_
          · rintro p L w1 ⟨hsz, hB, cv, tv, r, g, sv, l, h_ch⟩ hk
            have L11 : L 11 = false := hk.2.2 11 rfl
            first | exact valR_row _ _ rfl _ rfl _ _ tv _ Try.underlying31 rfl (by first | kernel_rfl | (rw [vfn_size]; kernel_rfl)) rfl | (have hc := tv.cellIs (vfn_get _ (show 0 < 3 by omega)); go_simp; exact ⟨rfl, rfl⟩)
          refine stepD 6 rfl (fun p => rfl) (fun _ _ _ h => h) more ?_ ?_
          · rintro p L w1 ⟨hsz, hB, cv, tv, r, g, sv, l, h_ch⟩ hk
            go_simp
            refine (RO.out _).mono ?_
            rintro e w2 ⟨rfl, h2⟩
            first | exact ⟨rfl, h2⟩ | (subst h2; exact ⟨rfl, Below.refl _ _⟩)
          refine stepV 7 rfl rfl (fun _ _ _ h => h) ?_ ?_
          · intros; go_simp; exact ⟨rfl, rfl⟩
          refine stepV 8 rfl rfl (fun _ _ _ h => h) ?_ ?_
          · intros; go_simp; exact ⟨rfl, rfl⟩
          refine stepV 9 rfl rfl (fun _ _ _ h => h) ?_ ?_
          · intros; go_simp; exact ⟨rfl, rfl⟩
          refine AllI.cons ?_ ?_
          · refine stepI_alloc 10 rfl (fun p => rfl) rfl (vfn fun _ => 0) 31 (fun p => rfl) ?_ ?_
            · intro p w1
              go_simp
              first | rfl | rw [zero_vec]
            rintro p L w1 ⟨hsz, hB, cv, tv, r, g, sv, l, h_ch⟩ hk
            have L11 : L 11 = false := hk.2.2 11 rfl
            refine ⟨Nat.le_trans hsz (by simp), hB.alloc (Nat.le_trans (by first | exact hW0 | (have := hB.size; simp at this ⊢; omega)) hsz) _, cv.alloc _, tv.alloc _, r.alloc _, g.alloc _, sv.alloc _, l.alloc _, fun _ => ⟨hsz, ?_⟩⟩
            rw [show upL L 10 11 = false from L11]
            exact blk.new _ _ _
          refine AllI.cons ?_ ?_
          · refine stepI_store 11 rfl (fun p => rfl) (fun p => rfl) _ _ _ rfl (fun p => p 10) 0 (fun p => rfl) (fun p => (vfn (qrotF Q2 t))) (fun p => rfl) (fun p => (vfn fun _ => 0)) (fun p => (vfn (qrotF Q2 t))) 31 (fun p => over_v _ _) (fun p => by first | (rw [vfn_size, vfn_size]; decide) | simp [vfn_size, vfn_size]) (fun p => by rw [vfn_size]; kernel_rfl) (fun p => vfn_one _) ?_ ?_
            · rintro p L w1 ⟨hsz, hB, cv, tv, r, g, sv, l, h_ch⟩ hk
              have L11 : L 11 = false := hk.1
              have hh := (h_ch (hk.2.1 10 rfl)).2
              rw [L11] at hh
              try simp only [cond_true, cond_false] at hh
              exact hh
            · rintro p L w1 ⟨hsz, hB, cv, tv, r, g, sv, l, h_ch⟩ hk
              have L11 : L 11 = false := hk.1
              skip
              have hp := h_ch (hk.2.1 10 rfl)
              refine ⟨(by simpa using hsz), hB.row (by first | exact .inr (Nat.le_trans hW0 hp.1) | exact .inr ge_ch | exact .inl ⟨Nat.le_refl _, Nat.le_refl _⟩ | omega | (have := hB.size; simp at this ⊢; omega)) _, cv.rowOther (by first | exact Nat.ne_of_lt (Nat.lt_of_lt_of_le lt_cv hp.1) | omega) _, tv.rowOther (by first | exact Nat.ne_of_lt (Nat.lt_of_lt_of_le lt_tv hp.1) | omega) _, r.rowOther (by first | exact Nat.ne_of_lt (Nat.lt_of_lt_of_le lt_r hp.1) | omega) _, g.rowOther (by first | exact Nat.ne_of_lt (Nat.lt_of_lt_of_le lt_g hp.1) | omega) _, sv.rowOther (by first | exact Nat.ne_of_lt (Nat.lt_of_lt_of_le lt_sv hp.1) | omega) _, l.rowOther (by first | exact Nat.ne_of_lt (Nat.lt_of_lt_of_le lt_l hp.1) | omega) _, fun _ => ⟨hp.1, ?_⟩⟩
              rw [show upL L 11 11 = true from rfl]
              exact hp.2.row _
          refine stepV 12 rfl rfl (fun _ _ _ h => h) ?_ ?_
          · intros; go_simp; exact ⟨rfl, rfl⟩
          exact AllI.nil
        case hV0 =>
          intro p q
          refine AllI.cons ?_ ?_
          · skip
            iterate 13 (refine AllI.cons (by first | exact .inl rfl | (refine .inr ?_; simp only [gCZ, gCS]; done) | exact .inr rfl) ?_)
            exact AllI.nil
          exact AllI.nil
        case he =>
        clear hB cv tv r g sv l
        rintro p wrrrrr ⟨hsz, hB, cv, tv, r, g, sv, l, h_ch⟩
        obtain ⟨le_ch, ch⟩ := h_ch rfl
        clear h_ch
        replace ch : blk wrrrrr (p 10) (vfn (qrotF Q2 t)) 31 := ch
        have ne_cv_ch : w.heap.size ≠ p 10 := Nat.ne_of_lt (Nat.lt_of_lt_of_le lt_cv le_ch)
        have ne_tv_ch : (w.heap.size + 1) ≠ p 10 := Nat.ne_of_lt (Nat.lt_of_lt_of_le lt_tv le_ch)
        have ne_r_ch : (w.heap.size + 2) ≠ p 10 := Nat.ne_of_lt (Nat.lt_of_lt_of_le lt_r le_ch)
        have ne_g_ch : b ≠ p 10 := Nat.ne_of_lt (Nat.lt_of_lt_of_le lt_g le_ch)
        have ne_sv_ch : s ≠ p 10 := Nat.ne_of_lt (Nat.lt_of_lt_of_le lt_sv le_ch)
        have ne_l_ch : l_b ≠ p 10 := Nat.ne_of_lt (Nat.lt_of_lt_of_le lt_l le_ch)
        have ge_ch : w.heap.size ≤ p 10 := Nat.le_trans hW0 le_ch
        generalize p 10 = ch_b at *
        clear lt_cv lt_tv lt_r lt_g lt_sv lt_l hsz hW0
        go_upto_region 14 with (fail)
        clear RO
        have lt_cv := cv.lt
        have lt_tv := tv.lt
        have lt_r := r.lt
        have lt_g := g.lt
        have lt_sv := sv.lt
        have lt_l := l.lt
        have lt_ch := ch.lt
        have hW0 : w.heap.size ≤ wrrrrr.heap.size := by simpa using hB.size
        apply wp_region_I 13 [0, 1, 3, 7, 15, 0, 63, 127, 255, 255, 0, 1535, 4095] [10] [_, _, _, _, _, _, _, _, _, _, (fun p => .pointer (some ⟨p 10, 0, none⟩)), (fun _ => undef), _] (fun p L w' => wrrrrr.heap.size ≤ w'.heap.size ∧ Save lo b w w' ∧ blk w' w.heap.size (qfn c) 22 ∧ blk w' (w.heap.size + 1) (vfn t) 31 ∧ blk w' (w.heap.size + 2) (vfn fun _ => 0) 31 ∧ blk w' b (bdc (Q2, X.T, s)) 158 ∧ blk w' s (setc (tickH X c, X.f)) 230 ∧ blk w' l_b (vfn (tickL X c)) 31 ∧ blk w' ch_b (vfn (qrotF Q2 t)) 31 ∧ (L 10 = true → wrrrrr.heap.size ≤ p 10 ∧ blk w' (p 10) (bif L 11 then (vfn (vaddF X.T (qrotF Q2 t))) else (vfn fun _ => 0)) 31)) _ [(0, 75), (1, 76), (2, 77), (3, 78), (4, 79), (5, 80), (6, 81), (7, 74), (8, 82), (9, 83), (10, 13), (12, 14)] [0, 1, 2, 3, 4, 5, 6, 7, 8, 9, 10, 11, 12]
        case hn => rfl
        case hm => kernel_rfl
        case hB => kernel_rfl
        case hds => kernel_rfl
        case hA => (intro p; simp only [putsD, Act.put, sIT, sCZ, sCS, gCZ, gCS]; exact rfl)
        case h0 => exact fun p => ⟨Nat.le_refl _, hB.drew, cv.drew, tv.drew, r.drew, g.drew, sv.drew, l.drew, ch.drew, fun h => absurd h (by decide)⟩
        case hmore => exact fun p L w1 w2 ⟨hsz, hB, cv, tv, r, g, sv, l, ch, h_su⟩ hm => ⟨Nat.le_trans hsz hm.size, hB.trans (hm.mono (Nat.le_trans hW0 hsz)), cv.below hm cv.lt, tv.below hm tv.lt, r.below hm r.lt, g.below hm g.lt, sv.below hm sv.lt, l.below hm l.lt, ch.below hm ch.lt, fun hl => ⟨(h_su hl).1, (h_su hl).2.below hm (h_su hl).2.lt⟩⟩
        case hs =>
          intro more
          refine stepV 0 rfl rfl (fun _ _ _ h => h) ?_ ?_
          · intros; go_simp; exact ⟨rfl, rfl⟩
          refine stepV 1 rfl rfl (fun _ _ _ h => h) ?_ ?_
          · intros; go_simp; exact ⟨rfl, rfl⟩
          refine stepV 2 rfl rfl (fun _ _ _ h => h) ?_ ?_
          · intros; go_simp; exact ⟨rfl, rfl⟩
          refine stepV 3 rfl rfl (fun _ _ _ h => h) ?_ ?_
          · intros; go_simp; exact ⟨rfl, rfl⟩
          refine stepV 4 rfl rfl (fun _ _ _ h => h) ?_ ?_
          · rintro p L w1 ⟨hsz, hB, cv, tv, r, g, sv, l, ch, h_su⟩ hk
            have L11 : L 11 = false := hk.2.2 11 rfl
            exact valR_part _ _ rfl _ 4 rfl _ _ g (vfn X.T) (bd_t Q2 X.T s) _ Try.underlying31 rfl (by rw [vfn_size]; kernel_rfl) rfl
          refine stepV 5 rfl rfl (fun _ _ _ h => h) ?_ ?_
          · rintro p L w1 ⟨hsz, hB, cv, tv, r, g, sv, l, ch, h_su⟩ hk
            have L11 : L 11 = false := hk.2.2 11 rfl
            first | exact valR_row _ _ rfl _ rfl _ _ ch _ Try.underlying31 rfl (by first | kernel_rfl | (rw [vfn_size]; kernel_rfl)) rfl | (have hc := ch.cellIs (vfn_get _ (show 0 < 3 by omega)); go_simp; exact ⟨rfl, rfl⟩)
          refine stepD 6 rfl (fun p => rfl) (fun _ _ _ h => h) more ?_ ?_
          · rintro p L w1 ⟨hsz, hB, cv, tv, r, g, sv, l, ch, h_su⟩ hk
            go_simp
            refine (AD.out _).mono ?_
            rintro e w2 ⟨rfl, h2⟩
            first | exact ⟨rfl, h2⟩ | (subst h2; exact ⟨rfl, Below.refl _ _⟩)
          refine stepV 7 rfl rfl (fun _ _ _ h => h) ?_ ?_
          · intros; go_simp; exact ⟨rfl, rfl⟩
          refine stepV 8 rfl rfl (fun _ _ _ h => h) ?_ ?_
          · intros; go_simp; exact ⟨rfl, rfl⟩
          refine stepV 9 rfl rfl (fun _ _ _ h => h) ?_ ?_
          · intros; go_simp; exact ⟨rfl, rfl⟩
          refine AllI.cons ?_ ?_
          · refine stepI_alloc 10 rfl (fun p => rfl) rfl (vfn fun _ => 0) 31 (fun p => rfl) ?_ ?_
            · intro p w1
              go_simp
              first | rfl | rw [zero_vec]
            rintro p L w1 ⟨hsz, hB, cv, tv, r, g, sv, l, ch, h_su⟩ hk
            have L11 : L 11 = false := hk.2.2 11 rfl
            refine ⟨Nat.le_trans hsz (by simp), hB.alloc (Nat.le_trans (by first | exact hW0 | (have := hB.size; simp at this ⊢; omega)) hsz) _, cv.alloc _, tv.alloc _, r.alloc _, g.alloc _, sv.alloc _, l.alloc _, ch.alloc _, fun _ => ⟨hsz, ?_⟩⟩
            rw [show upL L 10 11 = false from L11]
            exact blk.new _ _ _
          refine AllI.cons ?_ ?_
          · refine stepI_store 11 rfl (fun p => rfl) (fun p => rfl) _ _ _ rfl (fun p => p 10) 0 (fun p => rfl) (fun p => (vfn (vaddF X.T (qrotF Q2 t)))) (fun p => rfl) (fun p => (vfn fun _ => 0)) (fun p => (vfn (vaddF X.T (qrotF Q2 t)))) 31 (fun p => over_v _ _) (fun p => by first | (rw [vfn_size, vfn_size]; decide) | simp [vfn_size, vfn_size]) (fun p => by rw [vfn_size]; kernel_rfl) (fun p => vfn_one _) ?_ ?_
            · rintro p L w1 ⟨hsz, hB, cv, tv, r, g, sv, l, ch, h_su⟩ hk
              have L11 : L 11 = false := hk.1
              have hh := (h_su (hk.2.1 10 rfl)).2
              rw [L11] at hh
              try simp only [cond_true, cond_false] at hh
              exact hh
            · rintro p L w1 ⟨hsz, hB, cv, tv, r, g, sv, l, ch, h_su⟩ hk
              have L11 : L 11 = false := hk.1
              skip
              have hp := h_su (hk.2.1 10 rfl)
              refine ⟨(by simpa using hsz), hB.row (by first | exact .inr (Nat.le_trans hW0 hp.1) | exact .inr ge_su | exact .inl ⟨Nat.le_refl _, Nat.le_refl _⟩ | omega | (have := hB.size; simp at this ⊢; omega)) _, cv.rowOther (by first | exact Nat.ne_of_lt (Nat.lt_of_lt_of_le lt_cv hp.1) | omega) _, tv.rowOther (by first | exact Nat.ne_of_lt (Nat.lt_of_lt_of_le lt_tv hp.1) | omega) _, r.rowOther (by first | exact Nat.ne_of_lt (Nat.lt_of_lt_of_le lt_r hp.1) | omega) _, g.rowOther (by first | exact Nat.ne_of_lt (Nat.lt_of_lt_of_le lt_g hp.1) | omega) _, sv.rowOther (by first | exact Nat.ne_of_lt (Nat.lt_of_lt_of_le lt_sv hp.1) | omega) _, l.rowOther (by first | exact Nat.ne_of_lt (Nat.lt_of_lt_of_le lt_l hp.1) | omega) _, ch.rowOther (by first | exact Nat.ne_of_lt (Nat.lt_of_lt_of_le lt_ch hp.1) | omega) _, fun _ => ⟨hp.1, ?_⟩⟩
              rw [show upL L 11 11 = true from rfl]
              exact hp.2.row _
          refine stepV 12 rfl rfl (fun _ _ _ h => h) ?_ ?_
          · intros; go_simp; exact ⟨rfl, rfl⟩
          exact AllI.nil
        case hV0 =>
          intro p q
          refine AllI.cons ?_ ?_
          · skip
            iterate 13 (refine AllI.cons (by first | exact .inl rfl | (refine .inr ?_; simp only [gCZ, gCS]; done) | exact .inr rfl) ?_)
            exact AllI.nil
          exact AllI.nil
        case he =>
        clear hB cv tv r g sv l ch
        rintro p wrrrrrr ⟨hsz, hB, cv, tv, r, g, sv, l, ch, h_su⟩
        obtain ⟨le_su, su⟩ := h_su rfl
        clear h_su
        replace su : blk wrrrrrr (p 10) (vfn (vaddF X.T (qrotF Q2 t))) 31 := su
        have ne_cv_su : w.heap.size ≠ p 10 := Nat.ne_of_lt (Nat.lt_of_lt_of_le lt_cv le_su)
        have ne_tv_su : (w.heap.size + 1) ≠ p 10 := Nat.ne_of_lt (Nat.lt_of_lt_of_le lt_tv le_su)
        have ne_r_su : (w.heap.size + 2) ≠ p 10 := Nat.ne_of_lt (Nat.lt_of_lt_of_le lt_r le_su)
        have ne_g_su : b ≠ p 10 := Nat.ne_of_lt (Nat.lt_of_lt_of_le lt_g le_su)
        have ne_sv_su : s ≠ p 10 := Nat.ne_of_lt (Nat.lt_of_lt_of_le lt_sv le_su)
        have ne_l_su : l_b ≠ p 10 := Nat.ne_of_lt (Nat.lt_of_lt_of_le lt_l le_su)
        have ne_ch_su : ch_b ≠ p 10 := Nat.ne_of_lt (Nat.lt_of_lt_of_le lt_ch le_su)
        have ge_su : w.heap.size ≤ p 10 := Nat.le_trans hW0 le_su
        generalize p 10 = su_b at *
        clear lt_cv lt_tv lt_r lt_g lt_sv lt_l lt_ch hsz hW0 AD
        cases al
        · go_upto_region 16 with (first
            | (refine wpList_load_rowG ?hw _ _ rfl _ rfl _ _ _ _ su Try.underlying31 rfl ?hi ?_; (case hw => (first | rfl | (simp [Region.wanted, yielded]; done))); (case hi => (first | kernel_rfl | (rw [vfn_size]; kernel_rfl))))
            | (go_at_call 141; with_reducible refine (AL.out _).mono ?_; rintro e wal ⟨rfl, hb⟩; replace hB := hB.trans (hb.mono hB.size); replace cv := cv.below hb cv.lt; replace tv := tv.below hb tv.lt; replace r := r.below hb r.lt; replace g := g.below hb g.lt; replace sv := sv.below hb sv.lt; replace l := l.below hb l.lt; replace ch := ch.below hb ch.lt; replace su := su.below hb su.lt; clear hb))
          have lt_cv := cv.lt
          have lt_tv := tv.lt
          have lt_r := r.lt
          have lt_g := g.lt
          have lt_sv := sv.lt
          have lt_l := l.lt
          have lt_ch := ch.lt
          have lt_su := su.lt
          have hW0 : w.heap.size ≤ wal.heap.size := by simpa using hB.size
          apply wp_region_Q 3 [0, 1, 3] [] [_, (fun _ => undef), _] (fun p L w' => wal.heap.size ≤ w'.heap.size ∧ Save lo b w w' ∧ blk w' w.heap.size (qfn c) 22 ∧ blk w' (w.heap.size + 1) (vfn t) 31 ∧ blk w' (w.heap.size + 2) (bif L 1 then (vfn (fun _ => 0)) else (vfn fun _ => 0)) 31 ∧ blk w' b (bdc (Q2, X.T, s)) 158 ∧ blk w' s (setc (tickH X c, X.f)) 230 ∧ blk w' l_b (vfn (tickL X c)) 31 ∧ blk w' ch_b (vfn (qrotF Q2 t)) 31 ∧ blk w' su_b (vfn (vaddF X.T (qrotF Q2 t))) 31) _ [(0, 87), (2, 7)] [0, 1, 2]
          case hn => rfl
          case hB => kernel_rfl
          case hds => kernel_rfl
          case hA => (intro p; simp only [putsD, Act.put, sIT, sCZ, sCS, gCZ, gCS]; exact rfl)
          case h0 => exact fun p => ⟨Nat.le_refl _, hB, cv, tv, r, g, sv, l, ch, su⟩
          case hmore => exact fun p L w1 w2 ⟨hsz, hB, cv, tv, r, g, sv, l, ch, su⟩ hm => ⟨Nat.le_trans hsz hm.size, hB.trans (hm.mono (Nat.le_trans hW0 hsz)), cv.below hm cv.lt, tv.below hm tv.lt, r.below hm r.lt, g.below hm g.lt, sv.below hm sv.lt, l.below hm l.lt, ch.below hm ch.lt, su.below hm su.lt⟩
          case hs =>
            intro more
            refine stepV 0 rfl rfl (fun _ _ _ h => h) ?_ ?_
            · intros; (try simp only [vfn, qfn]); go_simp; exact ⟨rfl, rfl⟩
            refine AllI.cons ?_ ?_
            · refine stepI_store 1 rfl (fun p => rfl) (fun p => rfl) _ _ _ rfl (fun _ => (w.heap.size + 2)) 0 (fun p => rfl) (fun p => (vfn (fun _ => 0))) (fun p => congrArg Value.agg zero_vec) (fun p => (vfn fun _ => 0)) (fun p => (vfn (fun _ => 0))) 31 (fun p => over_v _ _) (fun p => by first | (rw [vfn_size, vfn_size]; decide) | simp [vfn_size, vfn_size]) (fun p => by rw [vfn_size]; kernel_rfl) (fun p => vfn_one _) ?_ ?_
              · rintro p L w1 ⟨hsz, hB, cv, tv, r, g, sv, l, ch, su⟩ hk
                have L1 : L 1 = false := hk.1
                rw [L1] at r
                try simp only [cond_true, cond_false] at r
                exact r
              · rintro p L w1 ⟨hsz, hB, cv, tv, r, g, sv, l, ch, su⟩ hk
                have L1 : L 1 = false := hk.1
                skip
                refine ⟨(by simpa using hsz), hB.row (by first | exact .inr (Nat.le_trans hW0 hp.1) | exact .inr ge_r | exact .inl ⟨Nat.le_refl _, Nat.le_refl _⟩ | omega | (have := hB.size; simp at this ⊢; omega)) _, cv.rowOther (by first | exact ne_cv_r | exact Ne.symm ne_r_cv | omega) _, tv.rowOther (by first | exact ne_tv_r | exact Ne.symm ne_r_tv | omega) _, ?_, g.rowOther (Ne.symm ne_r_g) _, sv.rowOther (Ne.symm ne_r_sv) _, l.rowOther (Ne.symm ne_r_l) _, ch.rowOther (Ne.symm ne_r_ch) _, su.rowOther (Ne.symm ne_r_su) _⟩
                rw [show upL L 1 1 = true from rfl]
                exact r.row _
            refine stepV 2 rfl rfl (fun _ _ _ h => h) ?_ ?_
            · intros; go_simp; exact ⟨rfl, rfl⟩
            exact AllI.nil
          case hV0 => exact fun p q => AllI.nil
          case he =>
          clear hB cv tv r g sv l ch su
          rintro p walr ⟨hsz, hB, cv, tv, r, g, sv, l, ch, su⟩
          replace r : blk walr (w.heap.size + 2) (vfn (fun _ => 0)) 31 := r
          clear lt_cv lt_tv lt_r lt_g lt_sv lt_l lt_ch lt_su hsz hW0
          go_wp2_with (fail)
          refine bodyPost_ret (results_vec rfl _ _ _ _ _ _ _ rfl r Try.underlying31 rfl (by first | kernel_rfl | (rw [vfn_size]; kernel_rfl))) rfl ?_
          exact ⟨rfl, ⟨s, hl, hu, g, sv⟩, hB⟩
        · go_upto_region 17 with (first
            | (refine wpList_load_rowG ?hw _ _ rfl _ rfl _ _ _ _ su Try.underlying31 rfl ?hi ?_; (case hw => (first | rfl | (simp [Region.wanted, yielded]; done))); (case hi => (first | kernel_rfl | (rw [vfn_size]; kernel_rfl))))
            | (go_at_call 141; with_reducible refine (AL.out _).mono ?_; rintro e wal ⟨rfl, hb⟩; replace hB := hB.trans (hb.mono hB.size); replace cv := cv.below hb cv.lt; replace tv := tv.below hb tv.lt; replace r := r.below hb r.lt; replace g := g.below hb g.lt; replace sv := sv.below hb sv.lt; replace l := l.below hb l.lt; replace ch := ch.below hb ch.lt; replace su := su.below hb su.lt; clear hb))
          have lt_cv := cv.lt
          have lt_tv := tv.lt
          have lt_r := r.lt
          have lt_g := g.lt
          have lt_sv := sv.lt
          have lt_l := l.lt
          have lt_ch := ch.lt
          have lt_su := su.lt
          have hW0 : w.heap.size ≤ wal.heap.size := by simpa using hB.size
          apply wp_region_Q 6 [0, 1, 3, 7, 15, 31] [] [_, _, _, _, _, (fun _ => undef)] (fun p L w' => wal.heap.size ≤ w'.heap.size ∧ Save lo b w w' ∧ blk w' w.heap.size (qfn c) 22 ∧ blk w' (w.heap.size + 1) (vfn t) 31 ∧ blk w' (w.heap.size + 2) (vfn fun _ => 0) 31 ∧ blk w' b (bif L 5 then (bdc (Q2, (vaddF X.T (qrotF Q2 t)), s)) else (bdc (Q2, X.T, s))) 158 ∧ blk w' s (setc (tickH X c, X.f)) 230 ∧ blk w' l_b (vfn (tickL X c)) 31 ∧ blk w' ch_b (vfn (qrotF Q2 t)) 31 ∧ blk w' su_b (vfn (vaddF X.T (qrotF Q2 t))) 31) _ [(0, 88), (1, 89), (2, 90), (3, 91), (4, 92)] [0, 1, 2, 3, 4, 5]
          case hn => rfl
          case hB => kernel_rfl
          case hds => kernel_rfl
          case hA => (intro p; simp only [putsD, Act.put, sIT, sCZ, sCS, gCZ, gCS]; exact rfl)
          case h0 => exact fun p => ⟨Nat.le_refl _, hB, cv, tv, r, g, sv, l, ch, su⟩
          case hmore => exact fun p L w1 w2 ⟨hsz, hB, cv, tv, r, g, sv, l, ch, su⟩ hm => ⟨Nat.le_trans hsz hm.size, hB.trans (hm.mono (Nat.le_trans hW0 hsz)), cv.below hm cv.lt, tv.below hm tv.lt, r.below hm r.lt, g.below hm g.lt, sv.below hm sv.lt, l.below hm l.lt, ch.below hm ch.lt, su.below hm su.lt⟩
          case hs =>
            intro more
            refine stepV 0 rfl rfl (fun _ _ _ h => h) ?_ ?_
            · intros; go_simp; exact ⟨rfl, rfl⟩
            refine stepV 1 rfl rfl (fun _ _ _ h => h) ?_ ?_
            · rintro p L w1 ⟨hsz, hB, cv, tv, r, g, sv, l, ch, su⟩ hk
              have L5 : L 5 = false := hk.2.2 5 rfl
              first | exact valR_row _ _ rfl _ rfl _ _ su _ Try.underlying31 rfl (by first | kernel_rfl | (rw [vfn_size]; kernel_rfl)) rfl | (have hc := su.cellIs (vfn_get _ (show 0 < 3 by omega)); go_simp; exact ⟨rfl, rfl⟩)
            refine stepV 2 rfl rfl (fun _ _ _ h => h) ?_ ?_
            · intros; go_simp; exact ⟨rfl, rfl⟩
            refine stepV 3 rfl rfl (fun _ _ _ h => h) ?_ ?_
            · intros; go_simp; exact ⟨rfl, rfl⟩
            refine stepV 4 rfl rfl (fun _ _ _ h => h) ?_ ?_
            · intros; go_simp; exact ⟨rfl, rfl⟩
            refine AllI.cons ?_ ?_
            · refine stepI_store 5 rfl (fun p => rfl) (fun p => rfl) _ _ _ rfl (fun _ => b) 4 (fun p => rfl) (fun p => (vfn (vaddF X.T (qrotF Q2 t)))) (fun p => rfl) (fun p => (bdc (Q2, X.T, s))) (fun p => (bdc (Q2, (vaddF X.T (qrotF Q2 t)), s))) 158 (fun p => over_bt _ _ _ _) (fun p => by first | (rw [vfn_size, bdc_size]; decide) | simp [vfn_size, bdc_size]) (fun p => by rw [vfn_size]; kernel_rfl) (fun p => vfn_one _) ?_ ?_
              · rintro p L w1 ⟨hsz, hB, cv, tv, r, g, sv, l, ch, su⟩ hk
                have L5 : L 5 = false := hk.1
                rw [L5] at g
                try simp only [cond_true, cond_false] at g
                exact g
              · rintro p L w1 ⟨hsz, hB, cv, tv, r, g, sv, l, ch, su⟩ hk
                have L5 : L 5 = false := hk.1
                skip
                refine ⟨(by simpa using hsz), hB.row (by first | exact .inr (Nat.le_trans hW0 hp.1) | exact .inr ge_g | exact .inl ⟨Nat.le_refl _, Nat.le_refl _⟩ | omega | (have := hB.size; simp at this ⊢; omega)) _, cv.rowOther ne_cv_g _, tv.rowOther ne_tv_g _, r.rowOther ne_r_g _, ?_, sv.rowOther (Ne.symm ne_g_sv) _, l.rowOther (Ne.symm ne_g_l) _, ch.rowOther (Ne.symm ne_g_ch) _, su.rowOther (Ne.symm ne_g_su) _⟩
                rw [show upL L 5 5 = true from rfl]
                exact g.row _
            exact AllI.nil
          case hV0 => exact fun p q => AllI.nil
          case he =>
          clear hB cv tv r g sv l ch su
          rintro p walr ⟨hsz, hB, cv, tv, r, g, sv, l, ch, su⟩
          replace g : blk walr b (bdc (Q2, (vaddF X.T (qrotF Q2 t)), s)) 158 := g
          clear lt_cv lt_tv lt_r lt_g lt_sv lt_l lt_ch lt_su hsz hW0
          go_upto_region 18 with (fail)
          have lt_cv := cv.lt
          have lt_tv := tv.lt
          have lt_r := r.lt
          have lt_g := g.lt
          have lt_sv := sv.lt
          have lt_l := l.lt
          have lt_ch := ch.lt
          have lt_su := su.lt
          have hW0 : w.heap.size ≤ walr.heap.size := by simpa using hB.size
          apply wp_region_Q 3 [0, 1, 3] [] [_, (fun _ => undef), _] (fun p L w' => walr.heap.size ≤ w'.heap.size ∧ Save lo b w w' ∧ blk w' w.heap.size (qfn c) 22 ∧ blk w' (w.heap.size + 1) (vfn t) 31 ∧ blk w' (w.heap.size + 2) (bif L 1 then (vfn (qrotF Q2 t)) else (vfn fun _ => 0)) 31 ∧ blk w' b (bdc (Q2, (vaddF X.T (qrotF Q2 t)), s)) 158 ∧ blk w' s (setc (tickH X c, X.f)) 230 ∧ blk w' l_b (vfn (tickL X c)) 31 ∧ blk w' ch_b (vfn (qrotF Q2 t)) 31 ∧ blk w' su_b (vfn (vaddF X.T (qrotF Q2 t))) 31) _ [(0, 93), (2, 7)] [0, 1, 2]
          case hn => rfl
          case hB => kernel_rfl
          case hds => kernel_rfl
          case hA => (intro p; simp only [putsD, Act.put, sIT, sCZ, sCS, gCZ, gCS]; exact rfl)
          case h0 => exact fun p => ⟨Nat.le_refl _, hB, cv, tv, r, g, sv, l, ch, su⟩
          case hmore => exact fun p L w1 w2 ⟨hsz, hB, cv, tv, r, g, sv, l, ch, su⟩ hm => ⟨Nat.le_trans hsz hm.size, hB.trans (hm.mono (Nat.le_trans hW0 hsz)), cv.below hm cv.lt, tv.below hm tv.lt, r.below hm r.lt, g.below hm g.lt, sv.below hm sv.lt, l.below hm l.lt, ch.below hm ch.lt, su.below hm su.lt⟩
          case hs =>
            intro more
            refine stepV 0 rfl rfl (fun _ _ _ h => h) ?_ ?_
            · rintro p L w1 ⟨hsz, hB, cv, tv, r, g, sv, l, ch, su⟩ hk
              have L1 : L 1 = false := hk.2.2 1 rfl
              first | exact valR_row _ _ rfl _ rfl _ _ ch _ Try.underlying31 rfl (by first | kernel_rfl | (rw [vfn_size]; kernel_rfl)) rfl | (have hc := ch.cellIs (vfn_get _ (show 0 < 3 by omega)); go_simp; exact ⟨rfl, rfl⟩)
            refine AllI.cons ?_ ?_
            · refine stepI_store 1 rfl (fun p => rfl) (fun p => rfl) _ _ _ rfl (fun _ => (w.heap.size + 2)) 0 (fun p => rfl) (fun p => (vfn (qrotF Q2 t))) (fun p => rfl) (fun p => (vfn fun _ => 0)) (fun p => (vfn (qrotF Q2 t))) 31 (fun p => over_v _ _) (fun p => by first | (rw [vfn_size, vfn_size]; decide) | simp [vfn_size, vfn_size]) (fun p => by rw [vfn_size]; kernel_rfl) (fun p => vfn_one _) ?_ ?_
              · rintro p L w1 ⟨hsz, hB, cv, tv, r, g, sv, l, ch, su⟩ hk
                have L1 : L 1 = false := hk.1
                rw [L1] at r
                try simp only [cond_true, cond_false] at r
                exact r
              · rintro p L w1 ⟨hsz, hB, cv, tv, r, g, sv, l, ch, su⟩ hk
                have L1 : L 1 = false := hk.1
                skip
                refine ⟨(by simpa using hsz), hB.row (by first | exact .inr (Nat.le_trans hW0 hp.1) | exact .inr ge_r | exact .inl ⟨Nat.le_refl _, Nat.le_refl _⟩ | omega | (have := hB.size; simp at this ⊢; omega)) _, cv.rowOther (by first | exact ne_cv_r | exact Ne.symm ne_r_cv | omega) _, tv.rowOther (by first | exact ne_tv_r | exact Ne.symm ne_r_tv | omega) _, ?_, g.rowOther (Ne.symm ne_r_g) _, sv.rowOther (Ne.symm ne_r_sv) _, l.rowOther (Ne.symm ne_r_l) _, ch.rowOther (Ne.symm ne_r_ch) _, su.rowOther (Ne.symm ne_r_su) _⟩
                rw [show upL L 1 1 = true from rfl]
                exact r.row _
            refine stepV 2 rfl rfl (fun _ _ _ h => h) ?_ ?_
            · intros; go_simp; exact ⟨rfl, rfl⟩
            exact AllI.nil
          case hV0 => exact fun p q => AllI.nil
          case he =>
          clear hB cv tv r g sv l ch su
          rintro p walrr ⟨hsz, hB, cv, tv, r, g, sv, l, ch, su⟩
          replace r : blk walrr (w.heap.size + 2) (vfn (qrotF Q2 t)) 31 := r
          clear lt_cv lt_tv lt_r lt_g lt_sv lt_l lt_ch lt_su hsz hW0
          go_wp2_with (fail)
          refine bodyPost_ret (results_vec rfl _ _ _ _ _ _ _ rfl r Try.underlying31 rfl (by first | kernel_rfl | (rw [vfn_size]; kernel_rfl))) rfl ?_
          exact ⟨rfl, ⟨s, hl, hu, g, sv⟩, hB⟩
theorem btick_any (X : BSt) (lo b : Nat) (c t : Nat → Int) (w : World) (ho : bod lo b w X) (hQ : ∀ i, i < 4 → I64 (X.Q i)) (hI : SI X.h X.f) (hQ2 : ∀ i, i < 4 → I64 (tickQ X c i)) : Calls Try.prog 90 #[.pointer (some ⟨b, 0, none⟩), .agg (qfn c), .agg (vfn t)] w fun e w' => e = .returned (.tuple #[.agg (vfn (tickC X c t)), .int .i64 (tickE t)]) ∧ bod lo b w' (tickX X c t) ∧ Save lo b w w' := by
  cases ht : smallB t 1048576 with
  | false =>
    have e1 : tickC X c t = fun _ => 0 := by unfold tickC; rw [ht]; rfl
    have e2 : tickE t = 2 := by unfold tickE; rw [ht]; rfl
    have e3 : tickX X c t = X := by unfold tickX; rw [ht]; rfl
    rw [e1, e2, e3]
    exact (btick_no X lo b c t w ho ht).mono fun e w' ⟨he, hb⟩ => ⟨he, ho.below hb ho.lt, Save.of hb⟩
  | true =>
    have e2 : tickE t = 0 := by unfold tickE; rw [ht]; rfl
    have e1 : tickC X c t = bif allB (tickS X c t) then tickD X c t else fun _ => 0 := by unfold tickC; rw [ht]; cases allB (tickS X c t) <;> rfl
    have e3 : tickX X c t = ⟨tickQ X c, bif allB (tickS X c t) then tickS X c t else X.T, tickH X c, X.f⟩ := by unfold tickX; rw [ht]; cases allB (tickS X c t) <;> rfl
    rw [e1, e2, e3]
    exact btick_ok X lo b c t w ho hQ hI ht hQ2
end Go.Proofs.Ytkmelddejdikgaa
