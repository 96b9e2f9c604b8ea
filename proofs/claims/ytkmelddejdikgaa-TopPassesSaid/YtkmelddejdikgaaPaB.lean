/-
  The planner: next.
-/
import Derived.Test.YtkmelddejdikgaaPaA
set_option linter.unusedSimpArgs false
set_option linter.unusedVariables false
namespace Go.Proofs.Ytkmelddejdikgaa
open Go.RowKit PM Dt Pa
set_option maxRecDepth 100000 in
set_option maxHeartbeats 6000000 in
theorem next_A (L : Nat → Nat → Int) (gap : Int) (a : Option Addr) (n c pb mb : Nat) (last left bud : Int) (i : Nat) (w : World) (hp : blk w pb (plc (.slice a n c, gap, mb)) 126) (el : ElsN mb w a n 5 (fun k => (wnc (L k)).toList)) (hW : WOk n L) (hg : 0 ≤ gap ∧ gap ≤ 1099511627776) (hl : 0 ≤ left ∧ left ≤ 40) (hb : 0 ≤ bud ∧ bud ≤ 1099511627776) (hr : last < n) (hi : i < n) (hn : n ≤ 40) (hc : left = 0) : Calls Try.prog 71 #[.pointer (some ⟨pb, 0, none⟩), .agg (ptc (last, left, bud)), .int .i64 (i : Int)] w fun e w' => e = .returned (.tuple #[.agg (ptc (last, left, bud)), .bool false]) ∧ Below w.heap.size w w' := by
  obtain ⟨eb, eo, rfl, hEl, _, hE⟩ := el i hi
  replace hE : w.rangeAt eb (eo + i * 5) ((wnc (L i)).toList) := hE
  have hdi : decide ((i : Int) < n) = true := decide_eq_true (by omega)
  have hdi' : decide (i < n) = true := decide_eq_true hi
  have hi3 : (i : Int) < n := by omega
  have hi0 : (0 : Int) ≤ i := by omega
  have hco := hW.c i hi
  subst hc
  clear hco hW hg hl hb hr hn el
  generalize hwi : L i = wi at *
  clear hwi
  go_enter Try.func71, Try.ntmps71
  go_upto_region 1 with (fail)
  simp only [zero_ptc]
  have t : blk ((w.alloc (.cells (ptc (last, 0, bud)) 128)).alloc (.cells (ptc (0, 0, 0)) 128)) w.heap.size (ptc (last, 0, bud)) 128 := (blk.new _ _ _).alloc _
  have r : blk ((w.alloc (.cells (ptc (last, 0, bud)) 128)).alloc (.cells (ptc (0, 0, 0)) 128)) (w.heap.size + 1) (ptc (0, 0, 0)) 128 := blk.new' (by simp)
  have hB : Below w.heap.size w ((w.alloc (.cells (ptc (last, 0, bud)) 128)).alloc (.cells (ptc (0, 0, 0)) 128)) := by go_grown
  generalize ((w.alloc (.cells (ptc (last, 0, bud)) 128)).alloc (.cells (ptc (0, 0, 0)) 128)) = w0 at *
  have g : blk w0 pb (plc (.slice (some ⟨eb, eo, none⟩) n c, gap, mb)) 126 := hp.below hB hp.lt
  have glt := hp.lt
  clear hp
  have ne_t_g : w.heap.size ≠ pb := by omega
  have ne_r_g : w.heap.size + 1 ≠ pb := by omega
  have ne_t_r : w.heap.size ≠ w.heap.size + 1 := by omega
  have lt_t := t.lt
  have lt_r := r.lt
  have lt_g := g.lt
  have hW0 : w.heap.size ≤ w0.heap.size := by have := hB.size; first | exact this | simpa using this
  apply wp_region_Q 9 [0, 1, 3, 7, 15, 31, 63, 127, 255] [7] [_, _, _, _, _, _, _, (fun p => .pointer (some ⟨p 7, 0, none⟩)), (fun _ => undef)] (fun p L w' => w0.heap.size ≤ w'.heap.size ∧ Below w.heap.size w w' ∧ blk w' w.heap.size (ptc (last, 0, bud)) 128 ∧ blk w' (w.heap.size + 1) (ptc (0, 0, 0)) 128 ∧ blk w' pb (plc (.slice (some ⟨eb, eo, none⟩) n c, gap, mb)) 126 ∧ (L 7 = true → w0.heap.size ≤ p 7 ∧ blk w' (p 7) (bif L 8 then (wnc wi) else (wnc fun _ => 0)) 72)) _ [(0, 9), (1, 10), (2, 11), (3, 12), (4, 13), (5, 14), (6, 15), (7, 8)] [0, 1, 2, 3, 4, 5, 6, 7, 8]
  case hn => rfl
  case hB => kernel_rfl
  case hds => kernel_rfl
  case hA => (intro p; simp only [putsD, Act.put, List.setIfInBounds_toArray, List.set_cons_zero, List.set_cons_succ, List.getD_cons_zero, List.getD_cons_succ]; exact rfl)
  case h0 => exact fun p => ⟨Nat.le_refl _, hB, t, r, g, fun h => absurd h (by decide)⟩
  case hmore => exact fun p L w1 w2 ⟨hsz, hB, t, r, g, h_x⟩ hm => ⟨Nat.le_trans hsz hm.size, hB.trans (hm.mono (Nat.le_trans hW0 hsz)), t.below hm t.lt, r.below hm r.lt, g.below hm g.lt, fun hl => ⟨(h_x hl).1, (h_x hl).2.below hm (h_x hl).2.lt⟩⟩
  case hs =>
    intro more
    iterate 3 (refine stepV _ rfl rfl (fun _ _ _ h => h) (by intros; go_simp; exact ⟨rfl, rfl⟩) ?_)
    refine stepV 3 rfl rfl (fun _ _ _ h => h) ?_ ?_
    · rintro p L w1 ⟨hsz, hB, t, r, g, h_x⟩ hk
      have L8 : L 8 = false := hk.2.2 8 rfl
      have hc : w1.cell? ⟨pb, 0, none⟩ = some (.slice (some ⟨eb, eo, none⟩) n c) := g.cellIs rfl
      go_simp
      exact ⟨rfl, rfl⟩
    iterate 2 (refine stepV _ rfl rfl (fun _ _ _ h => h) (by intros; go_simp; exact ⟨rfl, rfl⟩) ?_)
    refine stepV 6 rfl rfl (fun _ _ _ h => h) ?_ ?_
    · rintro p L w1 ⟨hsz, hB, t, r, g, h_x⟩ hk
      have hr := range_below hE hB hEl
      exact valR_range _ _ rfl _ _ rfl _ (eo + i * 5) 0 hr (by first | rfl | omega) (wnc wi) (wnc_get wi) _ Try.underlying72 rfl (by rw [wnc_size]; kernel_rfl) rfl
    refine AllI.cons ?_ ?_
    · refine stepI_alloc 7 rfl (fun p => rfl) rfl (wnc fun _ => 0) 72 (fun p => rfl) ?_ ?_
      · intro p w1
        go_simp
        first | done | rfl | rw [zero_wnc]
      rintro p L w1 ⟨hsz, hB, t, r, g, h_x⟩ hk
      have L8 : L 8 = false := hk.2.2 8 rfl
      refine ⟨Nat.le_trans hsz (by simp), hB.alloc (Nat.le_trans (by first | exact hW0 | (have := hB.size; simp at this ⊢; omega)) hsz) _, t.alloc _, r.alloc _, g.alloc _, fun _ => ⟨hsz, ?_⟩⟩
      rw [show upL L 7 8 = false from L8]
      exact blk.new _ _ _
    refine AllI.cons ?_ ?_
    · refine stepI_store 8 rfl (fun p => rfl) (fun p => rfl) _ _ _ rfl (fun p => p 7) 0 (fun p => rfl) (fun p => (wnc wi)) (fun p => rfl) (fun p => (wnc fun _ => 0)) (fun p => (wnc wi)) 72 (fun p => over_wnc _ _) (fun p => by first | (rw [wnc_size, wnc_size]; decide) | simp [wnc_size, wnc_size]) (fun p => by rw [wnc_size]; kernel_rfl) (fun p => wnc_one _) ?_ ?_
      · rintro p L w1 ⟨hsz, hB, t, r, g, h_x⟩ hk
        have L8 : L 8 = false := hk.1
        have hh := (h_x (hk.2.1 7 rfl)).2
        rw [L8] at hh
        try simp only [cond_true, cond_false] at hh
        exact hh
      · rintro p L w1 ⟨hsz, hB, t, r, g, h_x⟩ hk
        have L8 : L 8 = false := hk.1
        skip
        have hp := h_x (hk.2.1 7 rfl)
        refine ⟨(by simpa using hsz), Below.setRow hB (by first | exact Nat.le_trans hW0 hp.1 | exact ge_x | omega | (have := hB.size; simp at this ⊢; omega)) _, t.rowOther (by first | exact Nat.ne_of_lt (Nat.lt_of_lt_of_le lt_t hp.1) | omega) _, r.rowOther (by first | exact Nat.ne_of_lt (Nat.lt_of_lt_of_le lt_r hp.1) | omega) _, g.rowOther (by first | exact Nat.ne_of_lt (Nat.lt_of_lt_of_le lt_g hp.1) | omega) _, fun _ => ⟨hp.1, ?_⟩⟩
        rw [show upL L 8 8 = true from rfl]
        exact hp.2.row _
    exact AllI.nil
  case hV0 =>
    intro p q
    refine AllI.cons ?_ ?_
    · skip
      iterate 9 (refine AllI.cons (by first | exact .inl rfl | (refine .inr ?_; simp only [List.getD_cons_zero, List.getD_cons_succ]; done) | exact .inr rfl) ?_)
      exact AllI.nil
    exact AllI.nil
  case he =>
  clear hB t r g
  rintro p w0r ⟨hsz, hB, t, r, g, h_x⟩
  obtain ⟨le_x, x⟩ := h_x rfl
  clear h_x
  replace x : blk w0r (p 7) (wnc wi) 72 := x
  have ne_t_x : w.heap.size ≠ p 7 := Nat.ne_of_lt (Nat.lt_of_lt_of_le lt_t le_x)
  have ne_r_x : (w.heap.size + 1) ≠ p 7 := Nat.ne_of_lt (Nat.lt_of_lt_of_le lt_r le_x)
  have ne_g_x : pb ≠ p 7 := Nat.ne_of_lt (Nat.lt_of_lt_of_le lt_g le_x)
  have ge_x : w.heap.size ≤ p 7 := Nat.le_trans hW0 le_x
  generalize p 7 = x_b at *
  clear lt_t
  clear lt_r
  clear lt_g
  clear hsz hW0
  go_upto_region 2 with (fail)
  have lt_t := t.lt
  have lt_r := r.lt
  have lt_g := g.lt
  have lt_x := x.lt
  have hW0 : w.heap.size ≤ w0r.heap.size := by have := hB.size; first | exact this | simpa using this
  apply wp_region_I 32 [0, 1, 3, 7, 15, 31, 15, 79, 255, 511, 1023, 2047, 4095, 8191, 16383, 32767, 65535, 131071, 262143, 32767, 557055, 2097151, 4194303, 32767, 32767, 16809983, 50364415, 117473279, 268435455, 536870911, 1073741823, 2147483647] [] [_, _, _, _, _, _, _, _, _, _, _, _, _, _, _, _, _, _, _, _, _, _, _, _, _, _, _, _, _, _, _, _] (fun p L w' => w0r.heap.size ≤ w'.heap.size ∧ Below w.heap.size w w' ∧ blk w' w.heap.size (ptc (last, 0, bud)) 128 ∧ blk w' (w.heap.size + 1) (ptc (0, 0, 0)) 128 ∧ blk w' pb (plc (.slice (some ⟨eb, eo, none⟩) n c, gap, mb)) 126 ∧ blk w' x_b (wnc wi) 72) _ [(0, 16), (1, 17), (2, 18), (3, 19), (4, 20), (5, 21), (6, 22), (7, 23), (8, 24), (9, 25), (10, 26), (11, 27), (12, 28), (13, 29), (14, 30), (15, 31), (16, 32), (17, 33), (18, 34), (19, 35), (20, 36), (21, 37), (22, 38), (23, 39), (24, 40), (25, 41), (26, 42), (27, 43), (28, 44), (29, 45), (30, 46), (31, 47)] [0, 1, 2, 3, 4, 5, 6, 7, 8, 9, 10, 11, 12, 13, 14, 15, 16, 17, 18, 19, 20, 21, 22, 23, 24, 25, 26, 27, 28, 29, 30, 31]
  case hn => rfl
  case hm => kernel_rfl
  case hB => kernel_rfl
  case hds => kernel_rfl
  case hA => (intro p; simp only [putsD, Act.put, List.setIfInBounds_toArray, List.set_cons_zero, List.set_cons_succ, List.getD_cons_zero, List.getD_cons_succ]; exact rfl)
  case h0 => exact fun p => ⟨Nat.le_refl _, hB.drew, t.drew, r.drew, g.drew, x.drew⟩
  case hmore => exact fun p L w1 w2 ⟨hsz, hB, t, r, g, x⟩ hm => ⟨Nat.le_trans hsz hm.size, hB.trans (hm.mono (Nat.le_trans hW0 hsz)), t.below hm t.lt, r.below hm r.lt, g.below hm g.lt, x.below hm x.lt⟩
  case hs =>
    intro more
    refine stepV _ rfl rfl (fun _ _ _ h => h) (by intros; go_simp; exact ⟨rfl, rfl⟩) ?_
    refine stepV 1 rfl rfl (fun _ _ _ h => h) ?_ ?_
    · rintro p L w1 ⟨hsz, hB, t, r, g, x⟩ hk
      have hc : w1.cell? ⟨w.heap.size, 1, none⟩ = some (.int .i64 0) := t.cellIs rfl
      go_simp
      exact ⟨rfl, rfl⟩
    iterate 2 (refine stepV _ rfl rfl (fun _ _ _ h => h) (by intros; go_simp; exact ⟨rfl, rfl⟩) ?_)
    iterate 5 (refine AllI.cons (stepI_off _ rfl (fun p => rfl) (fun p => rfl) (fun _ _ _ h => h)) ?_)
    iterate 2 (refine stepV _ rfl rfl (fun _ _ _ h => h) (by intros; go_simp; exact ⟨rfl, rfl⟩) ?_)
    iterate 20 (refine AllI.cons (stepI_off _ rfl (fun p => rfl) (fun p => rfl) (fun _ _ _ h => h)) ?_)
    refine stepV _ rfl rfl (fun _ _ _ h => h) (by intros; go_simp; exact ⟨rfl, rfl⟩) ?_
    exact AllI.nil
  case hV0 => exact fun p q => AllI.nil
  case he =>
  clear hB t r g x
  rintro p w0rr ⟨hsz, hB, t, r, g, x⟩
  clear lt_t
  clear lt_r
  clear lt_g
  clear lt_x
  clear hsz hW0
  go_upto_region 3 with (fail)
  have lt_t := t.lt
  have lt_r := r.lt
  have lt_g := g.lt
  have lt_x := x.lt
  have hW0 : w.heap.size ≤ w0rr.heap.size := by have := hB.size; first | exact this | simpa using this
  apply wp_region_Q 3 [0, 1, 3] [] [_, (fun _ => undef), _] (fun p L w' => w0rr.heap.size ≤ w'.heap.size ∧ Below w.heap.size w w' ∧ blk w' w.heap.size (ptc (last, 0, bud)) 128 ∧ blk w' (w.heap.size + 1) (bif L 1 then (ptc (last, 0, bud)) else (ptc (0, 0, 0))) 128 ∧ blk w' pb (plc (.slice (some ⟨eb, eo, none⟩) n c, gap, mb)) 126 ∧ blk w' x_b (wnc wi) 72) _ [(0, 48), (2, 7)] [0, 1, 2]
  case hn => rfl
  case hB => kernel_rfl
  case hds => kernel_rfl
  case hA => (intro p; simp only [putsD, Act.put, List.setIfInBounds_toArray, List.set_cons_zero, List.set_cons_succ, List.getD_cons_zero, List.getD_cons_succ]; exact rfl)
  case h0 => exact fun p => ⟨Nat.le_refl _, hB, t, r, g, x⟩
  case hmore => exact fun p L w1 w2 ⟨hsz, hB, t, r, g, x⟩ hm => ⟨Nat.le_trans hsz hm.size, hB.trans (hm.mono (Nat.le_trans hW0 hsz)), t.below hm t.lt, r.below hm r.lt, g.below hm g.lt, x.below hm x.lt⟩
  case hs =>
    intro more
    refine stepV 0 rfl rfl (fun _ _ _ h => h) ?_ ?_
    · rintro p L w1 ⟨hsz, hB, t, r, g, x⟩ hk
      have L1 : L 1 = false := hk.2.2 1 rfl
      first | exact valR_row _ _ rfl _ rfl _ _ t _ Try.underlying128 rfl (by first | kernel_rfl | (rw [ptc_size]; kernel_rfl)) rfl | (have hc := t.cellIs (show _[0]? = some _ from rfl); go_simp; exact ⟨rfl, rfl⟩)
    refine AllI.cons ?_ ?_
    · refine stepI_store 1 rfl (fun p => rfl) (fun p => rfl) _ _ _ rfl (fun _ => (w.heap.size + 1)) 0 (fun p => rfl) (fun p => (ptc (last, 0, bud))) (fun p => rfl) (fun p => (ptc (0, 0, 0))) (fun p => (ptc (last, 0, bud))) 128 (fun p => over_ptc _ _) (fun p => by first | (rw [ptc_size, ptc_size]; decide) | simp [ptc_size, ptc_size]) (fun p => by rw [ptc_size]; kernel_rfl) (fun p => ptc_one _) ?_ ?_
      · rintro p L w1 ⟨hsz, hB, t, r, g, x⟩ hk
        have L1 : L 1 = false := hk.1
        rw [L1] at r
        try simp only [cond_true, cond_false] at r
        exact r
      · rintro p L w1 ⟨hsz, hB, t, r, g, x⟩ hk
        have L1 : L 1 = false := hk.1
        skip
        refine ⟨(by simpa using hsz), Below.setRow hB (by first | exact Nat.le_trans hW0 hp.1 | exact ge_r | omega | (have := hB.size; simp at this ⊢; omega)) _, t.rowOther (by first | exact ne_t_r | exact Ne.symm ne_r_t | omega) _, ?_, g.rowOther (by first | exact ne_g_r | exact Ne.symm ne_r_g | omega) _, x.rowOther (by first | exact ne_x_r | exact Ne.symm ne_r_x | omega) _⟩
        rw [show upL L 1 1 = true from rfl]
        exact r.row _
    refine stepV _ rfl rfl (fun _ _ _ h => h) (by intros; go_simp; exact ⟨rfl, rfl⟩) ?_
    exact AllI.nil
  case hV0 => exact fun p q => AllI.nil
  case he =>
  clear hB t r g x
  rintro p w0rrr ⟨hsz, hB, t, r, g, x⟩
  replace r : blk w0rrr (w.heap.size + 1) (ptc (last, 0, bud)) 128 := r
  clear lt_t
  clear lt_r
  clear lt_g
  clear lt_x
  clear hsz hW0
  go_wp2_with (fail)
  refine bodyPost_ret (results_vec rfl _ _ _ _ _ _ _ rfl r Try.underlying128 rfl (by first | kernel_rfl | (rw [ptc_size]; kernel_rfl))) rfl ?_
  refine ⟨?_, hB⟩
  rfl
set_option maxRecDepth 100000 in
set_option maxHeartbeats 6000000 in
theorem next_B (L : Nat → Nat → Int) (gap : Int) (a : Option Addr) (n c pb mb : Nat) (last left bud : Int) (i : Nat) (w : World) (hp : blk w pb (plc (.slice a n c, gap, mb)) 126) (el : ElsN mb w a n 5 (fun k => (wnc (L k)).toList)) (hW : WOk n L) (hg : 0 ≤ gap ∧ gap ≤ 1099511627776) (hl : 0 ≤ left ∧ left ≤ 40) (hb : 0 ≤ bud ∧ bud ≤ 1099511627776) (hr : last < n) (hi : i < n) (hn : n ≤ 40) (hc : left ≠ 0 ∧ bud < L i 4) : Calls Try.prog 71 #[.pointer (some ⟨pb, 0, none⟩), .agg (ptc (last, left, bud)), .int .i64 (i : Int)] w fun e w' => e = .returned (.tuple #[.agg (ptc (last, left, bud)), .bool false]) ∧ Below w.heap.size w w' := by
  obtain ⟨eb, eo, rfl, hEl, _, hE⟩ := el i hi
  replace hE : w.rangeAt eb (eo + i * 5) ((wnc (L i)).toList) := hE
  have hdi : decide ((i : Int) < n) = true := decide_eq_true (by omega)
  have hdi' : decide (i < n) = true := decide_eq_true hi
  have hi3 : (i : Int) < n := by omega
  have hi0 : (0 : Int) ≤ i := by omega
  have hco := hW.c i hi
  have dl : decide (left = 0) = false := decide_eq_false hc.1
  have dl2 : (left == 0) = false := beq_eq_false_iff_ne.2 hc.1
  have db : decide (bud < L i 4) = true := decide_eq_true hc.2
  clear hc hco hW hg hl hb hr hn el
  generalize hwi : L i = wi at *
  clear hwi
  go_enter Try.func71, Try.ntmps71
  go_upto_region 1 with (fail)
  simp only [zero_ptc]
  have t : blk ((w.alloc (.cells (ptc (last, left, bud)) 128)).alloc (.cells (ptc (0, 0, 0)) 128)) w.heap.size (ptc (last, left, bud)) 128 := (blk.new _ _ _).alloc _
  have r : blk ((w.alloc (.cells (ptc (last, left, bud)) 128)).alloc (.cells (ptc (0, 0, 0)) 128)) (w.heap.size + 1) (ptc (0, 0, 0)) 128 := blk.new' (by simp)
  have hB : Below w.heap.size w ((w.alloc (.cells (ptc (last, left, bud)) 128)).alloc (.cells (ptc (0, 0, 0)) 128)) := by go_grown
  generalize ((w.alloc (.cells (ptc (last, left, bud)) 128)).alloc (.cells (ptc (0, 0, 0)) 128)) = w0 at *
  have g : blk w0 pb (plc (.slice (some ⟨eb, eo, none⟩) n c, gap, mb)) 126 := hp.below hB hp.lt
  have glt := hp.lt
  clear hp
  have ne_t_g : w.heap.size ≠ pb := by omega
  have ne_r_g : w.heap.size + 1 ≠ pb := by omega
  have ne_t_r : w.heap.size ≠ w.heap.size + 1 := by omega
  have lt_t := t.lt
  have lt_r := r.lt
  have lt_g := g.lt
  have hW0 : w.heap.size ≤ w0.heap.size := by have := hB.size; first | exact this | simpa using this
  apply wp_region_Q 9 [0, 1, 3, 7, 15, 31, 63, 127, 255] [7] [_, _, _, _, _, _, _, (fun p => .pointer (some ⟨p 7, 0, none⟩)), (fun _ => undef)] (fun p L w' => w0.heap.size ≤ w'.heap.size ∧ Below w.heap.size w w' ∧ blk w' w.heap.size (ptc (last, left, bud)) 128 ∧ blk w' (w.heap.size + 1) (ptc (0, 0, 0)) 128 ∧ blk w' pb (plc (.slice (some ⟨eb, eo, none⟩) n c, gap, mb)) 126 ∧ (L 7 = true → w0.heap.size ≤ p 7 ∧ blk w' (p 7) (bif L 8 then (wnc wi) else (wnc fun _ => 0)) 72)) _ [(0, 9), (1, 10), (2, 11), (3, 12), (4, 13), (5, 14), (6, 15), (7, 8)] [0, 1, 2, 3, 4, 5, 6, 7, 8]
  case hn => rfl
  case hB => kernel_rfl
  case hds => kernel_rfl
  case hA => (intro p; simp only [putsD, Act.put, List.setIfInBounds_toArray, List.set_cons_zero, List.set_cons_succ, List.getD_cons_zero, List.getD_cons_succ]; exact rfl)
  case h0 => exact fun p => ⟨Nat.le_refl _, hB, t, r, g, fun h => absurd h (by decide)⟩
  case hmore => exact fun p L w1 w2 ⟨hsz, hB, t, r, g, h_x⟩ hm => ⟨Nat.le_trans hsz hm.size, hB.trans (hm.mono (Nat.le_trans hW0 hsz)), t.below hm t.lt, r.below hm r.lt, g.below hm g.lt, fun hl => ⟨(h_x hl).1, (h_x hl).2.below hm (h_x hl).2.lt⟩⟩
  case hs =>
    intro more
    iterate 3 (refine stepV _ rfl rfl (fun _ _ _ h => h) (by intros; go_simp; exact ⟨rfl, rfl⟩) ?_)
    refine stepV 3 rfl rfl (fun _ _ _ h => h) ?_ ?_
    · rintro p L w1 ⟨hsz, hB, t, r, g, h_x⟩ hk
      have L8 : L 8 = false := hk.2.2 8 rfl
      have hc : w1.cell? ⟨pb, 0, none⟩ = some (.slice (some ⟨eb, eo, none⟩) n c) := g.cellIs rfl
      go_simp
      exact ⟨rfl, rfl⟩
    iterate 2 (refine stepV _ rfl rfl (fun _ _ _ h => h) (by intros; go_simp; exact ⟨rfl, rfl⟩) ?_)
    refine stepV 6 rfl rfl (fun _ _ _ h => h) ?_ ?_
    · rintro p L w1 ⟨hsz, hB, t, r, g, h_x⟩ hk
      have hr := range_below hE hB hEl
      exact valR_range _ _ rfl _ _ rfl _ (eo + i * 5) 0 hr (by first | rfl | omega) (wnc wi) (wnc_get wi) _ Try.underlying72 rfl (by rw [wnc_size]; kernel_rfl) rfl
    refine AllI.cons ?_ ?_
    · refine stepI_alloc 7 rfl (fun p => rfl) rfl (wnc fun _ => 0) 72 (fun p => rfl) ?_ ?_
      · intro p w1
        go_simp
        first | done | rfl | rw [zero_wnc]
      rintro p L w1 ⟨hsz, hB, t, r, g, h_x⟩ hk
      have L8 : L 8 = false := hk.2.2 8 rfl
      refine ⟨Nat.le_trans hsz (by simp), hB.alloc (Nat.le_trans (by first | exact hW0 | (have := hB.size; simp at this ⊢; omega)) hsz) _, t.alloc _, r.alloc _, g.alloc _, fun _ => ⟨hsz, ?_⟩⟩
      rw [show upL L 7 8 = false from L8]
      exact blk.new _ _ _
    refine AllI.cons ?_ ?_
    · refine stepI_store 8 rfl (fun p => rfl) (fun p => rfl) _ _ _ rfl (fun p => p 7) 0 (fun p => rfl) (fun p => (wnc wi)) (fun p => rfl) (fun p => (wnc fun _ => 0)) (fun p => (wnc wi)) 72 (fun p => over_wnc _ _) (fun p => by first | (rw [wnc_size, wnc_size]; decide) | simp [wnc_size, wnc_size]) (fun p => by rw [wnc_size]; kernel_rfl) (fun p => wnc_one _) ?_ ?_
      · rintro p L w1 ⟨hsz, hB, t, r, g, h_x⟩ hk
        have L8 : L 8 = false := hk.1
        have hh := (h_x (hk.2.1 7 rfl)).2
        rw [L8] at hh
        try simp only [cond_true, cond_false] at hh
        exact hh
      · rintro p L w1 ⟨hsz, hB, t, r, g, h_x⟩ hk
        have L8 : L 8 = false := hk.1
        skip
        have hp := h_x (hk.2.1 7 rfl)
        refine ⟨(by simpa using hsz), Below.setRow hB (by first | exact Nat.le_trans hW0 hp.1 | exact ge_x | omega | (have := hB.size; simp at this ⊢; omega)) _, t.rowOther (by first | exact Nat.ne_of_lt (Nat.lt_of_lt_of_le lt_t hp.1) | omega) _, r.rowOther (by first | exact Nat.ne_of_lt (Nat.lt_of_lt_of_le lt_r hp.1) | omega) _, g.rowOther (by first | exact Nat.ne_of_lt (Nat.lt_of_lt_of_le lt_g hp.1) | omega) _, fun _ => ⟨hp.1, ?_⟩⟩
        rw [show upL L 8 8 = true from rfl]
        exact hp.2.row _
    exact AllI.nil
  case hV0 =>
    intro p q
    refine AllI.cons ?_ ?_
    · skip
      iterate 9 (refine AllI.cons (by first | exact .inl rfl | (refine .inr ?_; simp only [List.getD_cons_zero, List.getD_cons_succ]; done) | exact .inr rfl) ?_)
      exact AllI.nil
    exact AllI.nil
  case he =>
  clear hB t r g
  rintro p w0r ⟨hsz, hB, t, r, g, h_x⟩
  obtain ⟨le_x, x⟩ := h_x rfl
  clear h_x
  replace x : blk w0r (p 7) (wnc wi) 72 := x
  have ne_t_x : w.heap.size ≠ p 7 := Nat.ne_of_lt (Nat.lt_of_lt_of_le lt_t le_x)
  have ne_r_x : (w.heap.size + 1) ≠ p 7 := Nat.ne_of_lt (Nat.lt_of_lt_of_le lt_r le_x)
  have ne_g_x : pb ≠ p 7 := Nat.ne_of_lt (Nat.lt_of_lt_of_le lt_g le_x)
  have ge_x : w.heap.size ≤ p 7 := Nat.le_trans hW0 le_x
  generalize p 7 = x_b at *
  clear lt_t
  clear lt_r
  clear lt_g
  clear hsz hW0
  go_upto_region 2 with (fail)
  have lt_t := t.lt
  have lt_r := r.lt
  have lt_g := g.lt
  have lt_x := x.lt
  have hW0 : w.heap.size ≤ w0r.heap.size := by have := hB.size; first | exact this | simpa using this
  apply wp_region_I 32 [0, 1, 3, 7, 15, 31, 15, 79, 255, 511, 1023, 2047, 4095, 8191, 16383, 32767, 65535, 131071, 262143, 32767, 557055, 2097151, 4194303, 32767, 32767, 16809983, 50364415, 117473279, 268435455, 536870911, 1073741823, 2147483647] [] [_, _, _, _, _, _, _, _, _, _, _, _, _, _, _, _, _, _, _, _, _, _, _, _, _, _, _, _, _, _, _, _] (fun p L w' => w0r.heap.size ≤ w'.heap.size ∧ Below w.heap.size w w' ∧ blk w' w.heap.size (ptc (last, left, bud)) 128 ∧ blk w' (w.heap.size + 1) (ptc (0, 0, 0)) 128 ∧ blk w' pb (plc (.slice (some ⟨eb, eo, none⟩) n c, gap, mb)) 126 ∧ blk w' x_b (wnc wi) 72) _ [(0, 16), (1, 17), (2, 18), (3, 19), (4, 20), (5, 21), (6, 22), (7, 23), (8, 24), (9, 25), (10, 26), (11, 27), (12, 28), (13, 29), (14, 30), (15, 31), (16, 32), (17, 33), (18, 34), (19, 35), (20, 36), (21, 37), (22, 38), (23, 39), (24, 40), (25, 41), (26, 42), (27, 43), (28, 44), (29, 45), (30, 46), (31, 47)] [0, 1, 2, 3, 4, 5, 6, 7, 8, 9, 10, 11, 12, 13, 14, 15, 16, 17, 18, 19, 20, 21, 22, 23, 24, 25, 26, 27, 28, 29, 30, 31]
  case hn => rfl
  case hm => kernel_rfl
  case hB => kernel_rfl
  case hds => kernel_rfl
  case hA => (intro p; simp only [putsD, Act.put, List.setIfInBounds_toArray, List.set_cons_zero, List.set_cons_succ, List.getD_cons_zero, List.getD_cons_succ]; exact rfl)
  case h0 => exact fun p => ⟨Nat.le_refl _, hB.drew, t.drew, r.drew, g.drew, x.drew⟩
  case hmore => exact fun p L w1 w2 ⟨hsz, hB, t, r, g, x⟩ hm => ⟨Nat.le_trans hsz hm.size, hB.trans (hm.mono (Nat.le_trans hW0 hsz)), t.below hm t.lt, r.below hm r.lt, g.below hm g.lt, x.below hm x.lt⟩
  case hs =>
    intro more
    refine stepV _ rfl rfl (fun _ _ _ h => h) (by intros; go_simp; exact ⟨rfl, rfl⟩) ?_
    refine stepV 1 rfl rfl (fun _ _ _ h => h) ?_ ?_
    · rintro p L w1 ⟨hsz, hB, t, r, g, x⟩ hk
      have hc : w1.cell? ⟨w.heap.size, 1, none⟩ = some (.int .i64 left) := t.cellIs rfl
      go_simp
      exact ⟨rfl, rfl⟩
    iterate 2 (refine stepV _ rfl rfl (fun _ _ _ h => h) (by intros; go_simp; exact ⟨rfl, rfl⟩) ?_)
    refine stepVg _ rfl (fun p => (by first | rfl | (simp [Region.wanted, yielded]; done))) (fun _ _ _ h => h) (by intros; go_simp; exact ⟨rfl, rfl⟩) ?_
    refine stepVg 5 rfl (fun p => (by first | rfl | (simp [Region.wanted, yielded]; done))) (fun _ _ _ h => h) ?_ ?_
    · rintro p L w1 ⟨hsz, hB, t, r, g, x⟩ hk
      have hc : w1.cell? ⟨x_b, 4, none⟩ = some (.int .i64 (wi 4)) := x.cellIs rfl
      go_simp
      exact ⟨rfl, rfl⟩
    refine stepVg _ rfl (fun p => (by first | rfl | (simp [Region.wanted, yielded]; done))) (fun _ _ _ h => h) (by intros; go_simp; exact ⟨rfl, rfl⟩) ?_
    refine stepVg 7 rfl (fun p => (by first | rfl | (simp [Region.wanted, yielded]; done))) (fun _ _ _ h => h) ?_ ?_
    · rintro p L w1 ⟨hsz, hB, t, r, g, x⟩ hk
      have hc : w1.cell? ⟨w.heap.size, 2, none⟩ = some (.int .i64 bud) := t.cellIs rfl
      go_simp
      exact ⟨rfl, rfl⟩
    refine stepVg _ rfl (fun p => (by first | rfl | (simp [Region.wanted, yielded]; done))) (fun _ _ _ h => h) (by intros; go_simp; exact ⟨rfl, rfl⟩) ?_
    iterate 2 (refine stepV _ rfl rfl (fun _ _ _ h => h) (by intros; go_simp; exact ⟨rfl, rfl⟩) ?_)
    iterate 20 (refine AllI.cons (stepI_off _ rfl (fun p => rfl) (fun p => rfl) (fun _ _ _ h => h)) ?_)
    refine stepV _ rfl rfl (fun _ _ _ h => h) (by intros; go_simp; exact ⟨rfl, rfl⟩) ?_
    exact AllI.nil
  case hV0 => exact fun p q => AllI.nil
  case he =>
  clear hB t r g x
  rintro p w0rr ⟨hsz, hB, t, r, g, x⟩
  clear lt_t
  clear lt_r
  clear lt_g
  clear lt_x
  clear hsz hW0
  go_upto_region 3 with (fail)
  have lt_t := t.lt
  have lt_r := r.lt
  have lt_g := g.lt
  have lt_x := x.lt
  have hW0 : w.heap.size ≤ w0rr.heap.size := by have := hB.size; first | exact this | simpa using this
  apply wp_region_Q 3 [0, 1, 3] [] [_, (fun _ => undef), _] (fun p L w' => w0rr.heap.size ≤ w'.heap.size ∧ Below w.heap.size w w' ∧ blk w' w.heap.size (ptc (last, left, bud)) 128 ∧ blk w' (w.heap.size + 1) (bif L 1 then (ptc (last, left, bud)) else (ptc (0, 0, 0))) 128 ∧ blk w' pb (plc (.slice (some ⟨eb, eo, none⟩) n c, gap, mb)) 126 ∧ blk w' x_b (wnc wi) 72) _ [(0, 48), (2, 7)] [0, 1, 2]
  case hn => rfl
  case hB => kernel_rfl
  case hds => kernel_rfl
  case hA => (intro p; simp only [putsD, Act.put, List.setIfInBounds_toArray, List.set_cons_zero, List.set_cons_succ, List.getD_cons_zero, List.getD_cons_succ]; exact rfl)
  case h0 => exact fun p => ⟨Nat.le_refl _, hB, t, r, g, x⟩
  case hmore => exact fun p L w1 w2 ⟨hsz, hB, t, r, g, x⟩ hm => ⟨Nat.le_trans hsz hm.size, hB.trans (hm.mono (Nat.le_trans hW0 hsz)), t.below hm t.lt, r.below hm r.lt, g.below hm g.lt, x.below hm x.lt⟩
  case hs =>
    intro more
    refine stepV 0 rfl rfl (fun _ _ _ h => h) ?_ ?_
    · rintro p L w1 ⟨hsz, hB, t, r, g, x⟩ hk
      have L1 : L 1 = false := hk.2.2 1 rfl
      first | exact valR_row _ _ rfl _ rfl _ _ t _ Try.underlying128 rfl (by first | kernel_rfl | (rw [ptc_size]; kernel_rfl)) rfl | (have hc := t.cellIs (show _[0]? = some _ from rfl); go_simp; exact ⟨rfl, rfl⟩)
    refine AllI.cons ?_ ?_
    · refine stepI_store 1 rfl (fun p => rfl) (fun p => rfl) _ _ _ rfl (fun _ => (w.heap.size + 1)) 0 (fun p => rfl) (fun p => (ptc (last, left, bud))) (fun p => rfl) (fun p => (ptc (0, 0, 0))) (fun p => (ptc (last, left, bud))) 128 (fun p => over_ptc _ _) (fun p => by first | (rw [ptc_size, ptc_size]; decide) | simp [ptc_size, ptc_size]) (fun p => by rw [ptc_size]; kernel_rfl) (fun p => ptc_one _) ?_ ?_
      · rintro p L w1 ⟨hsz, hB, t, r, g, x⟩ hk
        have L1 : L 1 = false := hk.1
        rw [L1] at r
        try simp only [cond_true, cond_false] at r
        exact r
      · rintro p L w1 ⟨hsz, hB, t, r, g, x⟩ hk
        have L1 : L 1 = false := hk.1
        skip
        refine ⟨(by simpa using hsz), Below.setRow hB (by first | exact Nat.le_trans hW0 hp.1 | exact ge_r | omega | (have := hB.size; simp at this ⊢; omega)) _, t.rowOther (by first | exact ne_t_r | exact Ne.symm ne_r_t | omega) _, ?_, g.rowOther (by first | exact ne_g_r | exact Ne.symm ne_r_g | omega) _, x.rowOther (by first | exact ne_x_r | exact Ne.symm ne_r_x | omega) _⟩
        rw [show upL L 1 1 = true from rfl]
        exact r.row _
    refine stepV _ rfl rfl (fun _ _ _ h => h) (by intros; go_simp; exact ⟨rfl, rfl⟩) ?_
    exact AllI.nil
  case hV0 => exact fun p q => AllI.nil
  case he =>
  clear hB t r g x
  rintro p w0rrr ⟨hsz, hB, t, r, g, x⟩
  replace r : blk w0rrr (w.heap.size + 1) (ptc (last, left, bud)) 128 := r
  clear lt_t
  clear lt_r
  clear lt_g
  clear lt_x
  clear hsz hW0
  go_wp2_with (fail)
  refine bodyPost_ret (results_vec rfl _ _ _ _ _ _ _ rfl r Try.underlying128 rfl (by first | kernel_rfl | (rw [ptc_size]; kernel_rfl))) rfl ?_
  refine ⟨?_, hB⟩
  rfl
set_option maxRecDepth 100000 in
set_option maxHeartbeats 6000000 in
theorem next_C (L : Nat → Nat → Int) (gap : Int) (a : Option Addr) (n c pb mb : Nat) (last left bud : Int) (i : Nat) (w : World) (hp : blk w pb (plc (.slice a n c, gap, mb)) 126) (el : ElsN mb w a n 5 (fun k => (wnc (L k)).toList)) (hW : WOk n L) (hg : 0 ≤ gap ∧ gap ≤ 1099511627776) (hl : 0 ≤ left ∧ left ≤ 40) (hb : 0 ≤ bud ∧ bud ≤ 1099511627776) (hr : last < n) (hi : i < n) (hn : n ≤ 40) (hc : left ≠ 0 ∧ L i 4 ≤ bud ∧ last < 0) : Calls Try.prog 71 #[.pointer (some ⟨pb, 0, none⟩), .agg (ptc (last, left, bud)), .int .i64 (i : Int)] w fun e w' => e = .returned (.tuple #[.agg (ptc ((i : Int), left - 1, bud - L i 4)), .bool true]) ∧ Below w.heap.size w w' := by
  obtain ⟨eb, eo, rfl, hEl, _, hE⟩ := el i hi
  replace hE : w.rangeAt eb (eo + i * 5) ((wnc (L i)).toList) := hE
  have hdi : decide ((i : Int) < n) = true := decide_eq_true (by omega)
  have hdi' : decide (i < n) = true := decide_eq_true hi
  have hi3 : (i : Int) < n := by omega
  have hi0 : (0 : Int) ≤ i := by omega
  have hco := hW.c i hi
  have dl : decide (left = 0) = false := decide_eq_false hc.1
  have dl2 : (left == 0) = false := beq_eq_false_iff_ne.2 hc.1
  have db : decide (bud < L i 4) = false := decide_eq_false (by have := hc.2.1; omega)
  have dla : decide (0 ≤ last) = false := decide_eq_false (by have := hc.2.2; omega)
  have w1_ : IntKind.i64.wrap (left - 1) = left - 1 := by rw [IntKind.wrap_i64]; omega
  have w2_ : IntKind.i64.wrap (bud - L i 4) = bud - L i 4 := by rw [IntKind.wrap_i64]; omega
  clear hc hco hW hg hl hb hr hn el
  generalize hwi : L i = wi at *
  clear hwi
  go_enter Try.func71, Try.ntmps71
  go_upto_region 1 with (fail)
  simp only [zero_ptc]
  have t : blk ((w.alloc (.cells (ptc (last, left, bud)) 128)).alloc (.cells (ptc (0, 0, 0)) 128)) w.heap.size (ptc (last, left, bud)) 128 := (blk.new _ _ _).alloc _
  have r : blk ((w.alloc (.cells (ptc (last, left, bud)) 128)).alloc (.cells (ptc (0, 0, 0)) 128)) (w.heap.size + 1) (ptc (0, 0, 0)) 128 := blk.new' (by simp)
  have hB : Below w.heap.size w ((w.alloc (.cells (ptc (last, left, bud)) 128)).alloc (.cells (ptc (0, 0, 0)) 128)) := by go_grown
  generalize ((w.alloc (.cells (ptc (last, left, bud)) 128)).alloc (.cells (ptc (0, 0, 0)) 128)) = w0 at *
  have g : blk w0 pb (plc (.slice (some ⟨eb, eo, none⟩) n c, gap, mb)) 126 := hp.below hB hp.lt
  have glt := hp.lt
  clear hp
  have ne_t_g : w.heap.size ≠ pb := by omega
  have ne_r_g : w.heap.size + 1 ≠ pb := by omega
  have ne_t_r : w.heap.size ≠ w.heap.size + 1 := by omega
  have lt_t := t.lt
  have lt_r := r.lt
  have lt_g := g.lt
  have hW0 : w.heap.size ≤ w0.heap.size := by have := hB.size; first | exact this | simpa using this
  apply wp_region_Q 9 [0, 1, 3, 7, 15, 31, 63, 127, 255] [7] [_, _, _, _, _, _, _, (fun p => .pointer (some ⟨p 7, 0, none⟩)), (fun _ => undef)] (fun p L w' => w0.heap.size ≤ w'.heap.size ∧ Below w.heap.size w w' ∧ blk w' w.heap.size (ptc (last, left, bud)) 128 ∧ blk w' (w.heap.size + 1) (ptc (0, 0, 0)) 128 ∧ blk w' pb (plc (.slice (some ⟨eb, eo, none⟩) n c, gap, mb)) 126 ∧ (L 7 = true → w0.heap.size ≤ p 7 ∧ blk w' (p 7) (bif L 8 then (wnc wi) else (wnc fun _ => 0)) 72)) _ [(0, 9), (1, 10), (2, 11), (3, 12), (4, 13), (5, 14), (6, 15), (7, 8)] [0, 1, 2, 3, 4, 5, 6, 7, 8]
  case hn => rfl
  case hB => kernel_rfl
  case hds => kernel_rfl
  case hA => (intro p; simp only [putsD, Act.put, List.setIfInBounds_toArray, List.set_cons_zero, List.set_cons_succ, List.getD_cons_zero, List.getD_cons_succ]; exact rfl)
  case h0 => exact fun p => ⟨Nat.le_refl _, hB, t, r, g, fun h => absurd h (by decide)⟩
  case hmore => exact fun p L w1 w2 ⟨hsz, hB, t, r, g, h_x⟩ hm => ⟨Nat.le_trans hsz hm.size, hB.trans (hm.mono (Nat.le_trans hW0 hsz)), t.below hm t.lt, r.below hm r.lt, g.below hm g.lt, fun hl => ⟨(h_x hl).1, (h_x hl).2.below hm (h_x hl).2.lt⟩⟩
  case hs =>
    intro more
    iterate 3 (refine stepV _ rfl rfl (fun _ _ _ h => h) (by intros; go_simp; exact ⟨rfl, rfl⟩) ?_)
    refine stepV 3 rfl rfl (fun _ _ _ h => h) ?_ ?_
    · rintro p L w1 ⟨hsz, hB, t, r, g, h_x⟩ hk
      have L8 : L 8 = false := hk.2.2 8 rfl
      have hc : w1.cell? ⟨pb, 0, none⟩ = some (.slice (some ⟨eb, eo, none⟩) n c) := g.cellIs rfl
      go_simp
      exact ⟨rfl, rfl⟩
    iterate 2 (refine stepV _ rfl rfl (fun _ _ _ h => h) (by intros; go_simp; exact ⟨rfl, rfl⟩) ?_)
    refine stepV 6 rfl rfl (fun _ _ _ h => h) ?_ ?_
    · rintro p L w1 ⟨hsz, hB, t, r, g, h_x⟩ hk
      have hr := range_below hE hB hEl
      exact valR_range _ _ rfl _ _ rfl _ (eo + i * 5) 0 hr (by first | rfl | omega) (wnc wi) (wnc_get wi) _ Try.underlying72 rfl (by rw [wnc_size]; kernel_rfl) rfl
    refine AllI.cons ?_ ?_
    · refine stepI_alloc 7 rfl (fun p => rfl) rfl (wnc fun _ => 0) 72 (fun p => rfl) ?_ ?_
      · intro p w1
        go_simp
        first | done | rfl | rw [zero_wnc]
      rintro p L w1 ⟨hsz, hB, t, r, g, h_x⟩ hk
      have L8 : L 8 = false := hk.2.2 8 rfl
      refine ⟨Nat.le_trans hsz (by simp), hB.alloc (Nat.le_trans (by first | exact hW0 | (have := hB.size; simp at this ⊢; omega)) hsz) _, t.alloc _, r.alloc _, g.alloc _, fun _ => ⟨hsz, ?_⟩⟩
      rw [show upL L 7 8 = false from L8]
      exact blk.new _ _ _
    refine AllI.cons ?_ ?_
    · refine stepI_store 8 rfl (fun p => rfl) (fun p => rfl) _ _ _ rfl (fun p => p 7) 0 (fun p => rfl) (fun p => (wnc wi)) (fun p => rfl) (fun p => (wnc fun _ => 0)) (fun p => (wnc wi)) 72 (fun p => over_wnc _ _) (fun p => by first | (rw [wnc_size, wnc_size]; decide) | simp [wnc_size, wnc_size]) (fun p => by rw [wnc_size]; kernel_rfl) (fun p => wnc_one _) ?_ ?_
      · rintro p L w1 ⟨hsz, hB, t, r, g, h_x⟩ hk
        have L8 : L 8 = false := hk.1
        have hh := (h_x (hk.2.1 7 rfl)).2
        rw [L8] at hh
        try simp only [cond_true, cond_false] at hh
        exact hh
      · rintro p L w1 ⟨hsz, hB, t, r, g, h_x⟩ hk
        have L8 : L 8 = false := hk.1
        skip
        have hp := h_x (hk.2.1 7 rfl)
        refine ⟨(by simpa using hsz), Below.setRow hB (by first | exact Nat.le_trans hW0 hp.1 | exact ge_x | omega | (have := hB.size; simp at this ⊢; omega)) _, t.rowOther (by first | exact Nat.ne_of_lt (Nat.lt_of_lt_of_le lt_t hp.1) | omega) _, r.rowOther (by first | exact Nat.ne_of_lt (Nat.lt_of_lt_of_le lt_r hp.1) | omega) _, g.rowOther (by first | exact Nat.ne_of_lt (Nat.lt_of_lt_of_le lt_g hp.1) | omega) _, fun _ => ⟨hp.1, ?_⟩⟩
        rw [show upL L 8 8 = true from rfl]
        exact hp.2.row _
    exact AllI.nil
  case hV0 =>
    intro p q
    refine AllI.cons ?_ ?_
    · skip
      iterate 9 (refine AllI.cons (by first | exact .inl rfl | (refine .inr ?_; simp only [List.getD_cons_zero, List.getD_cons_succ]; done) | exact .inr rfl) ?_)
      exact AllI.nil
    exact AllI.nil
  case he =>
  clear hB t r g
  rintro p w0r ⟨hsz, hB, t, r, g, h_x⟩
  obtain ⟨le_x, x⟩ := h_x rfl
  clear h_x
  replace x : blk w0r (p 7) (wnc wi) 72 := x
  have ne_t_x : w.heap.size ≠ p 7 := Nat.ne_of_lt (Nat.lt_of_lt_of_le lt_t le_x)
  have ne_r_x : (w.heap.size + 1) ≠ p 7 := Nat.ne_of_lt (Nat.lt_of_lt_of_le lt_r le_x)
  have ne_g_x : pb ≠ p 7 := Nat.ne_of_lt (Nat.lt_of_lt_of_le lt_g le_x)
  have ge_x : w.heap.size ≤ p 7 := Nat.le_trans hW0 le_x
  generalize p 7 = x_b at *
  clear lt_t
  clear lt_r
  clear lt_g
  clear hsz hW0
  go_upto_region 2 with (fail)
  have lt_t := t.lt
  have lt_r := r.lt
  have lt_g := g.lt
  have lt_x := x.lt
  have hW0 : w.heap.size ≤ w0r.heap.size := by have := hB.size; first | exact this | simpa using this
  apply wp_region_I 32 [0, 1, 3, 7, 15, 31, 15, 79, 255, 511, 1023, 2047, 4095, 8191, 16383, 32767, 65535, 131071, 262143, 32767, 557055, 2097151, 4194303, 32767, 32767, 16809983, 50364415, 117473279, 268435455, 536870911, 1073741823, 2147483647] [] [_, _, _, _, _, _, _, _, _, _, _, _, _, _, _, _, _, _, _, _, _, _, _, _, _, _, _, _, _, _, _, _] (fun p L w' => w0r.heap.size ≤ w'.heap.size ∧ Below w.heap.size w w' ∧ blk w' w.heap.size (ptc (last, left, bud)) 128 ∧ blk w' (w.heap.size + 1) (ptc (0, 0, 0)) 128 ∧ blk w' pb (plc (.slice (some ⟨eb, eo, none⟩) n c, gap, mb)) 126 ∧ blk w' x_b (wnc wi) 72) _ [(0, 16), (1, 17), (2, 18), (3, 19), (4, 20), (5, 21), (6, 22), (7, 23), (8, 24), (9, 25), (10, 26), (11, 27), (12, 28), (13, 29), (14, 30), (15, 31), (16, 32), (17, 33), (18, 34), (19, 35), (20, 36), (21, 37), (22, 38), (23, 39), (24, 40), (25, 41), (26, 42), (27, 43), (28, 44), (29, 45), (30, 46), (31, 47)] [0, 1, 2, 3, 4, 5, 6, 7, 8, 9, 10, 11, 12, 13, 14, 15, 16, 17, 18, 19, 20, 21, 22, 23, 24, 25, 26, 27, 28, 29, 30, 31]
  case hn => rfl
  case hm => kernel_rfl
  case hB => kernel_rfl
  case hds => kernel_rfl
  case hA => (intro p; simp only [putsD, Act.put, List.setIfInBounds_toArray, List.set_cons_zero, List.set_cons_succ, List.getD_cons_zero, List.getD_cons_succ]; exact rfl)
  case h0 => exact fun p => ⟨Nat.le_refl _, hB.drew, t.drew, r.drew, g.drew, x.drew⟩
  case hmore => exact fun p L w1 w2 ⟨hsz, hB, t, r, g, x⟩ hm => ⟨Nat.le_trans hsz hm.size, hB.trans (hm.mono (Nat.le_trans hW0 hsz)), t.below hm t.lt, r.below hm r.lt, g.below hm g.lt, x.below hm x.lt⟩
  case hs =>
    intro more
    refine stepV _ rfl rfl (fun _ _ _ h => h) (by intros; go_simp; exact ⟨rfl, rfl⟩) ?_
    refine stepV 1 rfl rfl (fun _ _ _ h => h) ?_ ?_
    · rintro p L w1 ⟨hsz, hB, t, r, g, x⟩ hk
      have hc : w1.cell? ⟨w.heap.size, 1, none⟩ = some (.int .i64 left) := t.cellIs rfl
      go_simp
      exact ⟨rfl, rfl⟩
    iterate 2 (refine stepV _ rfl rfl (fun _ _ _ h => h) (by intros; go_simp; exact ⟨rfl, rfl⟩) ?_)
    refine stepVg _ rfl (fun p => (by first | rfl | (simp [Region.wanted, yielded]; done))) (fun _ _ _ h => h) (by intros; go_simp; exact ⟨rfl, rfl⟩) ?_
    refine stepVg 5 rfl (fun p => (by first | rfl | (simp [Region.wanted, yielded]; done))) (fun _ _ _ h => h) ?_ ?_
    · rintro p L w1 ⟨hsz, hB, t, r, g, x⟩ hk
      have hc : w1.cell? ⟨x_b, 4, none⟩ = some (.int .i64 (wi 4)) := x.cellIs rfl
      go_simp
      exact ⟨rfl, rfl⟩
    refine stepVg _ rfl (fun p => (by first | rfl | (simp [Region.wanted, yielded]; done))) (fun _ _ _ h => h) (by intros; go_simp; exact ⟨rfl, rfl⟩) ?_
    refine stepVg 7 rfl (fun p => (by first | rfl | (simp [Region.wanted, yielded]; done))) (fun _ _ _ h => h) ?_ ?_
    · rintro p L w1 ⟨hsz, hB, t, r, g, x⟩ hk
      have hc : w1.cell? ⟨w.heap.size, 2, none⟩ = some (.int .i64 bud) := t.cellIs rfl
      go_simp
      exact ⟨rfl, rfl⟩
    refine stepVg _ rfl (fun p => (by first | rfl | (simp [Region.wanted, yielded]; done))) (fun _ _ _ h => h) (by intros; go_simp; exact ⟨rfl, rfl⟩) ?_
    iterate 2 (refine stepV _ rfl rfl (fun _ _ _ h => h) (by intros; go_simp; exact ⟨rfl, rfl⟩) ?_)
    refine stepVg _ rfl (fun p => (by first | rfl | (simp [Region.wanted, yielded]; done))) (fun _ _ _ h => h) (by intros; go_simp; exact ⟨rfl, rfl⟩) ?_
    refine stepVg 12 rfl (fun p => (by first | rfl | (simp [Region.wanted, yielded]; done))) (fun _ _ _ h => h) ?_ ?_
    · rintro p L w1 ⟨hsz, hB, t, r, g, x⟩ hk
      have hc : w1.cell? ⟨w.heap.size, 0, none⟩ = some (.int .i64 last) := t.cellIs rfl
      go_simp
      exact ⟨rfl, rfl⟩
    iterate 2 (refine stepVg _ rfl (fun p => (by first | rfl | (simp [Region.wanted, yielded]; done))) (fun _ _ _ h => h) (by intros; go_simp; exact ⟨rfl, rfl⟩) ?_)
    iterate 15 (refine AllI.cons (stepI_off _ rfl (fun p => rfl) (fun p => rfl) (fun _ _ _ h => h)) ?_)
    refine stepVg _ rfl (fun p => (by first | rfl | (simp [Region.wanted, yielded]; done))) (fun _ _ _ h => h) (by intros; go_simp; exact ⟨rfl, rfl⟩) ?_
    refine stepV _ rfl rfl (fun _ _ _ h => h) (by intros; go_simp; exact ⟨rfl, rfl⟩) ?_
    exact AllI.nil
  case hV0 => exact fun p q => AllI.nil
  case he =>
  clear hB t r g x
  rintro p w0rr ⟨hsz, hB, t, r, g, x⟩
  clear lt_t
  clear lt_r
  clear lt_g
  clear lt_x
  clear hsz hW0
  go_upto_region 4 with (fail)
  have lt_t := t.lt
  have lt_r := r.lt
  have lt_g := g.lt
  have lt_x := x.lt
  have hW0 : w.heap.size ≤ w0rr.heap.size := by have := hB.size; first | exact this | simpa using this
  apply wp_region_Q 12 [0, 1, 3, 7, 15, 31, 63, 127, 255, 511, 1023, 2047] [] [_, _, _, _, _, _, _, _, _, _, (fun _ => undef), _] (fun p L w' => w0rr.heap.size ≤ w'.heap.size ∧ Below w.heap.size w w' ∧ blk w' w.heap.size (ptc (last, left, bud)) 128 ∧ blk w' (w.heap.size + 1) (bif L 10 then (ptc ((i : Int), left - 1, bud - wi 4)) else (ptc (0, 0, 0))) 128 ∧ blk w' pb (plc (.slice (some ⟨eb, eo, none⟩) n c, gap, mb)) 126 ∧ blk w' x_b (wnc wi) 72) _ [(0, 49), (1, 50), (2, 51), (3, 52), (4, 53), (5, 54), (6, 55), (7, 56), (8, 57), (9, 58), (11, 7)] [0, 1, 2, 3, 4, 5, 6, 7, 8, 9, 10, 11]
  case hn => rfl
  case hB => kernel_rfl
  case hds => kernel_rfl
  case hA => (intro p; simp only [putsD, Act.put, List.setIfInBounds_toArray, List.set_cons_zero, List.set_cons_succ, List.getD_cons_zero, List.getD_cons_succ]; exact rfl)
  case h0 => exact fun p => ⟨Nat.le_refl _, hB, t, r, g, x⟩
  case hmore => exact fun p L w1 w2 ⟨hsz, hB, t, r, g, x⟩ hm => ⟨Nat.le_trans hsz hm.size, hB.trans (hm.mono (Nat.le_trans hW0 hsz)), t.below hm t.lt, r.below hm r.lt, g.below hm g.lt, x.below hm x.lt⟩
  case hs =>
    intro more
    iterate 2 (refine stepV _ rfl rfl (fun _ _ _ h => h) (by intros; go_simp; exact ⟨rfl, rfl⟩) ?_)
    refine stepV 2 rfl rfl (fun _ _ _ h => h) ?_ ?_
    · rintro p L w1 ⟨hsz, hB, t, r, g, x⟩ hk
      have L10 : L 10 = false := hk.2.2 10 rfl
      have hc : w1.cell? ⟨w.heap.size, 1, none⟩ = some (.int .i64 left) := t.cellIs rfl
      go_simp
      exact ⟨rfl, rfl⟩
    iterate 2 (refine stepV _ rfl rfl (fun _ _ _ h => h) (by intros; go_simp; exact ⟨rfl, rfl⟩) ?_)
    refine stepV 5 rfl rfl (fun _ _ _ h => h) ?_ ?_
    · rintro p L w1 ⟨hsz, hB, t, r, g, x⟩ hk
      have L10 : L 10 = false := hk.2.2 10 rfl
      have hc : w1.cell? ⟨w.heap.size, 2, none⟩ = some (.int .i64 bud) := t.cellIs rfl
      go_simp
      exact ⟨rfl, rfl⟩
    refine stepV _ rfl rfl (fun _ _ _ h => h) (by intros; go_simp; exact ⟨rfl, rfl⟩) ?_
    refine stepV 7 rfl rfl (fun _ _ _ h => h) ?_ ?_
    · rintro p L w1 ⟨hsz, hB, t, r, g, x⟩ hk
      have L10 : L 10 = false := hk.2.2 10 rfl
      have hc : w1.cell? ⟨x_b, 4, none⟩ = some (.int .i64 (wi 4)) := x.cellIs rfl
      go_simp
      exact ⟨rfl, rfl⟩
    refine stepV _ rfl rfl (fun _ _ _ h => h) (by intros; go_simp; exact ⟨rfl, rfl⟩) ?_
    refine stepV 9 rfl rfl (fun _ _ _ h => h) ?_ ?_
    · intros; (try simp only [vfn, qfn]); go_simp; exact ⟨rfl, rfl⟩
    refine AllI.cons ?_ ?_
    · refine stepI_store 10 rfl (fun p => rfl) (fun p => rfl) _ _ _ rfl (fun _ => (w.heap.size + 1)) 0 (fun p => rfl) (fun p => (ptc ((i : Int), left - 1, bud - wi 4))) (fun p => rfl) (fun p => (ptc (0, 0, 0))) (fun p => (ptc ((i : Int), left - 1, bud - wi 4))) 128 (fun p => over_ptc _ _) (fun p => by first | (rw [ptc_size, ptc_size]; decide) | simp [ptc_size, ptc_size]) (fun p => by rw [ptc_size]; kernel_rfl) (fun p => ptc_one _) ?_ ?_
      · rintro p L w1 ⟨hsz, hB, t, r, g, x⟩ hk
        have L10 : L 10 = false := hk.1
        rw [L10] at r
        try simp only [cond_true, cond_false] at r
        exact r
      · rintro p L w1 ⟨hsz, hB, t, r, g, x⟩ hk
        have L10 : L 10 = false := hk.1
        skip
        refine ⟨(by simpa using hsz), Below.setRow hB (by first | exact Nat.le_trans hW0 hp.1 | exact ge_r | omega | (have := hB.size; simp at this ⊢; omega)) _, t.rowOther (by first | exact ne_t_r | exact Ne.symm ne_r_t | omega) _, ?_, g.rowOther (by first | exact ne_g_r | exact Ne.symm ne_r_g | omega) _, x.rowOther (by first | exact ne_x_r | exact Ne.symm ne_r_x | omega) _⟩
        rw [show upL L 10 10 = true from rfl]
        exact r.row _
    refine stepV _ rfl rfl (fun _ _ _ h => h) (by intros; go_simp; exact ⟨rfl, rfl⟩) ?_
    exact AllI.nil
  case hV0 => exact fun p q => AllI.nil
  case he =>
  clear hB t r g x
  rintro p w0rrr ⟨hsz, hB, t, r, g, x⟩
  replace r : blk w0rrr (w.heap.size + 1) (ptc ((i : Int), left - 1, bud - wi 4)) 128 := r
  clear lt_t
  clear lt_r
  clear lt_g
  clear lt_x
  clear hsz hW0
  go_wp2_with (fail)
  refine bodyPost_ret (results_vec rfl _ _ _ _ _ _ _ rfl r Try.underlying128 rfl (by first | kernel_rfl | (rw [ptc_size]; kernel_rfl))) rfl ?_
  refine ⟨?_, hB⟩
  rfl
set_option maxRecDepth 100000 in
set_option maxHeartbeats 6000000 in
theorem next_D (L : Nat → Nat → Int) (gap : Int) (a : Option Addr) (n c pb mb : Nat) (last left bud : Int) (i : Nat) (w : World) (hp : blk w pb (plc (.slice a n c, gap, mb)) 126) (el : ElsN mb w a n 5 (fun k => (wnc (L k)).toList)) (hW : WOk n L) (hg : 0 ≤ gap ∧ gap ≤ 1099511627776) (hl : 0 ≤ left ∧ left ≤ 40) (hb : 0 ≤ bud ∧ bud ≤ 1099511627776) (hr : last < n) (hi : i < n) (hn : n ≤ 40) (hc : left ≠ 0 ∧ L i 4 ≤ bud ∧ 0 ≤ last ∧ folB (L last.toNat) (L i) gap = false) : Calls Try.prog 71 #[.pointer (some ⟨pb, 0, none⟩), .agg (ptc (last, left, bud)), .int .i64 (i : Int)] w fun e w' => e = .returned (.tuple #[.agg (ptc (last, left, bud)), .bool false]) ∧ Below w.heap.size w w' := by
  obtain ⟨eb, eo, rfl, hEl, _, hE⟩ := el i hi
  replace hE : w.rangeAt eb (eo + i * 5) ((wnc (L i)).toList) := hE
  have hdi : decide ((i : Int) < n) = true := decide_eq_true (by omega)
  have hdi' : decide (i < n) = true := decide_eq_true hi
  have hi3 : (i : Int) < n := by omega
  have hi0 : (0 : Int) ≤ i := by omega
  have hco := hW.c i hi
  have dl : decide (left = 0) = false := decide_eq_false hc.1
  have dl2 : (left == 0) = false := beq_eq_false_iff_ne.2 hc.1
  have db : decide (bud < L i 4) = false := decide_eq_false (by have := hc.2.1; omega)
  have dla : decide (0 ≤ last) = true := decide_eq_true hc.2.2.1
  obtain ⟨m, rfl⟩ : ∃ m : Nat, last = m := ⟨last.toNat, by have := hc.2.2.1; omega⟩
  have hm : m < n := by omega
  obtain ⟨eb2, eo2, he, hEl2, _, hE2⟩ := el m hm
  simp only [Option.some.injEq, Addr.mk.injEq, and_true] at he
  obtain ⟨rfl, rfl⟩ := he
  replace hE2 : w.rangeAt eb (eo + m * 5) ((wnc (L m)).toList) := hE2
  have hdm : decide ((m : Int) < n) = true := decide_eq_true (by omega)
  have hdm' : decide (m < n) = true := decide_eq_true hm
  have hm3 : (m : Int) < n := by omega
  have hm0 : (0 : Int) ≤ m := by omega
  have FO := Lib.hid (fun w => follows_any (L m) (L i) gap w (by have := hW.a m hm; omega) hg)
  have hf := hc.2.2.2
  rw [Int.toNat_natCast] at hf
  rw [hf] at FO
  clear hc hco hW hg hl hb hr hn el hf
  generalize hwi : L i = wi at *
  generalize hwm : L m = wm at *
  clear hwi hwm
  go_enter Try.func71, Try.ntmps71
  go_upto_region 1 with (fail)
  simp only [zero_ptc]
  have t : blk ((w.alloc (.cells (ptc ((m : Int), left, bud)) 128)).alloc (.cells (ptc (0, 0, 0)) 128)) w.heap.size (ptc ((m : Int), left, bud)) 128 := (blk.new _ _ _).alloc _
  have r : blk ((w.alloc (.cells (ptc ((m : Int), left, bud)) 128)).alloc (.cells (ptc (0, 0, 0)) 128)) (w.heap.size + 1) (ptc (0, 0, 0)) 128 := blk.new' (by simp)
  have hB : Below w.heap.size w ((w.alloc (.cells (ptc ((m : Int), left, bud)) 128)).alloc (.cells (ptc (0, 0, 0)) 128)) := by go_grown
  generalize ((w.alloc (.cells (ptc ((m : Int), left, bud)) 128)).alloc (.cells (ptc (0, 0, 0)) 128)) = w0 at *
  have g : blk w0 pb (plc (.slice (some ⟨eb, eo, none⟩) n c, gap, mb)) 126 := hp.below hB hp.lt
  have glt := hp.lt
  clear hp
  have ne_t_g : w.heap.size ≠ pb := by omega
  have ne_r_g : w.heap.size + 1 ≠ pb := by omega
  have ne_t_r : w.heap.size ≠ w.heap.size + 1 := by omega
  have lt_t := t.lt
  have lt_r := r.lt
  have lt_g := g.lt
  have hW0 : w.heap.size ≤ w0.heap.size := by have := hB.size; first | exact this | simpa using this
  apply wp_region_Q 9 [0, 1, 3, 7, 15, 31, 63, 127, 255] [7] [_, _, _, _, _, _, _, (fun p => .pointer (some ⟨p 7, 0, none⟩)), (fun _ => undef)] (fun p L w' => w0.heap.size ≤ w'.heap.size ∧ Below w.heap.size w w' ∧ blk w' w.heap.size (ptc ((m : Int), left, bud)) 128 ∧ blk w' (w.heap.size + 1) (ptc (0, 0, 0)) 128 ∧ blk w' pb (plc (.slice (some ⟨eb, eo, none⟩) n c, gap, mb)) 126 ∧ (L 7 = true → w0.heap.size ≤ p 7 ∧ blk w' (p 7) (bif L 8 then (wnc wi) else (wnc fun _ => 0)) 72)) _ [(0, 9), (1, 10), (2, 11), (3, 12), (4, 13), (5, 14), (6, 15), (7, 8)] [0, 1, 2, 3, 4, 5, 6, 7, 8]
  case hn => rfl
  case hB => kernel_rfl
  case hds => kernel_rfl
  case hA => (intro p; simp only [putsD, Act.put, List.setIfInBounds_toArray, List.set_cons_zero, List.set_cons_succ, List.getD_cons_zero, List.getD_cons_succ]; exact rfl)
  case h0 => exact fun p => ⟨Nat.le_refl _, hB, t, r, g, fun h => absurd h (by decide)⟩
  case hmore => exact fun p L w1 w2 ⟨hsz, hB, t, r, g, h_x⟩ hm => ⟨Nat.le_trans hsz hm.size, hB.trans (hm.mono (Nat.le_trans hW0 hsz)), t.below hm t.lt, r.below hm r.lt, g.below hm g.lt, fun hl => ⟨(h_x hl).1, (h_x hl).2.below hm (h_x hl).2.lt⟩⟩
  case hs =>
    intro more
    iterate 3 (refine stepV _ rfl rfl (fun _ _ _ h => h) (by intros; go_simp; exact ⟨rfl, rfl⟩) ?_)
    refine stepV 3 rfl rfl (fun _ _ _ h => h) ?_ ?_
    · rintro p L w1 ⟨hsz, hB, t, r, g, h_x⟩ hk
      have L8 : L 8 = false := hk.2.2 8 rfl
      have hc : w1.cell? ⟨pb, 0, none⟩ = some (.slice (some ⟨eb, eo, none⟩) n c) := g.cellIs rfl
      go_simp
      exact ⟨rfl, rfl⟩
    iterate 2 (refine stepV _ rfl rfl (fun _ _ _ h => h) (by intros; go_simp; exact ⟨rfl, rfl⟩) ?_)
    refine stepV 6 rfl rfl (fun _ _ _ h => h) ?_ ?_
    · rintro p L w1 ⟨hsz, hB, t, r, g, h_x⟩ hk
      have hr := range_below hE hB hEl
      exact valR_range _ _ rfl _ _ rfl _ (eo + i * 5) 0 hr (by first | rfl | omega) (wnc wi) (wnc_get wi) _ Try.underlying72 rfl (by rw [wnc_size]; kernel_rfl) rfl
    refine AllI.cons ?_ ?_
    · refine stepI_alloc 7 rfl (fun p => rfl) rfl (wnc fun _ => 0) 72 (fun p => rfl) ?_ ?_
      · intro p w1
        go_simp
        first | done | rfl | rw [zero_wnc]
      rintro p L w1 ⟨hsz, hB, t, r, g, h_x⟩ hk
      have L8 : L 8 = false := hk.2.2 8 rfl
      refine ⟨Nat.le_trans hsz (by simp), hB.alloc (Nat.le_trans (by first | exact hW0 | (have := hB.size; simp at this ⊢; omega)) hsz) _, t.alloc _, r.alloc _, g.alloc _, fun _ => ⟨hsz, ?_⟩⟩
      rw [show upL L 7 8 = false from L8]
      exact blk.new _ _ _
    refine AllI.cons ?_ ?_
    · refine stepI_store 8 rfl (fun p => rfl) (fun p => rfl) _ _ _ rfl (fun p => p 7) 0 (fun p => rfl) (fun p => (wnc wi)) (fun p => rfl) (fun p => (wnc fun _ => 0)) (fun p => (wnc wi)) 72 (fun p => over_wnc _ _) (fun p => by first | (rw [wnc_size, wnc_size]; decide) | simp [wnc_size, wnc_size]) (fun p => by rw [wnc_size]; kernel_rfl) (fun p => wnc_one _) ?_ ?_
      · rintro p L w1 ⟨hsz, hB, t, r, g, h_x⟩ hk
        have L8 : L 8 = false := hk.1
        have hh := (h_x (hk.2.1 7 rfl)).2
        rw [L8] at hh
        try simp only [cond_true, cond_false] at hh
        exact hh
      · rintro p L w1 ⟨hsz, hB, t, r, g, h_x⟩ hk
        have L8 : L 8 = false := hk.1
        skip
        have hp := h_x (hk.2.1 7 rfl)
        refine ⟨(by simpa using hsz), Below.setRow hB (by first | exact Nat.le_trans hW0 hp.1 | exact ge_x | omega | (have := hB.size; simp at this ⊢; omega)) _, t.rowOther (by first | exact Nat.ne_of_lt (Nat.lt_of_lt_of_le lt_t hp.1) | omega) _, r.rowOther (by first | exact Nat.ne_of_lt (Nat.lt_of_lt_of_le lt_r hp.1) | omega) _, g.rowOther (by first | exact Nat.ne_of_lt (Nat.lt_of_lt_of_le lt_g hp.1) | omega) _, fun _ => ⟨hp.1, ?_⟩⟩
        rw [show upL L 8 8 = true from rfl]
        exact hp.2.row _
    exact AllI.nil
  case hV0 =>
    intro p q
    refine AllI.cons ?_ ?_
    · skip
      iterate 9 (refine AllI.cons (by first | exact .inl rfl | (refine .inr ?_; simp only [List.getD_cons_zero, List.getD_cons_succ]; done) | exact .inr rfl) ?_)
      exact AllI.nil
    exact AllI.nil
  case he =>
  clear hB t r g
  rintro p w0r ⟨hsz, hB, t, r, g, h_x⟩
  obtain ⟨le_x, x⟩ := h_x rfl
  clear h_x
  replace x : blk w0r (p 7) (wnc wi) 72 := x
  have ne_t_x : w.heap.size ≠ p 7 := Nat.ne_of_lt (Nat.lt_of_lt_of_le lt_t le_x)
  have ne_r_x : (w.heap.size + 1) ≠ p 7 := Nat.ne_of_lt (Nat.lt_of_lt_of_le lt_r le_x)
  have ne_g_x : pb ≠ p 7 := Nat.ne_of_lt (Nat.lt_of_lt_of_le lt_g le_x)
  have ge_x : w.heap.size ≤ p 7 := Nat.le_trans hW0 le_x
  generalize p 7 = x_b at *
  clear lt_t
  clear lt_r
  clear lt_g
  clear hsz hW0
  go_upto_region 2 with (fail)
  have lt_t := t.lt
  have lt_r := r.lt
  have lt_g := g.lt
  have lt_x := x.lt
  have hW0 : w.heap.size ≤ w0r.heap.size := by have := hB.size; first | exact this | simpa using this
  apply wp_region_I 32 [0, 1, 3, 7, 15, 31, 15, 79, 255, 511, 1023, 2047, 4095, 8191, 16383, 32767, 65535, 131071, 262143, 32767, 557055, 2097151, 4194303, 32767, 32767, 16809983, 50364415, 117473279, 268435455, 536870911, 1073741823, 2147483647] [] [_, _, _, _, _, _, _, _, _, _, _, _, _, _, _, _, _, _, _, _, _, _, _, _, _, _, _, _, _, _, _, _] (fun p L w' => w0r.heap.size ≤ w'.heap.size ∧ Below w.heap.size w w' ∧ blk w' w.heap.size (ptc ((m : Int), left, bud)) 128 ∧ blk w' (w.heap.size + 1) (ptc (0, 0, 0)) 128 ∧ blk w' pb (plc (.slice (some ⟨eb, eo, none⟩) n c, gap, mb)) 126 ∧ blk w' x_b (wnc wi) 72) _ [(0, 16), (1, 17), (2, 18), (3, 19), (4, 20), (5, 21), (6, 22), (7, 23), (8, 24), (9, 25), (10, 26), (11, 27), (12, 28), (13, 29), (14, 30), (15, 31), (16, 32), (17, 33), (18, 34), (19, 35), (20, 36), (21, 37), (22, 38), (23, 39), (24, 40), (25, 41), (26, 42), (27, 43), (28, 44), (29, 45), (30, 46), (31, 47)] [0, 1, 2, 3, 4, 5, 6, 7, 8, 9, 10, 11, 12, 13, 14, 15, 16, 17, 18, 19, 20, 21, 22, 23, 24, 25, 26, 27, 28, 29, 30, 31]
  case hn => rfl
  case hm => kernel_rfl
  case hB => kernel_rfl
  case hds => kernel_rfl
  case hA => (intro p; simp only [putsD, Act.put, List.setIfInBounds_toArray, List.set_cons_zero, List.set_cons_succ, List.getD_cons_zero, List.getD_cons_succ]; exact rfl)
  case h0 => exact fun p => ⟨Nat.le_refl _, hB.drew, t.drew, r.drew, g.drew, x.drew⟩
  case hmore => exact fun p L w1 w2 ⟨hsz, hB, t, r, g, x⟩ hm => ⟨Nat.le_trans hsz hm.size, hB.trans (hm.mono (Nat.le_trans hW0 hsz)), t.below hm t.lt, r.below hm r.lt, g.below hm g.lt, x.below hm x.lt⟩
  case hs =>
    intro more
    refine stepV _ rfl rfl (fun _ _ _ h => h) (by intros; go_simp; exact ⟨rfl, rfl⟩) ?_
    refine stepV 1 rfl rfl (fun _ _ _ h => h) ?_ ?_
    · rintro p L w1 ⟨hsz, hB, t, r, g, x⟩ hk
      have hc : w1.cell? ⟨w.heap.size, 1, none⟩ = some (.int .i64 left) := t.cellIs rfl
      go_simp
      exact ⟨rfl, rfl⟩
    iterate 2 (refine stepV _ rfl rfl (fun _ _ _ h => h) (by intros; go_simp; exact ⟨rfl, rfl⟩) ?_)
    refine stepVg _ rfl (fun p => (by first | rfl | (simp [Region.wanted, yielded]; done))) (fun _ _ _ h => h) (by intros; go_simp; exact ⟨rfl, rfl⟩) ?_
    refine stepVg 5 rfl (fun p => (by first | rfl | (simp [Region.wanted, yielded]; done))) (fun _ _ _ h => h) ?_ ?_
    · rintro p L w1 ⟨hsz, hB, t, r, g, x⟩ hk
      have hc : w1.cell? ⟨x_b, 4, none⟩ = some (.int .i64 (wi 4)) := x.cellIs rfl
      go_simp
      exact ⟨rfl, rfl⟩
    refine stepVg _ rfl (fun p => (by first | rfl | (simp [Region.wanted, yielded]; done))) (fun _ _ _ h => h) (by intros; go_simp; exact ⟨rfl, rfl⟩) ?_
    refine stepVg 7 rfl (fun p => (by first | rfl | (simp [Region.wanted, yielded]; done))) (fun _ _ _ h => h) ?_ ?_
    · rintro p L w1 ⟨hsz, hB, t, r, g, x⟩ hk
      have hc : w1.cell? ⟨w.heap.size, 2, none⟩ = some (.int .i64 bud) := t.cellIs rfl
      go_simp
      exact ⟨rfl, rfl⟩
    refine stepVg _ rfl (fun p => (by first | rfl | (simp [Region.wanted, yielded]; done))) (fun _ _ _ h => h) (by intros; go_simp; exact ⟨rfl, rfl⟩) ?_
    iterate 2 (refine stepV _ rfl rfl (fun _ _ _ h => h) (by intros; go_simp; exact ⟨rfl, rfl⟩) ?_)
    refine stepVg _ rfl (fun p => (by first | rfl | (simp [Region.wanted, yielded]; done))) (fun _ _ _ h => h) (by intros; go_simp; exact ⟨rfl, rfl⟩) ?_
    refine stepVg 12 rfl (fun p => (by first | rfl | (simp [Region.wanted, yielded]; done))) (fun _ _ _ h => h) ?_ ?_
    · rintro p L w1 ⟨hsz, hB, t, r, g, x⟩ hk
      have hc : w1.cell? ⟨w.heap.size, 0, none⟩ = some (.int .i64 (m : Int)) := t.cellIs rfl
      go_simp
      exact ⟨rfl, rfl⟩
    iterate 5 (refine stepVg _ rfl (fun p => (by first | rfl | (simp [Region.wanted, yielded]; done))) (fun _ _ _ h => h) (by intros; go_simp; exact ⟨rfl, rfl⟩) ?_)
    refine stepVg 18 rfl (fun p => (by first | rfl | (simp [Region.wanted, yielded]; done))) (fun _ _ _ h => h) ?_ ?_
    · rintro p L w1 ⟨hsz, hB, t, r, g, x⟩ hk
      have hc : w1.cell? ⟨pb, 0, none⟩ = some (.slice (some ⟨eb, eo, none⟩) n c) := g.cellIs rfl
      go_simp
      exact ⟨rfl, rfl⟩
    refine stepVg _ rfl (fun p => (by first | rfl | (simp [Region.wanted, yielded]; done))) (fun _ _ _ h => h) (by intros; go_simp; exact ⟨rfl, rfl⟩) ?_
    refine stepVg 20 rfl (fun p => (by first | rfl | (simp [Region.wanted, yielded]; done))) (fun _ _ _ h => h) ?_ ?_
    · rintro p L w1 ⟨hsz, hB, t, r, g, x⟩ hk
      have hc : w1.cell? ⟨w.heap.size, 0, none⟩ = some (.int .i64 (m : Int)) := t.cellIs rfl
      go_simp
      exact ⟨rfl, rfl⟩
    refine stepVg _ rfl (fun p => (by first | rfl | (simp [Region.wanted, yielded]; done))) (fun _ _ _ h => h) (by intros; go_simp; exact ⟨rfl, rfl⟩) ?_
    refine stepVg 22 rfl (fun p => (by first | rfl | (simp [Region.wanted, yielded]; done))) (fun _ _ _ h => h) ?_ ?_
    · rintro p L w1 ⟨hsz, hB, t, r, g, x⟩ hk
      have hr := range_below hE2 hB hEl
      exact valR_range _ _ rfl _ _ rfl _ (eo + m * 5) 0 hr (by first | rfl | omega) (wnc wm) (wnc_get wm) _ Try.underlying72 rfl (by rw [wnc_size]; kernel_rfl) rfl
    refine stepVg 23 rfl (fun p => (by first | rfl | (simp [Region.wanted, yielded]; done))) (fun _ _ _ h => h) ?_ ?_
    · rintro p L w1 ⟨hsz, hB, t, r, g, x⟩ hk
      first | exact valR_row _ _ rfl _ rfl _ _ x _ Try.underlying72 rfl (by first | kernel_rfl | (rw [wnc_size]; kernel_rfl)) rfl | (have hc := x.cellIs (show _[0]? = some _ from rfl); go_simp; exact ⟨rfl, rfl⟩)
    iterate 3 (refine stepVg _ rfl (fun p => (by first | rfl | (simp [Region.wanted, yielded]; done))) (fun _ _ _ h => h) (by intros; go_simp; exact ⟨rfl, rfl⟩) ?_)
    refine stepVg 27 rfl (fun p => (by first | rfl | (simp [Region.wanted, yielded]; done))) (fun _ _ _ h => h) ?_ ?_
    · rintro p L w1 ⟨hsz, hB, t, r, g, x⟩ hk
      have hc : w1.cell? ⟨pb, 1, none⟩ = some (.int .i64 gap) := g.cellIs rfl
      go_simp
      exact ⟨rfl, rfl⟩
    refine stepD 28 rfl (fun p => (by first | rfl | (simp [Region.wanted, yielded]; done))) (fun _ _ _ h => h) more ?_ ?_
    · rintro p L w1 ⟨hsz, hB, t, r, g, x⟩ hk
      go_simp
      refine (FO.out _).mono ?_
      rintro e w2 ⟨rfl, h2⟩
      first | exact ⟨rfl, h2⟩ | (subst h2; exact ⟨rfl, Below.refl _ _⟩)
    iterate 2 (refine stepVg _ rfl (fun p => (by first | rfl | (simp [Region.wanted, yielded]; done))) (fun _ _ _ h => h) (by intros; go_simp; exact ⟨rfl, rfl⟩) ?_)
    refine stepV _ rfl rfl (fun _ _ _ h => h) (by intros; go_simp; exact ⟨rfl, rfl⟩) ?_
    exact AllI.nil
  case hV0 => exact fun p q => AllI.nil
  case he =>
  clear hB t r g x
  rintro p w0rr ⟨hsz, hB, t, r, g, x⟩
  clear lt_t
  clear lt_r
  clear lt_g
  clear lt_x
  clear hsz hW0
  go_upto_region 3 with (fail)
  have lt_t := t.lt
  have lt_r := r.lt
  have lt_g := g.lt
  have lt_x := x.lt
  have hW0 : w.heap.size ≤ w0rr.heap.size := by have := hB.size; first | exact this | simpa using this
  apply wp_region_Q 3 [0, 1, 3] [] [_, (fun _ => undef), _] (fun p L w' => w0rr.heap.size ≤ w'.heap.size ∧ Below w.heap.size w w' ∧ blk w' w.heap.size (ptc ((m : Int), left, bud)) 128 ∧ blk w' (w.heap.size + 1) (bif L 1 then (ptc ((m : Int), left, bud)) else (ptc (0, 0, 0))) 128 ∧ blk w' pb (plc (.slice (some ⟨eb, eo, none⟩) n c, gap, mb)) 126 ∧ blk w' x_b (wnc wi) 72) _ [(0, 48), (2, 7)] [0, 1, 2]
  case hn => rfl
  case hB => kernel_rfl
  case hds => kernel_rfl
  case hA => (intro p; simp only [putsD, Act.put, List.setIfInBounds_toArray, List.set_cons_zero, List.set_cons_succ, List.getD_cons_zero, List.getD_cons_succ]; exact rfl)
  case h0 => exact fun p => ⟨Nat.le_refl _, hB, t, r, g, x⟩
  case hmore => exact fun p L w1 w2 ⟨hsz, hB, t, r, g, x⟩ hm => ⟨Nat.le_trans hsz hm.size, hB.trans (hm.mono (Nat.le_trans hW0 hsz)), t.below hm t.lt, r.below hm r.lt, g.below hm g.lt, x.below hm x.lt⟩
  case hs =>
    intro more
    refine stepV 0 rfl rfl (fun _ _ _ h => h) ?_ ?_
    · rintro p L w1 ⟨hsz, hB, t, r, g, x⟩ hk
      have L1 : L 1 = false := hk.2.2 1 rfl
      first | exact valR_row _ _ rfl _ rfl _ _ t _ Try.underlying128 rfl (by first | kernel_rfl | (rw [ptc_size]; kernel_rfl)) rfl | (have hc := t.cellIs (show _[0]? = some _ from rfl); go_simp; exact ⟨rfl, rfl⟩)
    refine AllI.cons ?_ ?_
    · refine stepI_store 1 rfl (fun p => rfl) (fun p => rfl) _ _ _ rfl (fun _ => (w.heap.size + 1)) 0 (fun p => rfl) (fun p => (ptc ((m : Int), left, bud))) (fun p => rfl) (fun p => (ptc (0, 0, 0))) (fun p => (ptc ((m : Int), left, bud))) 128 (fun p => over_ptc _ _) (fun p => by first | (rw [ptc_size, ptc_size]; decide) | simp [ptc_size, ptc_size]) (fun p => by rw [ptc_size]; kernel_rfl) (fun p => ptc_one _) ?_ ?_
      · rintro p L w1 ⟨hsz, hB, t, r, g, x⟩ hk
        have L1 : L 1 = false := hk.1
        rw [L1] at r
        try simp only [cond_true, cond_false] at r
        exact r
      · rintro p L w1 ⟨hsz, hB, t, r, g, x⟩ hk
        have L1 : L 1 = false := hk.1
        skip
        refine ⟨(by simpa using hsz), Below.setRow hB (by first | exact Nat.le_trans hW0 hp.1 | exact ge_r | omega | (have := hB.size; simp at this ⊢; omega)) _, t.rowOther (by first | exact ne_t_r | exact Ne.symm ne_r_t | omega) _, ?_, g.rowOther (by first | exact ne_g_r | exact Ne.symm ne_r_g | omega) _, x.rowOther (by first | exact ne_x_r | exact Ne.symm ne_r_x | omega) _⟩
        rw [show upL L 1 1 = true from rfl]
        exact r.row _
    refine stepV _ rfl rfl (fun _ _ _ h => h) (by intros; go_simp; exact ⟨rfl, rfl⟩) ?_
    exact AllI.nil
  case hV0 => exact fun p q => AllI.nil
  case he =>
  clear hB t r g x
  rintro p w0rrr ⟨hsz, hB, t, r, g, x⟩
  replace r : blk w0rrr (w.heap.size + 1) (ptc ((m : Int), left, bud)) 128 := r
  clear lt_t
  clear lt_r
  clear lt_g
  clear lt_x
  clear hsz hW0
  go_wp2_with (fail)
  refine bodyPost_ret (results_vec rfl _ _ _ _ _ _ _ rfl r Try.underlying128 rfl (by first | kernel_rfl | (rw [ptc_size]; kernel_rfl))) rfl ?_
  refine ⟨?_, hB⟩
  rfl
set_option maxRecDepth 100000 in
set_option maxHeartbeats 6000000 in
theorem next_E (L : Nat → Nat → Int) (gap : Int) (a : Option Addr) (n c pb mb : Nat) (last left bud : Int) (i : Nat) (w : World) (hp : blk w pb (plc (.slice a n c, gap, mb)) 126) (el : ElsN mb w a n 5 (fun k => (wnc (L k)).toList)) (hW : WOk n L) (hg : 0 ≤ gap ∧ gap ≤ 1099511627776) (hl : 0 ≤ left ∧ left ≤ 40) (hb : 0 ≤ bud ∧ bud ≤ 1099511627776) (hr : last < n) (hi : i < n) (hn : n ≤ 40) (hc : left ≠ 0 ∧ L i 4 ≤ bud ∧ 0 ≤ last ∧ folB (L last.toNat) (L i) gap = true) : Calls Try.prog 71 #[.pointer (some ⟨pb, 0, none⟩), .agg (ptc (last, left, bud)), .int .i64 (i : Int)] w fun e w' => e = .returned (.tuple #[.agg (ptc ((i : Int), left - 1, bud - L i 4)), .bool true]) ∧ Below w.heap.size w w' := by
  obtain ⟨eb, eo, rfl, hEl, _, hE⟩ := el i hi
  replace hE : w.rangeAt eb (eo + i * 5) ((wnc (L i)).toList) := hE
  have hdi : decide ((i : Int) < n) = true := decide_eq_true (by omega)
  have hdi' : decide (i < n) = true := decide_eq_true hi
  have hi3 : (i : Int) < n := by omega
  have hi0 : (0 : Int) ≤ i := by omega
  have hco := hW.c i hi
  have dl : decide (left = 0) = false := decide_eq_false hc.1
  have dl2 : (left == 0) = false := beq_eq_false_iff_ne.2 hc.1
  have db : decide (bud < L i 4) = false := decide_eq_false (by have := hc.2.1; omega)
  have dla : decide (0 ≤ last) = true := decide_eq_true hc.2.2.1
  obtain ⟨m, rfl⟩ : ∃ m : Nat, last = m := ⟨last.toNat, by have := hc.2.2.1; omega⟩
  have hm : m < n := by omega
  obtain ⟨eb2, eo2, he, hEl2, _, hE2⟩ := el m hm
  simp only [Option.some.injEq, Addr.mk.injEq, and_true] at he
  obtain ⟨rfl, rfl⟩ := he
  replace hE2 : w.rangeAt eb (eo + m * 5) ((wnc (L m)).toList) := hE2
  have hdm : decide ((m : Int) < n) = true := decide_eq_true (by omega)
  have hdm' : decide (m < n) = true := decide_eq_true hm
  have hm3 : (m : Int) < n := by omega
  have hm0 : (0 : Int) ≤ m := by omega
  have FO := Lib.hid (fun w => follows_any (L m) (L i) gap w (by have := hW.a m hm; omega) hg)
  have hf := hc.2.2.2
  rw [Int.toNat_natCast] at hf
  rw [hf] at FO
  have w1_ : IntKind.i64.wrap (left - 1) = left - 1 := by rw [IntKind.wrap_i64]; omega
  have w2_ : IntKind.i64.wrap (bud - L i 4) = bud - L i 4 := by rw [IntKind.wrap_i64]; omega
  clear hc hco hW hg hl hb hr hn el hf
  generalize hwi : L i = wi at *
  generalize hwm : L m = wm at *
  clear hwi hwm
  go_enter Try.func71, Try.ntmps71
  go_upto_region 1 with (fail)
  simp only [zero_ptc]
  have t : blk ((w.alloc (.cells (ptc ((m : Int), left, bud)) 128)).alloc (.cells (ptc (0, 0, 0)) 128)) w.heap.size (ptc ((m : Int), left, bud)) 128 := (blk.new _ _ _).alloc _
  have r : blk ((w.alloc (.cells (ptc ((m : Int), left, bud)) 128)).alloc (.cells (ptc (0, 0, 0)) 128)) (w.heap.size + 1) (ptc (0, 0, 0)) 128 := blk.new' (by simp)
  have hB : Below w.heap.size w ((w.alloc (.cells (ptc ((m : Int), left, bud)) 128)).alloc (.cells (ptc (0, 0, 0)) 128)) := by go_grown
  generalize ((w.alloc (.cells (ptc ((m : Int), left, bud)) 128)).alloc (.cells (ptc (0, 0, 0)) 128)) = w0 at *
  have g : blk w0 pb (plc (.slice (some ⟨eb, eo, none⟩) n c, gap, mb)) 126 := hp.below hB hp.lt
  have glt := hp.lt
  clear hp
  have ne_t_g : w.heap.size ≠ pb := by omega
  have ne_r_g : w.heap.size + 1 ≠ pb := by omega
  have ne_t_r : w.heap.size ≠ w.heap.size + 1 := by omega
  have lt_t := t.lt
  have lt_r := r.lt
  have lt_g := g.lt
  have hW0 : w.heap.size ≤ w0.heap.size := by have := hB.size; first | exact this | simpa using this
  apply wp_region_Q 9 [0, 1, 3, 7, 15, 31, 63, 127, 255] [7] [_, _, _, _, _, _, _, (fun p => .pointer (some ⟨p 7, 0, none⟩)), (fun _ => undef)] (fun p L w' => w0.heap.size ≤ w'.heap.size ∧ Below w.heap.size w w' ∧ blk w' w.heap.size (ptc ((m : Int), left, bud)) 128 ∧ blk w' (w.heap.size + 1) (ptc (0, 0, 0)) 128 ∧ blk w' pb (plc (.slice (some ⟨eb, eo, none⟩) n c, gap, mb)) 126 ∧ (L 7 = true → w0.heap.size ≤ p 7 ∧ blk w' (p 7) (bif L 8 then (wnc wi) else (wnc fun _ => 0)) 72)) _ [(0, 9), (1, 10), (2, 11), (3, 12), (4, 13), (5, 14), (6, 15), (7, 8)] [0, 1, 2, 3, 4, 5, 6, 7, 8]
  case hn => rfl
  case hB => kernel_rfl
  case hds => kernel_rfl
  case hA => (intro p; simp only [putsD, Act.put, List.setIfInBounds_toArray, List.set_cons_zero, List.set_cons_succ, List.getD_cons_zero, List.getD_cons_succ]; exact rfl)
  case h0 => exact fun p => ⟨Nat.le_refl _, hB, t, r, g, fun h => absurd h (by decide)⟩
  case hmore => exact fun p L w1 w2 ⟨hsz, hB, t, r, g, h_x⟩ hm => ⟨Nat.le_trans hsz hm.size, hB.trans (hm.mono (Nat.le_trans hW0 hsz)), t.below hm t.lt, r.below hm r.lt, g.below hm g.lt, fun hl => ⟨(h_x hl).1, (h_x hl).2.below hm (h_x hl).2.lt⟩⟩
  case hs =>
    intro more
    iterate 3 (refine stepV _ rfl rfl (fun _ _ _ h => h) (by intros; go_simp; exact ⟨rfl, rfl⟩) ?_)
    refine stepV 3 rfl rfl (fun _ _ _ h => h) ?_ ?_
    · rintro p L w1 ⟨hsz, hB, t, r, g, h_x⟩ hk
      have L8 : L 8 = false := hk.2.2 8 rfl
      have hc : w1.cell? ⟨pb, 0, none⟩ = some (.slice (some ⟨eb, eo, none⟩) n c) := g.cellIs rfl
      go_simp
      exact ⟨rfl, rfl⟩
    iterate 2 (refine stepV _ rfl rfl (fun _ _ _ h => h) (by intros; go_simp; exact ⟨rfl, rfl⟩) ?_)
    refine stepV 6 rfl rfl (fun _ _ _ h => h) ?_ ?_
    · rintro p L w1 ⟨hsz, hB, t, r, g, h_x⟩ hk
      have hr := range_below hE hB hEl
      exact valR_range _ _ rfl _ _ rfl _ (eo + i * 5) 0 hr (by first | rfl | omega) (wnc wi) (wnc_get wi) _ Try.underlying72 rfl (by rw [wnc_size]; kernel_rfl) rfl
    refine AllI.cons ?_ ?_
    · refine stepI_alloc 7 rfl (fun p => rfl) rfl (wnc fun _ => 0) 72 (fun p => rfl) ?_ ?_
      · intro p w1
        go_simp
        first | done | rfl | rw [zero_wnc]
      rintro p L w1 ⟨hsz, hB, t, r, g, h_x⟩ hk
      have L8 : L 8 = false := hk.2.2 8 rfl
      refine ⟨Nat.le_trans hsz (by simp), hB.alloc (Nat.le_trans (by first | exact hW0 | (have := hB.size; simp at this ⊢; omega)) hsz) _, t.alloc _, r.alloc _, g.alloc _, fun _ => ⟨hsz, ?_⟩⟩
      rw [show upL L 7 8 = false from L8]
      exact blk.new _ _ _
    refine AllI.cons ?_ ?_
    · refine stepI_store 8 rfl (fun p => rfl) (fun p => rfl) _ _ _ rfl (fun p => p 7) 0 (fun p => rfl) (fun p => (wnc wi)) (fun p => rfl) (fun p => (wnc fun _ => 0)) (fun p => (wnc wi)) 72 (fun p => over_wnc _ _) (fun p => by first | (rw [wnc_size, wnc_size]; decide) | simp [wnc_size, wnc_size]) (fun p => by rw [wnc_size]; kernel_rfl) (fun p => wnc_one _) ?_ ?_
      · rintro p L w1 ⟨hsz, hB, t, r, g, h_x⟩ hk
        have L8 : L 8 = false := hk.1
        have hh := (h_x (hk.2.1 7 rfl)).2
        rw [L8] at hh
        try simp only [cond_true, cond_false] at hh
        exact hh
      · rintro p L w1 ⟨hsz, hB, t, r, g, h_x⟩ hk
        have L8 : L 8 = false := hk.1
        skip
        have hp := h_x (hk.2.1 7 rfl)
        refine ⟨(by simpa using hsz), Below.setRow hB (by first | exact Nat.le_trans hW0 hp.1 | exact ge_x | omega | (have := hB.size; simp at this ⊢; omega)) _, t.rowOther (by first | exact Nat.ne_of_lt (Nat.lt_of_lt_of_le lt_t hp.1) | omega) _, r.rowOther (by first | exact Nat.ne_of_lt (Nat.lt_of_lt_of_le lt_r hp.1) | omega) _, g.rowOther (by first | exact Nat.ne_of_lt (Nat.lt_of_lt_of_le lt_g hp.1) | omega) _, fun _ => ⟨hp.1, ?_⟩⟩
        rw [show upL L 8 8 = true from rfl]
        exact hp.2.row _
    exact AllI.nil
  case hV0 =>
    intro p q
    refine AllI.cons ?_ ?_
    · skip
      iterate 9 (refine AllI.cons (by first | exact .inl rfl | (refine .inr ?_; simp only [List.getD_cons_zero, List.getD_cons_succ]; done) | exact .inr rfl) ?_)
      exact AllI.nil
    exact AllI.nil
  case he =>
  clear hB t r g
  rintro p w0r ⟨hsz, hB, t, r, g, h_x⟩
  obtain ⟨le_x, x⟩ := h_x rfl
  clear h_x
  replace x : blk w0r (p 7) (wnc wi) 72 := x
  have ne_t_x : w.heap.size ≠ p 7 := Nat.ne_of_lt (Nat.lt_of_lt_of_le lt_t le_x)
  have ne_r_x : (w.heap.size + 1) ≠ p 7 := Nat.ne_of_lt (Nat.lt_of_lt_of_le lt_r le_x)
  have ne_g_x : pb ≠ p 7 := Nat.ne_of_lt (Nat.lt_of_lt_of_le lt_g le_x)
  have ge_x : w.heap.size ≤ p 7 := Nat.le_trans hW0 le_x
  generalize p 7 = x_b at *
  clear lt_t
  clear lt_r
  clear lt_g
  clear hsz hW0
  go_upto_region 2 with (fail)
  have lt_t := t.lt
  have lt_r := r.lt
  have lt_g := g.lt
  have lt_x := x.lt
  have hW0 : w.heap.size ≤ w0r.heap.size := by have := hB.size; first | exact this | simpa using this
  apply wp_region_I 32 [0, 1, 3, 7, 15, 31, 15, 79, 255, 511, 1023, 2047, 4095, 8191, 16383, 32767, 65535, 131071, 262143, 32767, 557055, 2097151, 4194303, 32767, 32767, 16809983, 50364415, 117473279, 268435455, 536870911, 1073741823, 2147483647] [] [_, _, _, _, _, _, _, _, _, _, _, _, _, _, _, _, _, _, _, _, _, _, _, _, _, _, _, _, _, _, _, _] (fun p L w' => w0r.heap.size ≤ w'.heap.size ∧ Below w.heap.size w w' ∧ blk w' w.heap.size (ptc ((m : Int), left, bud)) 128 ∧ blk w' (w.heap.size + 1) (ptc (0, 0, 0)) 128 ∧ blk w' pb (plc (.slice (some ⟨eb, eo, none⟩) n c, gap, mb)) 126 ∧ blk w' x_b (wnc wi) 72) _ [(0, 16), (1, 17), (2, 18), (3, 19), (4, 20), (5, 21), (6, 22), (7, 23), (8, 24), (9, 25), (10, 26), (11, 27), (12, 28), (13, 29), (14, 30), (15, 31), (16, 32), (17, 33), (18, 34), (19, 35), (20, 36), (21, 37), (22, 38), (23, 39), (24, 40), (25, 41), (26, 42), (27, 43), (28, 44), (29, 45), (30, 46), (31, 47)] [0, 1, 2, 3, 4, 5, 6, 7, 8, 9, 10, 11, 12, 13, 14, 15, 16, 17, 18, 19, 20, 21, 22, 23, 24, 25, 26, 27, 28, 29, 30, 31]
  case hn => rfl
  case hm => kernel_rfl
  case hB => kernel_rfl
  case hds => kernel_rfl
  case hA => (intro p; simp only [putsD, Act.put, List.setIfInBounds_toArray, List.set_cons_zero, List.set_cons_succ, List.getD_cons_zero, List.getD_cons_succ]; exact rfl)
  case h0 => exact fun p => ⟨Nat.le_refl _, hB.drew, t.drew, r.drew, g.drew, x.drew⟩
  case hmore => exact fun p L w1 w2 ⟨hsz, hB, t, r, g, x⟩ hm => ⟨Nat.le_trans hsz hm.size, hB.trans (hm.mono (Nat.le_trans hW0 hsz)), t.below hm t.lt, r.below hm r.lt, g.below hm g.lt, x.below hm x.lt⟩
  case hs =>
    intro more
    refine stepV _ rfl rfl (fun _ _ _ h => h) (by intros; go_simp; exact ⟨rfl, rfl⟩) ?_
    refine stepV 1 rfl rfl (fun _ _ _ h => h) ?_ ?_
    · rintro p L w1 ⟨hsz, hB, t, r, g, x⟩ hk
      have hc : w1.cell? ⟨w.heap.size, 1, none⟩ = some (.int .i64 left) := t.cellIs rfl
      go_simp
      exact ⟨rfl, rfl⟩
    iterate 2 (refine stepV _ rfl rfl (fun _ _ _ h => h) (by intros; go_simp; exact ⟨rfl, rfl⟩) ?_)
    refine stepVg _ rfl (fun p => (by first | rfl | (simp [Region.wanted, yielded]; done))) (fun _ _ _ h => h) (by intros; go_simp; exact ⟨rfl, rfl⟩) ?_
    refine stepVg 5 rfl (fun p => (by first | rfl | (simp [Region.wanted, yielded]; done))) (fun _ _ _ h => h) ?_ ?_
    · rintro p L w1 ⟨hsz, hB, t, r, g, x⟩ hk
      have hc : w1.cell? ⟨x_b, 4, none⟩ = some (.int .i64 (wi 4)) := x.cellIs rfl
      go_simp
      exact ⟨rfl, rfl⟩
    refine stepVg _ rfl (fun p => (by first | rfl | (simp [Region.wanted, yielded]; done))) (fun _ _ _ h => h) (by intros; go_simp; exact ⟨rfl, rfl⟩) ?_
    refine stepVg 7 rfl (fun p => (by first | rfl | (simp [Region.wanted, yielded]; done))) (fun _ _ _ h => h) ?_ ?_
    · rintro p L w1 ⟨hsz, hB, t, r, g, x⟩ hk
      have hc : w1.cell? ⟨w.heap.size, 2, none⟩ = some (.int .i64 bud) := t.cellIs rfl
      go_simp
      exact ⟨rfl, rfl⟩
    refine stepVg _ rfl (fun p => (by first | rfl | (simp [Region.wanted, yielded]; done))) (fun _ _ _ h => h) (by intros; go_simp; exact ⟨rfl, rfl⟩) ?_
    iterate 2 (refine stepV _ rfl rfl (fun _ _ _ h => h) (by intros; go_simp; exact ⟨rfl, rfl⟩) ?_)
    refine stepVg _ rfl (fun p => (by first | rfl | (simp [Region.wanted, yielded]; done))) (fun _ _ _ h => h) (by intros; go_simp; exact ⟨rfl, rfl⟩) ?_
    refine stepVg 12 rfl (fun p => (by first | rfl | (simp [Region.wanted, yielded]; done))) (fun _ _ _ h => h) ?_ ?_
    · rintro p L w1 ⟨hsz, hB, t, r, g, x⟩ hk
      have hc : w1.cell? ⟨w.heap.size, 0, none⟩ = some (.int .i64 (m : Int)) := t.cellIs rfl
      go_simp
      exact ⟨rfl, rfl⟩
    iterate 5 (refine stepVg _ rfl (fun p => (by first | rfl | (simp [Region.wanted, yielded]; done))) (fun _ _ _ h => h) (by intros; go_simp; exact ⟨rfl, rfl⟩) ?_)
    refine stepVg 18 rfl (fun p => (by first | rfl | (simp [Region.wanted, yielded]; done))) (fun _ _ _ h => h) ?_ ?_
    · rintro p L w1 ⟨hsz, hB, t, r, g, x⟩ hk
      have hc : w1.cell? ⟨pb, 0, none⟩ = some (.slice (some ⟨eb, eo, none⟩) n c) := g.cellIs rfl
      go_simp
      exact ⟨rfl, rfl⟩
    refine stepVg _ rfl (fun p => (by first | rfl | (simp [Region.wanted, yielded]; done))) (fun _ _ _ h => h) (by intros; go_simp; exact ⟨rfl, rfl⟩) ?_
    refine stepVg 20 rfl (fun p => (by first | rfl | (simp [Region.wanted, yielded]; done))) (fun _ _ _ h => h) ?_ ?_
    · rintro p L w1 ⟨hsz, hB, t, r, g, x⟩ hk
      have hc : w1.cell? ⟨w.heap.size, 0, none⟩ = some (.int .i64 (m : Int)) := t.cellIs rfl
      go_simp
      exact ⟨rfl, rfl⟩
    refine stepVg _ rfl (fun p => (by first | rfl | (simp [Region.wanted, yielded]; done))) (fun _ _ _ h => h) (by intros; go_simp; exact ⟨rfl, rfl⟩) ?_
    refine stepVg 22 rfl (fun p => (by first | rfl | (simp [Region.wanted, yielded]; done))) (fun _ _ _ h => h) ?_ ?_
    · rintro p L w1 ⟨hsz, hB, t, r, g, x⟩ hk
      have hr := range_below hE2 hB hEl
      exact valR_range _ _ rfl _ _ rfl _ (eo + m * 5) 0 hr (by first | rfl | omega) (wnc wm) (wnc_get wm) _ Try.underlying72 rfl (by rw [wnc_size]; kernel_rfl) rfl
    refine stepVg 23 rfl (fun p => (by first | rfl | (simp [Region.wanted, yielded]; done))) (fun _ _ _ h => h) ?_ ?_
    · rintro p L w1 ⟨hsz, hB, t, r, g, x⟩ hk
      first | exact valR_row _ _ rfl _ rfl _ _ x _ Try.underlying72 rfl (by first | kernel_rfl | (rw [wnc_size]; kernel_rfl)) rfl | (have hc := x.cellIs (show _[0]? = some _ from rfl); go_simp; exact ⟨rfl, rfl⟩)
    iterate 3 (refine stepVg _ rfl (fun p => (by first | rfl | (simp [Region.wanted, yielded]; done))) (fun _ _ _ h => h) (by intros; go_simp; exact ⟨rfl, rfl⟩) ?_)
    refine stepVg 27 rfl (fun p => (by first | rfl | (simp [Region.wanted, yielded]; done))) (fun _ _ _ h => h) ?_ ?_
    · rintro p L w1 ⟨hsz, hB, t, r, g, x⟩ hk
      have hc : w1.cell? ⟨pb, 1, none⟩ = some (.int .i64 gap) := g.cellIs rfl
      go_simp
      exact ⟨rfl, rfl⟩
    refine stepD 28 rfl (fun p => (by first | rfl | (simp [Region.wanted, yielded]; done))) (fun _ _ _ h => h) more ?_ ?_
    · rintro p L w1 ⟨hsz, hB, t, r, g, x⟩ hk
      go_simp
      refine (FO.out _).mono ?_
      rintro e w2 ⟨rfl, h2⟩
      first | exact ⟨rfl, h2⟩ | (subst h2; exact ⟨rfl, Below.refl _ _⟩)
    iterate 2 (refine stepVg _ rfl (fun p => (by first | rfl | (simp [Region.wanted, yielded]; done))) (fun _ _ _ h => h) (by intros; go_simp; exact ⟨rfl, rfl⟩) ?_)
    refine stepV _ rfl rfl (fun _ _ _ h => h) (by intros; go_simp; exact ⟨rfl, rfl⟩) ?_
    exact AllI.nil
  case hV0 => exact fun p q => AllI.nil
  case he =>
  clear hB t r g x
  rintro p w0rr ⟨hsz, hB, t, r, g, x⟩
  clear lt_t
  clear lt_r
  clear lt_g
  clear lt_x
  clear hsz hW0
  go_upto_region 4 with (fail)
  have lt_t := t.lt
  have lt_r := r.lt
  have lt_g := g.lt
  have lt_x := x.lt
  have hW0 : w.heap.size ≤ w0rr.heap.size := by have := hB.size; first | exact this | simpa using this
  apply wp_region_Q 12 [0, 1, 3, 7, 15, 31, 63, 127, 255, 511, 1023, 2047] [] [_, _, _, _, _, _, _, _, _, _, (fun _ => undef), _] (fun p L w' => w0rr.heap.size ≤ w'.heap.size ∧ Below w.heap.size w w' ∧ blk w' w.heap.size (ptc ((m : Int), left, bud)) 128 ∧ blk w' (w.heap.size + 1) (bif L 10 then (ptc ((i : Int), left - 1, bud - wi 4)) else (ptc (0, 0, 0))) 128 ∧ blk w' pb (plc (.slice (some ⟨eb, eo, none⟩) n c, gap, mb)) 126 ∧ blk w' x_b (wnc wi) 72) _ [(0, 49), (1, 50), (2, 51), (3, 52), (4, 53), (5, 54), (6, 55), (7, 56), (8, 57), (9, 58), (11, 7)] [0, 1, 2, 3, 4, 5, 6, 7, 8, 9, 10, 11]
  case hn => rfl
  case hB => kernel_rfl
  case hds => kernel_rfl
  case hA => (intro p; simp only [putsD, Act.put, List.setIfInBounds_toArray, List.set_cons_zero, List.set_cons_succ, List.getD_cons_zero, List.getD_cons_succ]; exact rfl)
  case h0 => exact fun p => ⟨Nat.le_refl _, hB, t, r, g, x⟩
  case hmore => exact fun p L w1 w2 ⟨hsz, hB, t, r, g, x⟩ hm => ⟨Nat.le_trans hsz hm.size, hB.trans (hm.mono (Nat.le_trans hW0 hsz)), t.below hm t.lt, r.below hm r.lt, g.below hm g.lt, x.below hm x.lt⟩
  case hs =>
    intro more
    iterate 2 (refine stepV _ rfl rfl (fun _ _ _ h => h) (by intros; go_simp; exact ⟨rfl, rfl⟩) ?_)
    refine stepV 2 rfl rfl (fun _ _ _ h => h) ?_ ?_
    · rintro p L w1 ⟨hsz, hB, t, r, g, x⟩ hk
      have L10 : L 10 = false := hk.2.2 10 rfl
      have hc : w1.cell? ⟨w.heap.size, 1, none⟩ = some (.int .i64 left) := t.cellIs rfl
      go_simp
      exact ⟨rfl, rfl⟩
    iterate 2 (refine stepV _ rfl rfl (fun _ _ _ h => h) (by intros; go_simp; exact ⟨rfl, rfl⟩) ?_)
    refine stepV 5 rfl rfl (fun _ _ _ h => h) ?_ ?_
    · rintro p L w1 ⟨hsz, hB, t, r, g, x⟩ hk
      have L10 : L 10 = false := hk.2.2 10 rfl
      have hc : w1.cell? ⟨w.heap.size, 2, none⟩ = some (.int .i64 bud) := t.cellIs rfl
      go_simp
      exact ⟨rfl, rfl⟩
    refine stepV _ rfl rfl (fun _ _ _ h => h) (by intros; go_simp; exact ⟨rfl, rfl⟩) ?_
    refine stepV 7 rfl rfl (fun _ _ _ h => h) ?_ ?_
    · rintro p L w1 ⟨hsz, hB, t, r, g, x⟩ hk
      have L10 : L 10 = false := hk.2.2 10 rfl
      have hc : w1.cell? ⟨x_b, 4, none⟩ = some (.int .i64 (wi 4)) := x.cellIs rfl
      go_simp
      exact ⟨rfl, rfl⟩
    refine stepV _ rfl rfl (fun _ _ _ h => h) (by intros; go_simp; exact ⟨rfl, rfl⟩) ?_
    refine stepV 9 rfl rfl (fun _ _ _ h => h) ?_ ?_
    · intros; (try simp only [vfn, qfn]); go_simp; exact ⟨rfl, rfl⟩
    refine AllI.cons ?_ ?_
    · refine stepI_store 10 rfl (fun p => rfl) (fun p => rfl) _ _ _ rfl (fun _ => (w.heap.size + 1)) 0 (fun p => rfl) (fun p => (ptc ((i : Int), left - 1, bud - wi 4))) (fun p => rfl) (fun p => (ptc (0, 0, 0))) (fun p => (ptc ((i : Int), left - 1, bud - wi 4))) 128 (fun p => over_ptc _ _) (fun p => by first | (rw [ptc_size, ptc_size]; decide) | simp [ptc_size, ptc_size]) (fun p => by rw [ptc_size]; kernel_rfl) (fun p => ptc_one _) ?_ ?_
      · rintro p L w1 ⟨hsz, hB, t, r, g, x⟩ hk
        have L10 : L 10 = false := hk.1
        rw [L10] at r
        try simp only [cond_true, cond_false] at r
        exact r
      · rintro p L w1 ⟨hsz, hB, t, r, g, x⟩ hk
        have L10 : L 10 = false := hk.1
        skip
        refine ⟨(by simpa using hsz), Below.setRow hB (by first | exact Nat.le_trans hW0 hp.1 | exact ge_r | omega | (have := hB.size; simp at this ⊢; omega)) _, t.rowOther (by first | exact ne_t_r | exact Ne.symm ne_r_t | omega) _, ?_, g.rowOther (by first | exact ne_g_r | exact Ne.symm ne_r_g | omega) _, x.rowOther (by first | exact ne_x_r | exact Ne.symm ne_r_x | omega) _⟩
        rw [show upL L 10 10 = true from rfl]
        exact r.row _
    refine stepV _ rfl rfl (fun _ _ _ h => h) (by intros; go_simp; exact ⟨rfl, rfl⟩) ?_
    exact AllI.nil
  case hV0 => exact fun p q => AllI.nil
  case he =>
  clear hB t r g x
  rintro p w0rrr ⟨hsz, hB, t, r, g, x⟩
  replace r : blk w0rrr (w.heap.size + 1) (ptc ((i : Int), left - 1, bud - wi 4)) 128 := r
  clear lt_t
  clear lt_r
  clear lt_g
  clear lt_x
  clear hsz hW0
  go_wp2_with (fail)
  refine bodyPost_ret (results_vec rfl _ _ _ _ _ _ _ rfl r Try.underlying128 rfl (by first | kernel_rfl | (rw [ptc_size]; kernel_rfl))) rfl ?_
  refine ⟨?_, hB⟩
  rfl
end Go.Proofs.Ytkmelddejdikgaa
