/-
  The planner: rest, where the gain is known.
-/
import Derived.Test.YtkmelddejdikgaaPaC
import Derived.Maps.Own
set_option linter.unusedSimpArgs false
set_option linter.unusedVariables false
namespace Go.Proofs.Ytkmelddejdikgaa
open Go.RowKit PM Dt Pa
set_option maxRecDepth 100000 in
set_option maxHeartbeats 16000000 in
theorem rest_yes (L : Nat → Nat → Int) (gap : Int) (a : Option Addr) (n c pb mb : Nat) (A : Nat → Int × Int) (ok : Nat → Bool) (Rr : Nat → Int → Int → Int × Int) (k : Nat) (last bud : Int) (N c1 cK : Nat) (F : Array MapEntry × Nat) (w : World) (hp : blk w pb (plc (.slice a n c, gap, mb)) 126) (el : ElsN mb w a n 5 (fun k => (wnc (L k)).toList)) (hm : mpAt mb mb w F) (kF : MpOk Rr N F) (hN : N + cK ≤ maxLen) (hcK : 1 + n * c1 ≤ cK) (hk : k ≤ 40) (hl : -1 ≤ last ∧ last < n) (hb : 0 ≤ bud ∧ bud ≤ 1099511627776) (hn : n ≤ 40) (hne : pb ≠ mb) (LK : Hid (∀ w lo, mpAt lo mb w F → (Instr.lookup 124 (.map (some mb)) (.agg (ptc (last, (k : Int), bud))) true).run Try.prog w = .ok (.tuple #[.agg (gnc (Rr k last bud)), .bool true]) w)) (AF : ∀ i, i < n → ok i = true → ∀ (w1 : World) (N1 : Nat), blk w1 pb (plc (.slice a n c, gap, mb)) 126 → ElsN mb w1 a n 5 (fun k => (wnc (L k)).toList) → mpo Rr mb mb w1 N1 → N1 + c1 ≤ maxLen → Calls Try.prog 72 #[.pointer (some ⟨pb, 0, none⟩), .agg (ptc ((i : Int), (k : Int) - 1, bud - L i 4))] w1 fun e w' => e = .returned (.agg (gnc (A i))) ∧ mpo Rr mb mb w' (N1 + c1) ∧ Save mb mb w1 w') (NX : ∀ i, i < n → ∀ (w1 : World), blk w1 pb (plc (.slice a n c, gap, mb)) 126 → ElsN mb w1 a n 5 (fun k => (wnc (L k)).toList) → Calls Try.prog 71 #[.pointer (some ⟨pb, 0, none⟩), .agg (ptc (last, (k : Int), bud)), .int .i64 (i : Int)] w1 fun e w' => e = .returned (.tuple #[.agg (ptc (if ok i then ((i : Int), (k : Int) - 1, bud - L i 4) else (last, (k : Int), bud))), .bool (ok i)]) ∧ Below w1.heap.size w1 w') (hR : bst A ok n = Rr k last bud) : Calls Try.prog 70 #[.pointer (some ⟨pb, 0, none⟩), .agg (ptc (last, (k : Int), bud))] w fun e w' => e = .returned (.agg (gnc (Rr k last bud))) ∧ mpo Rr mb mb w' (N + cK) ∧ Save mb mb w w' := by
  replace AF := Lib.hid AF
  replace NX := Lib.hid NX
  have wf1 : (Lit.int .i64 last).wf = true := WalkArith.wf_i64 (by omega)
  have wf2 : (Lit.int .i64 (k : Int)).wf = true := WalkArith.wf_i64 (by omega)
  have wf3 : (Lit.int .i64 bud).wf = true := WalkArith.wf_i64 (by omega)
  replace hN := Lib.hid hN
  replace hcK := Lib.hid hcK
  replace wf1 := Lib.hid wf1
  replace wf2 := Lib.hid wf2
  replace wf3 := Lib.hid wf3
  clear hl hb hk
  go_enter Try.func70, Try.ntmps70
  go_upto_region 1 with (fail)
  simp only [zero_gnc]
  have t : blk ((w.alloc (.cells (ptc (last, (k : Int), bud)) 128)).alloc (.cells (gnc (0, 0)) 130)) w.heap.size (ptc (last, (k : Int), bud)) 128 := (blk.new _ _ _).alloc _
  have r : blk ((w.alloc (.cells (ptc (last, (k : Int), bud)) 128)).alloc (.cells (gnc (0, 0)) 130)) (w.heap.size + 1) (gnc (0, 0)) 130 := blk.new' (by simp)
  have hB : Below w.heap.size w ((w.alloc (.cells (ptc (last, (k : Int), bud)) 128)).alloc (.cells (gnc (0, 0)) 130)) := by go_grown
  generalize ((w.alloc (.cells (ptc (last, (k : Int), bud)) 128)).alloc (.cells (gnc (0, 0)) 130)) = w0 at *
  have lm := hm.lt
  have g : blk w0 pb (plc (.slice a n c, gap, mb)) 126 := hp.below hB hp.lt
  have m := hm.below hB lm
  have glt := hp.lt
  have mlt := hm.lt
  replace hB : Save mb mb w w0 := Save.of hB
  clear hp hm
  have ne_t_g : w.heap.size ≠ pb := by omega
  have ne_r_g : w.heap.size + 1 ≠ pb := by omega
  have ne_t_r : w.heap.size ≠ w.heap.size + 1 := by omega
  have out_t : mb < w.heap.size := by omega
  have out_r : mb < w.heap.size + 1 := by omega
  have lt_t := t.lt
  have lt_r := r.lt
  have lt_g := g.lt
  have lt_m := m.lt
  have hW0 : w.heap.size ≤ w0.heap.size := by have := hB.size; first | exact this | simpa using this
  apply wp_region_I 12 [0, 1, 3, 7, 0, 31, 63, 127, 127, 0, 767, 2047] [9] [_, _, _, _, _, _, _, _, _, (fun p => .pointer (some ⟨p 9, 0, none⟩)), (fun _ => undef), _] (fun p L w' => w0.heap.size ≤ w'.heap.size ∧ Save mb mb w w' ∧ blk w' w.heap.size (ptc (last, (k : Int), bud)) 128 ∧ blk w' (w.heap.size + 1) (gnc (0, 0)) 130 ∧ blk w' pb (plc (.slice a n c, gap, mb)) 126 ∧ mpAt mb mb w' (F) ∧ (L 9 = true → w0.heap.size ≤ p 9 ∧ blk w' (p 9) (bif L 10 then (gnc (Rr k last bud)) else (gnc (0, 0))) 130)) _ [(0, 12), (1, 13), (2, 14), (3, 15), (4, 16), (5, 17), (6, 11), (7, 18), (8, 19), (9, 5), (11, 6)] [0, 1, 2, 3, 4, 5, 6, 7, 8, 9, 10, 11]
  case hn => rfl
  case hm => kernel_rfl
  case hB => kernel_rfl
  case hds => kernel_rfl
  case hA => (intro p; simp only [putsD, Act.put, List.setIfInBounds_toArray, List.set_cons_zero, List.set_cons_succ, List.getD_cons_zero, List.getD_cons_succ]; exact rfl)
  case h0 => exact fun p => ⟨Nat.le_refl _, hB.drew, t.drew, r.drew, g.drew, m.drew, fun h => absurd h (by decide)⟩
  case hmore => exact fun p L w1 w2 ⟨hsz, hB, t, r, g, m, h_x⟩ hm => ⟨Nat.le_trans hsz hm.size, hB.trans (hm.mono (Nat.le_trans hW0 hsz)), t.below hm t.lt, r.below hm r.lt, g.below hm g.lt, m.below hm m.lt, fun hl => ⟨(h_x hl).1, (h_x hl).2.below hm (h_x hl).2.lt⟩⟩
  case hs =>
    intro more
    iterate 3 (refine stepV _ rfl rfl (fun _ _ _ h => h) (by intros; go_simp; exact ⟨rfl, rfl⟩) ?_)
    refine stepV 3 rfl rfl (fun _ _ _ h => h) ?_ ?_
    · rintro p L w1 ⟨hsz, hB, t, r, g, m, h_x⟩ hk
      have L10 : L 10 = false := hk.2.2 10 rfl
      have hc : w1.cell? ⟨pb, 2, none⟩ = some (.map (some mb)) := g.cellIs rfl
      go_simp
      exact ⟨rfl, rfl⟩
    refine stepV 4 rfl rfl (fun _ _ _ h => h) ?_ ?_
    · rintro p L w1 ⟨hsz, hB, t, r, g, m, h_x⟩ hk
      have L10 : L 10 = false := hk.2.2 10 rfl
      first | exact valR_row _ _ rfl _ rfl _ _ t _ Try.underlying128 rfl (by first | kernel_rfl | (rw [ptc_size]; kernel_rfl)) rfl | (have hc := t.cellIs (show _[0]? = some _ from rfl); go_simp; exact ⟨rfl, rfl⟩)
    refine AllI.cons ?_ ?_
    · refine stepI_val 5 rfl (fun p => rfl) ?_ (fun _ _ _ h => h)
      rintro p L w1 ⟨hsz, hB, t, r, g, m, h_x⟩ hk
      have hrun := LK.out w1 mb m
      unfold execOp
      go_simp
      exact ⟨rfl, rfl⟩
    iterate 3 (refine stepV _ rfl rfl (fun _ _ _ h => h) (by intros; go_simp; exact ⟨rfl, rfl⟩) ?_)
    refine AllI.cons ?_ ?_
    · refine stepI_alloc 9 rfl (fun p => rfl) rfl (gnc (0, 0)) 130 (fun p => rfl) ?_ ?_
      · intro p w1
        go_simp
        first | done | rfl | rw [zero_gnc]
      rintro p L w1 ⟨hsz, hB, t, r, g, m, h_x⟩ hk
      have L10 : L 10 = false := hk.2.2 10 rfl
      refine ⟨Nat.le_trans hsz (by simp), hB.alloc (Nat.le_trans (by first | exact hW0 | (have := hB.size; simp at this ⊢; omega)) hsz) _, t.alloc _, r.alloc _, g.alloc _, m.alloc _, fun _ => ⟨hsz, ?_⟩⟩
      rw [show upL L 9 10 = false from L10]
      exact blk.new _ _ _
    refine AllI.cons ?_ ?_
    · refine stepI_store 10 rfl (fun p => rfl) (fun p => rfl) _ _ _ rfl (fun p => p 9) 0 (fun p => rfl) (fun p => (gnc (Rr k last bud))) (fun p => rfl) (fun p => (gnc (0, 0))) (fun p => (gnc (Rr k last bud))) 130 (fun p => over_gnc _ _) (fun p => by first | (rw [gnc_size, gnc_size]; decide) | simp [gnc_size, gnc_size]) (fun p => by rw [gnc_size]; kernel_rfl) (fun p => gnc_one _) ?_ ?_
      · rintro p L w1 ⟨hsz, hB, t, r, g, m, h_x⟩ hk
        have L10 : L 10 = false := hk.1
        have hh := (h_x (hk.2.1 9 rfl)).2
        rw [L10] at hh
        try simp only [cond_true, cond_false] at hh
        exact hh
      · rintro p L w1 ⟨hsz, hB, t, r, g, m, h_x⟩ hk
        have L10 : L 10 = false := hk.1
        skip
        have hp := h_x (hk.2.1 9 rfl)
        refine ⟨(by simpa using hsz), hB.row (by first | exact .inr (Nat.le_trans hW0 hp.1) | exact .inr ge_x | exact .inl ⟨Nat.le_refl _, Nat.le_refl _⟩ | omega | (have := hB.size; simp at this ⊢; omega)) _, t.rowOther (by first | exact Nat.ne_of_lt (Nat.lt_of_lt_of_le lt_t hp.1) | omega) _, r.rowOther (by first | exact Nat.ne_of_lt (Nat.lt_of_lt_of_le lt_r hp.1) | omega) _, g.rowOther (by first | exact Nat.ne_of_lt (Nat.lt_of_lt_of_le lt_g hp.1) | omega) _, m.rowOther (.inr (Nat.lt_of_lt_of_le lt_m hp.1)) _, fun _ => ⟨hp.1, ?_⟩⟩
        rw [show upL L 10 10 = true from rfl]
        exact hp.2.row _
    refine stepV _ rfl rfl (fun _ _ _ h => h) (by intros; go_simp; exact ⟨rfl, rfl⟩) ?_
    exact AllI.nil
  case hV0 =>
    intro p q
    refine AllI.cons ?_ ?_
    · skip
      iterate 12 (refine AllI.cons (by first | exact .inl rfl | (refine .inr ?_; simp only [List.getD_cons_zero, List.getD_cons_succ]; done) | exact .inr rfl) ?_)
      exact AllI.nil
    exact AllI.nil
  case he =>
  clear hB t r g m
  rintro p w0r ⟨hsz, hB, t, r, g, m, h_x⟩
  obtain ⟨le_x, x⟩ := h_x rfl
  clear h_x
  replace x : blk w0r (p 9) (gnc (Rr k last bud)) 130 := x
  have ne_t_x : w.heap.size ≠ p 9 := Nat.ne_of_lt (Nat.lt_of_lt_of_le lt_t le_x)
  have ne_r_x : (w.heap.size + 1) ≠ p 9 := Nat.ne_of_lt (Nat.lt_of_lt_of_le lt_r le_x)
  have ne_g_x : pb ≠ p 9 := Nat.ne_of_lt (Nat.lt_of_lt_of_le lt_g le_x)
  have ne_m_x : mb ≠ p 9 := Nat.ne_of_lt (Nat.lt_of_lt_of_le lt_m le_x)
  have ge_x : w.heap.size ≤ p 9 := Nat.le_trans hW0 le_x
  have out_x : mb < p 9 := Nat.lt_of_lt_of_le lt_m le_x
  generalize p 9 = x_b at *
  clear lt_t
  clear lt_r
  clear lt_g
  clear lt_m
  clear hsz hW0
  replace m : mpo Rr mb mb w0r N := ⟨F, m, kF⟩
  clear LK kF
  go_upto_region 3 with (fail)
  have lt_t := t.lt
  have lt_r := r.lt
  have lt_g := g.lt
  have lt_m := m.lt
  have lt_x := x.lt
  have hW0 : w.heap.size ≤ w0r.heap.size := by have := hB.size; first | exact this | simpa using this
  apply wp_region_Q 2 [0, 1] [] [_, (fun _ => undef)] (fun p L w' => w0r.heap.size ≤ w'.heap.size ∧ Save mb mb w w' ∧ blk w' w.heap.size (ptc (last, (k : Int), bud)) 128 ∧ blk w' (w.heap.size + 1) (bif L 1 then (gnc (Rr k last bud)) else (gnc (0, 0))) 130 ∧ blk w' pb (plc (.slice a n c, gap, mb)) 126 ∧ mpo Rr mb mb w' (N) ∧ blk w' x_b (gnc (Rr k last bud)) 130) _ [(0, 21)] [0, 1]
  case hn => rfl
  case hB => kernel_rfl
  case hds => kernel_rfl
  case hA => (intro p; simp only [putsD, Act.put, List.setIfInBounds_toArray, List.set_cons_zero, List.set_cons_succ, List.getD_cons_zero, List.getD_cons_succ]; exact rfl)
  case h0 => exact fun p => ⟨Nat.le_refl _, hB, t, r, g, m, x⟩
  case hmore => exact fun p L w1 w2 ⟨hsz, hB, t, r, g, m, x⟩ hm => ⟨Nat.le_trans hsz hm.size, hB.trans (hm.mono (Nat.le_trans hW0 hsz)), t.below hm t.lt, r.below hm r.lt, g.below hm g.lt, m.below hm m.lt, x.below hm x.lt⟩
  case hs =>
    intro more
    refine stepV 0 rfl rfl (fun _ _ _ h => h) ?_ ?_
    · rintro p L w1 ⟨hsz, hB, t, r, g, m, x⟩ hk
      have L1 : L 1 = false := hk.2.2 1 rfl
      first | exact valR_row _ _ rfl _ rfl _ _ x _ Try.underlying130 rfl (by first | kernel_rfl | (rw [gnc_size]; kernel_rfl)) rfl | (have hc := x.cellIs (show _[0]? = some _ from rfl); go_simp; exact ⟨rfl, rfl⟩)
    refine AllI.cons ?_ ?_
    · refine stepI_store 1 rfl (fun p => rfl) (fun p => rfl) _ _ _ rfl (fun _ => (w.heap.size + 1)) 0 (fun p => rfl) (fun p => (gnc (Rr k last bud))) (fun p => rfl) (fun p => (gnc (0, 0))) (fun p => (gnc (Rr k last bud))) 130 (fun p => over_gnc _ _) (fun p => by first | (rw [gnc_size, gnc_size]; decide) | simp [gnc_size, gnc_size]) (fun p => by rw [gnc_size]; kernel_rfl) (fun p => gnc_one _) ?_ ?_
      · rintro p L w1 ⟨hsz, hB, t, r, g, m, x⟩ hk
        have L1 : L 1 = false := hk.1
        rw [L1] at r
        try simp only [cond_true, cond_false] at r
        exact r
      · rintro p L w1 ⟨hsz, hB, t, r, g, m, x⟩ hk
        have L1 : L 1 = false := hk.1
        skip
        refine ⟨(by simpa using hsz), hB.row (by first | exact .inr (Nat.le_trans hW0 hp.1) | exact .inr ge_r | exact .inl ⟨Nat.le_refl _, Nat.le_refl _⟩ | omega | (have := hB.size; simp at this ⊢; omega)) _, t.rowOther (by first | exact ne_t_r | exact Ne.symm ne_r_t | omega) _, ?_, g.rowOther (by first | exact ne_g_r | exact Ne.symm ne_r_g | omega) _, m.rowOther (by first | exact .inr out_r | exact .inl out_r | omega) _, x.rowOther (by first | exact ne_x_r | exact Ne.symm ne_r_x | omega) _⟩
        rw [show upL L 1 1 = true from rfl]
        exact r.row _
    exact AllI.nil
  case hV0 => exact fun p q => AllI.nil
  case he =>
  clear hB t r g m x
  rintro p w0rr ⟨hsz, hB, t, r, g, m, x⟩
  replace r : blk w0rr (w.heap.size + 1) (gnc (Rr k last bud)) 130 := r
  clear lt_t
  clear lt_r
  clear lt_g
  clear lt_m
  clear lt_x
  clear hsz hW0
  go_wp2_with (fail)
  refine bodyPost_ret (results_cell_row rfl _ _ _ _ _ _ _ rfl r Try.underlying130 rfl (by first | kernel_rfl | (rw [gnc_size]; kernel_rfl))) rfl ?_
  exact ⟨rfl, m.mono (by omega), hB⟩
end Go.Proofs.Ytkmelddejdikgaa
