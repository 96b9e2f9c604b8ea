/-
  The planner: rest.
-/
import Derived.Test.YtkmelddejdikgaaPaC
import Derived.Maps.Own
set_option linter.unusedSimpArgs false
set_option linter.unusedVariables false
namespace Go.Proofs.Ytkmelddejdikgaa
open Go.RowKit PM Dt Pa
set_option maxRecDepth 100000 in
set_option maxHeartbeats 16000000 in
theorem rest_no (Lw : Nat → Nat → Int) (gap : Int) (a : Option Addr) (n c pb mb : Nat) (A : Nat → Int × Int) (ok : Nat → Bool) (Rr : Nat → Int → Int → Int × Int) (k : Nat) (last bud : Int) (N c1 cK : Nat) (F : Array MapEntry × Nat) (w : World) (hp : blk w pb (plc (.slice a n c, gap, mb)) 126) (el : ElsN mb w a n 5 (fun k => (wnc (Lw k)).toList)) (hm : mpAt mb mb w F) (kF : MpOk Rr N F) (hN : N + cK ≤ maxLen) (hcK : 1 + n * c1 ≤ cK) (hk : k ≤ 40) (hl : -1 ≤ last ∧ last < n) (hb : 0 ≤ bud ∧ bud ≤ 1099511627776) (hn : n ≤ 40) (hne : pb ≠ mb) (LK : Hid (∀ w lo, mpAt lo mb w F → (Instr.lookup 124 (.map (some mb)) (.agg (ptc (last, (k : Int), bud))) true).run Try.prog w = .ok (.tuple #[.agg (gnc (0, 0)), .bool false]) w)) (AF : ∀ i, i < n → ok i = true → ∀ (w1 : World) (N1 : Nat), blk w1 pb (plc (.slice a n c, gap, mb)) 126 → ElsN mb w1 a n 5 (fun k => (wnc (Lw k)).toList) → mpo Rr mb mb w1 N1 → N1 + c1 ≤ maxLen → Calls Try.prog 72 #[.pointer (some ⟨pb, 0, none⟩), .agg (ptc ((i : Int), (k : Int) - 1, bud - Lw i 4))] w1 fun e w' => e = .returned (.agg (gnc (A i))) ∧ mpo Rr mb mb w' (N1 + c1) ∧ Save mb mb w1 w') (NX : ∀ i, i < n → ∀ (w1 : World), blk w1 pb (plc (.slice a n c, gap, mb)) 126 → ElsN mb w1 a n 5 (fun k => (wnc (Lw k)).toList) → Calls Try.prog 71 #[.pointer (some ⟨pb, 0, none⟩), .agg (ptc (last, (k : Int), bud)), .int .i64 (i : Int)] w1 fun e w' => e = .returned (.tuple #[.agg (ptc (if ok i then ((i : Int), (k : Int) - 1, bud - Lw i 4) else (last, (k : Int), bud))), .bool (ok i)]) ∧ Below w1.heap.size w1 w') (hR : bst A ok n = Rr k last bud) : Calls Try.prog 70 #[.pointer (some ⟨pb, 0, none⟩), .agg (ptc (last, (k : Int), bud))] w fun e w' => e = .returned (.agg (gnc (Rr k last bud))) ∧ mpo Rr mb mb w' (N + cK) ∧ Save mb mb w w' := by
  replace AF := Lib.hid AF
  replace NX := Lib.hid NX
  have wf1 : (Lit.int .i64 last).wf = true := WalkArith.wf_i64 (by omega)
  have wf2 : (Lit.int .i64 (k : Int)).wf = true := WalkArith.wf_i64 (by omega)
  have wf3 : (Lit.int .i64 bud).wf = true := WalkArith.wf_i64 (by omega)
  replace hN := Lib.hid hN
  replace hcK := Lib.hid hcK
  replace wf1 := Lib.hid wf1
  replace wf2 := Lib.hid wf2
  replace wf3 := Lib.hid wf3
  clear hl hb hk
  go_enter Try.func70, Try.ntmps70
  go_upto_region 1 with (fail)
  simp only [zero_gnc]
  have t : blk ((w.alloc (.cells (ptc (last, (k : Int), bud)) 128)).alloc (.cells (gnc (0, 0)) 130)) w.heap.size (ptc (last, (k : Int), bud)) 128 := (blk.new _ _ _).alloc _
  have r : blk ((w.alloc (.cells (ptc (last, (k : Int), bud)) 128)).alloc (.cells (gnc (0, 0)) 130)) (w.heap.size + 1) (gnc (0, 0)) 130 := blk.new' (by simp)
  have hB : Below w.heap.size w ((w.alloc (.cells (ptc (last, (k : Int), bud)) 128)).alloc (.cells (gnc (0, 0)) 130)) := by go_grown
  generalize ((w.alloc (.cells (ptc (last, (k : Int), bud)) 128)).alloc (.cells (gnc (0, 0)) 130)) = w0 at *
  have lm := hm.lt
  have g : blk w0 pb (plc (.slice a n c, gap, mb)) 126 := hp.below hB hp.lt
  have m := hm.below hB lm
  have glt := hp.lt
  have mlt := hm.lt
  replace hB : Save mb mb w w0 := Save.of hB
  clear hp hm
  have ne_t_g : w.heap.size ≠ pb := by omega
  have ne_r_g : w.heap.size + 1 ≠ pb := by omega
  have ne_t_r : w.heap.size ≠ w.heap.size + 1 := by omega
  have out_t : mb < w.heap.size := by omega
  have out_r : mb < w.heap.size + 1 := by omega
  have lt_t := t.lt
  have lt_r := r.lt
  have lt_g := g.lt
  have lt_m := m.lt
  have hW0 : w.heap.size ≤ w0.heap.size := by have := hB.size; first | exact this | simpa using this
  apply wp_region_I 12 [0, 1, 3, 7, 0, 31, 63, 127, 127, 0, 767, 2047] [9] [_, _, _, _, _, _, _, _, _, (fun p => .pointer (some ⟨p 9, 0, none⟩)), (fun _ => undef), _] (fun p L w' => w0.heap.size ≤ w'.heap.size ∧ Save mb mb w w' ∧ blk w' w.heap.size (ptc (last, (k : Int), bud)) 128 ∧ blk w' (w.heap.size + 1) (gnc (0, 0)) 130 ∧ blk w' pb (plc (.slice a n c, gap, mb)) 126 ∧ mpAt mb mb w' (F) ∧ (L 9 = true → w0.heap.size ≤ p 9 ∧ blk w' (p 9) (bif L 10 then (gnc (0, 0)) else (gnc (0, 0))) 130)) _ [(0, 12), (1, 13), (2, 14), (3, 15), (4, 16), (5, 17), (6, 11), (7, 18), (8, 19), (9, 5), (11, 6)] [0, 1, 2, 3, 4, 5, 6, 7, 8, 9, 10, 11]
  case hn => rfl
  case hm => kernel_rfl
  case hB => kernel_rfl
  case hds => kernel_rfl
  case hA => (intro p; simp only [putsD, Act.put, List.setIfInBounds_toArray, List.set_cons_zero, List.set_cons_succ, List.getD_cons_zero, List.getD_cons_succ]; exact rfl)
  case h0 => exact fun p => ⟨Nat.le_refl _, hB.drew, t.drew, r.drew, g.drew, m.drew, fun h => absurd h (by decide)⟩
  case hmore => exact fun p L w1 w2 ⟨hsz, hB, t, r, g, m, h_x⟩ hm => ⟨Nat.le_trans hsz hm.size, hB.trans (hm.mono (Nat.le_trans hW0 hsz)), t.below hm t.lt, r.below hm r.lt, g.below hm g.lt, m.below hm m.lt, fun hl => ⟨(h_x hl).1, (h_x hl).2.below hm (h_x hl).2.lt⟩⟩
  case hs =>
    intro more
    iterate 3 (refine stepV _ rfl rfl (fun _ _ _ h => h) (by intros; go_simp; exact ⟨rfl, rfl⟩) ?_)
    refine stepV 3 rfl rfl (fun _ _ _ h => h) ?_ ?_
    · rintro p L w1 ⟨hsz, hB, t, r, g, m, h_x⟩ hk
      have L10 : L 10 = false := hk.2.2 10 rfl
      have hc : w1.cell? ⟨pb, 2, none⟩ = some (.map (some mb)) := g.cellIs rfl
      go_simp
      exact ⟨rfl, rfl⟩
    refine stepV 4 rfl rfl (fun _ _ _ h => h) ?_ ?_
    · rintro p L w1 ⟨hsz, hB, t, r, g, m, h_x⟩ hk
      have L10 : L 10 = false := hk.2.2 10 rfl
      first | exact valR_row _ _ rfl _ rfl _ _ t _ Try.underlying128 rfl (by first | kernel_rfl | (rw [ptc_size]; kernel_rfl)) rfl | (have hc := t.cellIs (show _[0]? = some _ from rfl); go_simp; exact ⟨rfl, rfl⟩)
    refine AllI.cons ?_ ?_
    · refine stepI_val 5 rfl (fun p => rfl) ?_ (fun _ _ _ h => h)
      rintro p L w1 ⟨hsz, hB, t, r, g, m, h_x⟩ hk
      have hrun := LK.out w1 mb m
      unfold execOp
      go_simp
      exact ⟨rfl, rfl⟩
    iterate 3 (refine stepV _ rfl rfl (fun _ _ _ h => h) (by intros; go_simp; exact ⟨rfl, rfl⟩) ?_)
    refine AllI.cons ?_ ?_
    · refine stepI_alloc 9 rfl (fun p => rfl) rfl (gnc (0, 0)) 130 (fun p => rfl) ?_ ?_
      · intro p w1
        go_simp
        first | done | rfl | rw [zero_gnc]
      rintro p L w1 ⟨hsz, hB, t, r, g, m, h_x⟩ hk
      have L10 : L 10 = false := hk.2.2 10 rfl
      refine ⟨Nat.le_trans hsz (by simp), hB.alloc (Nat.le_trans (by first | exact hW0 | (have := hB.size; simp at this ⊢; omega)) hsz) _, t.alloc _, r.alloc _, g.alloc _, m.alloc _, fun _ => ⟨hsz, ?_⟩⟩
      rw [show upL L 9 10 = false from L10]
      exact blk.new _ _ _
    refine AllI.cons ?_ ?_
    · refine stepI_store 10 rfl (fun p => rfl) (fun p => rfl) _ _ _ rfl (fun p => p 9) 0 (fun p => rfl) (fun p => (gnc (0, 0))) (fun p => rfl) (fun p => (gnc (0, 0))) (fun p => (gnc (0, 0))) 130 (fun p => over_gnc _ _) (fun p => by first | (rw [gnc_size, gnc_size]; decide) | simp [gnc_size, gnc_size]) (fun p => by rw [gnc_size]; kernel_rfl) (fun p => gnc_one _) ?_ ?_
      · rintro p L w1 ⟨hsz, hB, t, r, g, m, h_x⟩ hk
        have L10 : L 10 = false := hk.1
        have hh := (h_x (hk.2.1 9 rfl)).2
        rw [L10] at hh
        try simp only [cond_true, cond_false] at hh
        exact hh
      · rintro p L w1 ⟨hsz, hB, t, r, g, m, h_x⟩ hk
        have L10 : L 10 = false := hk.1
        skip
        have hp := h_x (hk.2.1 9 rfl)
        refine ⟨(by simpa using hsz), hB.row (by first | exact .inr (Nat.le_trans hW0 hp.1) | exact .inr ge_x | exact .inl ⟨Nat.le_refl _, Nat.le_refl _⟩ | omega | (have := hB.size; simp at this ⊢; omega)) _, t.rowOther (by first | exact Nat.ne_of_lt (Nat.lt_of_lt_of_le lt_t hp.1) | omega) _, r.rowOther (by first | exact Nat.ne_of_lt (Nat.lt_of_lt_of_le lt_r hp.1) | omega) _, g.rowOther (by first | exact Nat.ne_of_lt (Nat.lt_of_lt_of_le lt_g hp.1) | omega) _, m.rowOther (.inr (Nat.lt_of_lt_of_le lt_m hp.1)) _, fun _ => ⟨hp.1, ?_⟩⟩
        rw [show upL L 10 10 = true from rfl]
        exact hp.2.row _
    refine stepV _ rfl rfl (fun _ _ _ h => h) (by intros; go_simp; exact ⟨rfl, rfl⟩) ?_
    exact AllI.nil
  case hV0 =>
    intro p q
    refine AllI.cons ?_ ?_
    · skip
      iterate 12 (refine AllI.cons (by first | exact .inl rfl | (refine .inr ?_; simp only [List.getD_cons_zero, List.getD_cons_succ]; done) | exact .inr rfl) ?_)
      exact AllI.nil
    exact AllI.nil
  case he =>
  clear hB t r g m
  rintro p w0r ⟨hsz, hB, t, r, g, m, h_x⟩
  obtain ⟨le_x, x⟩ := h_x rfl
  clear h_x
  replace x : blk w0r (p 9) (gnc (0, 0)) 130 := x
  have ne_t_x : w.heap.size ≠ p 9 := Nat.ne_of_lt (Nat.lt_of_lt_of_le lt_t le_x)
  have ne_r_x : (w.heap.size + 1) ≠ p 9 := Nat.ne_of_lt (Nat.lt_of_lt_of_le lt_r le_x)
  have ne_g_x : pb ≠ p 9 := Nat.ne_of_lt (Nat.lt_of_lt_of_le lt_g le_x)
  have ne_m_x : mb ≠ p 9 := Nat.ne_of_lt (Nat.lt_of_lt_of_le lt_m le_x)
  have ge_x : w.heap.size ≤ p 9 := Nat.le_trans hW0 le_x
  have out_x : mb < p 9 := Nat.lt_of_lt_of_le lt_m le_x
  generalize p 9 = x_b at *
  clear lt_t
  clear lt_r
  clear lt_g
  clear lt_m
  clear hsz hW0
  replace m : mpo Rr mb mb w0r N := ⟨F, m, kF⟩
  clear LK kF
  go_upto_region 4 with (fail)
  have lt_t := t.lt
  have lt_r := r.lt
  have lt_g := g.lt
  have lt_m := m.lt
  have lt_x := x.lt
  have hW0 : w.heap.size ≤ w0r.heap.size := by have := hB.size; first | exact this | simpa using this
  apply wp_region_Q 6 [0, 1, 3, 7, 15, 31] [] [_, _, _, _, _, _] (fun p L w' => w0r.heap.size ≤ w'.heap.size ∧ Save mb mb w w' ∧ blk w' w.heap.size (ptc (last, (k : Int), bud)) 128 ∧ blk w' (w.heap.size + 1) (gnc (0, 0)) 130 ∧ blk w' pb (plc (.slice a n c, gap, mb)) 126 ∧ mpo Rr mb mb w' (N) ∧ blk w' x_b (gnc (0, 0)) 130) _ [(0, 22), (1, 23), (2, 24), (3, 25), (4, 26), (5, 27)] [0, 1, 2, 3, 4, 5]
  case hn => rfl
  case hB => kernel_rfl
  case hds => kernel_rfl
  case hA => (intro p; simp only [putsD, Act.put, List.setIfInBounds_toArray, List.set_cons_zero, List.set_cons_succ, List.getD_cons_zero, List.getD_cons_succ]; exact rfl)
  case h0 => exact fun p => ⟨Nat.le_refl _, hB, t, r, g, m, x⟩
  case hmore => exact fun p L w1 w2 ⟨hsz, hB, t, r, g, m, x⟩ hm => ⟨Nat.le_trans hsz hm.size, hB.trans (hm.mono (Nat.le_trans hW0 hsz)), t.below hm t.lt, r.below hm r.lt, g.below hm g.lt, m.below hm m.lt, x.below hm x.lt⟩
  case hs =>
    intro more
    iterate 3 (refine stepV _ rfl rfl (fun _ _ _ h => h) (by intros; go_simp; exact ⟨rfl, rfl⟩) ?_)
    refine stepV 3 rfl rfl (fun _ _ _ h => h) ?_ ?_
    · rintro p L w1 ⟨hsz, hB, t, r, g, m, x⟩ hk
      have hc : w1.cell? ⟨pb, 0, none⟩ = some (.slice a n c) := g.cellIs rfl
      go_simp
      exact ⟨rfl, rfl⟩
    iterate 2 (refine stepV _ rfl rfl (fun _ _ _ h => h) (by intros; go_simp; exact ⟨rfl, rfl⟩) ?_)
    exact AllI.nil
  case hV0 => exact fun p q => AllI.nil
  case he =>
  clear hB t r g m x
  rintro p w0rr ⟨hsz, hB, t, r, g, m, x⟩
  clear lt_t
  clear lt_r
  clear lt_g
  clear lt_m
  clear lt_x
  clear hsz hW0
  have hx0 : x_b < w0rr.heap.size := x.lt
  go_wp2_with (fail)
  go_loopg [27] n (fun g_ iv wr => ∃ j : Nat, g_ + j = n ∧ iv = .int .i64 j ∧ blk wr w.heap.size (ptc (last, (k : Int), bud)) 128 ∧ blk wr (w.heap.size + 1) (gnc (0, 0)) 130 ∧ blk wr pb (plc (.slice a n c, gap, mb)) 126 ∧ mpo Rr mb mb wr (N + j * c1) ∧ blk wr x_b (gnc (bst A ok j)) 130 ∧ Save mb mb w wr)
  case atStart => exact ⟨0, by omega, rfl, t, r, g, by rw [Nat.zero_mul]; exact m, x, hB⟩
  case round =>
    clear t r g m x hB hx0
    obtain ⟨j, hj, rfl, t, r, g, m, x, hB⟩ := hrel
    by_cases hjn : j < n
    · have hdj : decide ((j : Int) < n) = true := decide_eq_true (by omega)
      have hdj' : decide (j < n) = true := decide_eq_true hjn
      have hj3 : (j : Int) < n := by omega
      have hj0 : (0 : Int) ≤ j := by omega
      have hwj : IntKind.i64.wrap ((j : Int) + 1) = ((j + 1 : Nat) : Int) := by rw [IntKind.wrap_i64]; omega
      have hsx : (bst A ok (j + 1)) = if ok j && betB (A j) (bst A ok j) then A j else bst A ok j := rfl
      have NJ := Lib.hid (fun w1 x1 x2 => NX.out j hjn w1 x1 x2)
      have AJ := Lib.hid (fun hk => AF.out j hjn hk)
      have hNj : N + j * c1 + c1 ≤ maxLen := by
        have h1 := Nat.mul_le_mul_right c1 (show j + 1 ≤ n from hjn)
        rw [Nat.succ_mul] at h1
        have := hN.out
        have := hcK.out
        omega
      have hNs : N + (j + 1) * c1 = N + j * c1 + c1 := by rw [Nat.succ_mul]; omega
      replace hNj := Lib.hid hNj
      replace hNs := Lib.hid hNs
      replace hsx := Lib.hid hsx
      generalize hoj : ok j = oj at *
      replace hoj := Lib.hid hoj
      generalize bst A ok j = Bj at *
      generalize hAj : A j = Aj at *
      clear hAj
      rcases oj
      case false =>
        simp only [Bool.false_eq_true, if_false] at NJ
        go_upto_region 7 with (fail)
        have lt_t := t.lt
        have lt_r := r.lt
        have lt_g := g.lt
        have lt_m := m.lt
        have lt_x := x.lt
        have hW0 : w.heap.size ≤ wr.heap.size := by have := hB.size; first | exact this | simpa using this
        apply wp_region_Q 10 [0, 1, 3, 7, 15, 31, 63, 127, 255, 511] [7] [_, _, _, _, _, _, _, (fun p => .pointer (some ⟨p 7, 0, none⟩)), (fun _ => undef), _] (fun p L w' => wr.heap.size ≤ w'.heap.size ∧ Save mb mb w w' ∧ blk w' w.heap.size (ptc (last, (k : Int), bud)) 128 ∧ blk w' (w.heap.size + 1) (gnc (0, 0)) 130 ∧ blk w' pb (plc (.slice a n c, gap, mb)) 126 ∧ mpo Rr mb mb w' (N + j * c1) ∧ blk w' x_b (gnc Bj) 130 ∧ (L 7 = true → wr.heap.size ≤ p 7 ∧ blk w' (p 7) (bif L 8 then (ptc (last, (k : Int), bud)) else (ptc (0, 0, 0))) 128)) _ [(0, 31), (1, 32), (2, 33), (3, 34), (4, 30), (5, 35), (6, 36), (7, 8), (9, 9)] [0, 1, 2, 3, 4, 5, 6, 7, 8, 9]
        case hn => rfl
        case hB => kernel_rfl
        case hds => kernel_rfl
        case hA => (intro p; simp only [putsD, Act.put, List.setIfInBounds_toArray, List.set_cons_zero, List.set_cons_succ, List.getD_cons_zero, List.getD_cons_succ]; exact rfl)
        case h0 => exact fun p => ⟨Nat.le_refl _, hB, t, r, g, m, x, fun h => absurd h (by decide)⟩
        case hmore => exact fun p L w1 w2 ⟨hsz, hB, t, r, g, m, x, h_y⟩ hm => ⟨Nat.le_trans hsz hm.size, hB.trans (hm.mono (Nat.le_trans hW0 hsz)), t.below hm t.lt, r.below hm r.lt, g.below hm g.lt, m.below hm m.lt, x.below hm x.lt, fun hl => ⟨(h_y hl).1, (h_y hl).2.below hm (h_y hl).2.lt⟩⟩
        case hs =>
          intro more
          refine stepV _ rfl rfl (fun _ _ _ h => h) (by intros; go_simp; exact ⟨rfl, rfl⟩) ?_
          refine stepV 1 rfl rfl (fun _ _ _ h => h) ?_ ?_
          · rintro p L w1 ⟨hsz, hB, t, r, g, m, x, h_y⟩ hk
            have L8 : L 8 = false := hk.2.2 8 rfl
            first | exact valR_row _ _ rfl _ rfl _ _ t _ Try.underlying128 rfl (by first | kernel_rfl | (rw [ptc_size]; kernel_rfl)) rfl | (have hc := t.cellIs (show _[0]? = some _ from rfl); go_simp; exact ⟨rfl, rfl⟩)
          refine stepV _ rfl rfl (fun _ _ _ h => h) (by intros; go_simp; exact ⟨rfl, rfl⟩) ?_
          refine stepD 3 rfl (fun p => rfl) (fun _ _ _ h => h) more ?_ ?_
          · rintro p L w1 ⟨hsz, hB, t, r, g, m, x, h_y⟩ hk
            have L8 : L 8 = false := hk.2.2 8 rfl
            go_simp
            refine (NJ.out _ g (el.save hB)).mono ?_
            rintro e w2 ⟨rfl, h2⟩
            first | exact ⟨rfl, h2⟩ | (subst h2; exact ⟨rfl, Below.refl _ _⟩)
          iterate 3 (refine stepV _ rfl rfl (fun _ _ _ h => h) (by intros; go_simp; exact ⟨rfl, rfl⟩) ?_)
          refine AllI.cons ?_ ?_
          · refine stepI_alloc 7 rfl (fun p => rfl) rfl (ptc (0, 0, 0)) 128 (fun p => rfl) ?_ ?_
            · intro p w1
              go_simp
              first | done | rfl | rw [zero_ptc]
            rintro p L w1 ⟨hsz, hB, t, r, g, m, x, h_y⟩ hk
            have L8 : L 8 = false := hk.2.2 8 rfl
            refine ⟨Nat.le_trans hsz (by simp), hB.alloc (Nat.le_trans (by first | exact hW0 | (have := hB.size; simp at this ⊢; omega)) hsz) _, t.alloc _, r.alloc _, g.alloc _, m.alloc _, x.alloc _, fun _ => ⟨hsz, ?_⟩⟩
            rw [show upL L 7 8 = false from L8]
            exact blk.new _ _ _
          refine AllI.cons ?_ ?_
          · refine stepI_store 8 rfl (fun p => rfl) (fun p => rfl) _ _ _ rfl (fun p => p 7) 0 (fun p => rfl) (fun p => (ptc (last, (k : Int), bud))) (fun p => rfl) (fun p => (ptc (0, 0, 0))) (fun p => (ptc (last, (k : Int), bud))) 128 (fun p => over_ptc _ _) (fun p => by first | (rw [ptc_size, ptc_size]; decide) | simp [ptc_size, ptc_size]) (fun p => by rw [ptc_size]; kernel_rfl) (fun p => ptc_one _) ?_ ?_
            · rintro p L w1 ⟨hsz, hB, t, r, g, m, x, h_y⟩ hk
              have L8 : L 8 = false := hk.1
              have hh := (h_y (hk.2.1 7 rfl)).2
              rw [L8] at hh
              try simp only [cond_true, cond_false] at hh
              exact hh
            · rintro p L w1 ⟨hsz, hB, t, r, g, m, x, h_y⟩ hk
              have L8 : L 8 = false := hk.1
              skip
              have hp := h_y (hk.2.1 7 rfl)
              refine ⟨(by simpa using hsz), hB.row (by first | exact .inr (Nat.le_trans hW0 hp.1) | exact .inr ge_y | exact .inl ⟨Nat.le_refl _, Nat.le_refl _⟩ | omega | (have := hB.size; simp at this ⊢; omega)) _, t.rowOther (by first | exact Nat.ne_of_lt (Nat.lt_of_lt_of_le lt_t hp.1) | omega) _, r.rowOther (by first | exact Nat.ne_of_lt (Nat.lt_of_lt_of_le lt_r hp.1) | omega) _, g.rowOther (by first | exact Nat.ne_of_lt (Nat.lt_of_lt_of_le lt_g hp.1) | omega) _, m.rowOther (.inr (Nat.lt_of_lt_of_le lt_m hp.1)) _, x.rowOther (by first | exact Nat.ne_of_lt (Nat.lt_of_lt_of_le lt_x hp.1) | omega) _, fun _ => ⟨hp.1, ?_⟩⟩
              rw [show upL L 8 8 = true from rfl]
              exact hp.2.row _
          refine stepV _ rfl rfl (fun _ _ _ h => h) (by intros; go_simp; exact ⟨rfl, rfl⟩) ?_
          exact AllI.nil
        case hV0 =>
          intro p q
          refine AllI.cons ?_ ?_
          · skip
            iterate 10 (refine AllI.cons (by first | exact .inl rfl | (refine .inr ?_; simp only [List.getD_cons_zero, List.getD_cons_succ]; done) | exact .inr rfl) ?_)
            exact AllI.nil
          exact AllI.nil
        case he =>
        clear hB t r g m x
        rintro p wrr ⟨hsz, hB, t, r, g, m, x, h_y⟩
        obtain ⟨le_y, y⟩ := h_y rfl
        clear h_y
        replace y : blk wrr (p 7) (ptc (last, (k : Int), bud)) 128 := y
        have ne_t_y : w.heap.size ≠ p 7 := Nat.ne_of_lt (Nat.lt_of_lt_of_le lt_t le_y)
        have ne_r_y : (w.heap.size + 1) ≠ p 7 := Nat.ne_of_lt (Nat.lt_of_lt_of_le lt_r le_y)
        have ne_g_y : pb ≠ p 7 := Nat.ne_of_lt (Nat.lt_of_lt_of_le lt_g le_y)
        have ne_m_y : mb ≠ p 7 := Nat.ne_of_lt (Nat.lt_of_lt_of_le lt_m le_y)
        have ne_x_y : x_b ≠ p 7 := Nat.ne_of_lt (Nat.lt_of_lt_of_le lt_x le_y)
        have ge_y : w.heap.size ≤ p 7 := Nat.le_trans hW0 le_y
        have out_y : mb < p 7 := Nat.lt_of_lt_of_le lt_m le_y
        generalize p 7 = y_b at *
        clear lt_t
        clear lt_r
        clear lt_g
        clear lt_m
        clear lt_x
        clear hsz hW0
        clear NJ
        clear AJ
        go_wp2_with (fail)
        go_roundg (n - (j + 1))
        case rel =>
          refine ⟨j + 1, by omega, rfl, t, r, g, ?_, ?_, hB⟩
          · rw [hNs.out]; exact m.mono (by omega)
          · rw [hsx.out]; exact x
        case measure => omega
      case true =>
        simp only [if_true] at NJ
        go_upto_region 7 with (fail)
        have lt_t := t.lt
        have lt_r := r.lt
        have lt_g := g.lt
        have lt_m := m.lt
        have lt_x := x.lt
        have hW0 : w.heap.size ≤ wr.heap.size := by have := hB.size; first | exact this | simpa using this
        apply wp_region_Q 10 [0, 1, 3, 7, 15, 31, 63, 127, 255, 511] [7] [_, _, _, _, _, _, _, (fun p => .pointer (some ⟨p 7, 0, none⟩)), (fun _ => undef), _] (fun p L w' => wr.heap.size ≤ w'.heap.size ∧ Save mb mb w w' ∧ blk w' w.heap.size (ptc (last, (k : Int), bud)) 128 ∧ blk w' (w.heap.size + 1) (gnc (0, 0)) 130 ∧ blk w' pb (plc (.slice a n c, gap, mb)) 126 ∧ mpo Rr mb mb w' (N + j * c1) ∧ blk w' x_b (gnc Bj) 130 ∧ (L 7 = true → wr.heap.size ≤ p 7 ∧ blk w' (p 7) (bif L 8 then (ptc ((j : Int), (k : Int) - 1, bud - Lw j 4)) else (ptc (0, 0, 0))) 128)) _ [(0, 31), (1, 32), (2, 33), (3, 34), (4, 30), (5, 35), (6, 36), (7, 8), (9, 9)] [0, 1, 2, 3, 4, 5, 6, 7, 8, 9]
        case hn => rfl
        case hB => kernel_rfl
        case hds => kernel_rfl
        case hA => (intro p; simp only [putsD, Act.put, List.setIfInBounds_toArray, List.set_cons_zero, List.set_cons_succ, List.getD_cons_zero, List.getD_cons_succ]; exact rfl)
        case h0 => exact fun p => ⟨Nat.le_refl _, hB, t, r, g, m, x, fun h => absurd h (by decide)⟩
        case hmore => exact fun p L w1 w2 ⟨hsz, hB, t, r, g, m, x, h_y⟩ hm => ⟨Nat.le_trans hsz hm.size, hB.trans (hm.mono (Nat.le_trans hW0 hsz)), t.below hm t.lt, r.below hm r.lt, g.below hm g.lt, m.below hm m.lt, x.below hm x.lt, fun hl => ⟨(h_y hl).1, (h_y hl).2.below hm (h_y hl).2.lt⟩⟩
        case hs =>
          intro more
          refine stepV _ rfl rfl (fun _ _ _ h => h) (by intros; go_simp; exact ⟨rfl, rfl⟩) ?_
          refine stepV 1 rfl rfl (fun _ _ _ h => h) ?_ ?_
          · rintro p L w1 ⟨hsz, hB, t, r, g, m, x, h_y⟩ hk
            have L8 : L 8 = false := hk.2.2 8 rfl
            first | exact valR_row _ _ rfl _ rfl _ _ t _ Try.underlying128 rfl (by first | kernel_rfl | (rw [ptc_size]; kernel_rfl)) rfl | (have hc := t.cellIs (show _[0]? = some _ from rfl); go_simp; exact ⟨rfl, rfl⟩)
          refine stepV _ rfl rfl (fun _ _ _ h => h) (by intros; go_simp; exact ⟨rfl, rfl⟩) ?_
          refine stepD 3 rfl (fun p => rfl) (fun _ _ _ h => h) more ?_ ?_
          · rintro p L w1 ⟨hsz, hB, t, r, g, m, x, h_y⟩ hk
            have L8 : L 8 = false := hk.2.2 8 rfl
            go_simp
            refine (NJ.out _ g (el.save hB)).mono ?_
            rintro e w2 ⟨rfl, h2⟩
            first | exact ⟨rfl, h2⟩ | (subst h2; exact ⟨rfl, Below.refl _ _⟩)
          iterate 3 (refine stepV _ rfl rfl (fun _ _ _ h => h) (by intros; go_simp; exact ⟨rfl, rfl⟩) ?_)
          refine AllI.cons ?_ ?_
          · refine stepI_alloc 7 rfl (fun p => rfl) rfl (ptc (0, 0, 0)) 128 (fun p => rfl) ?_ ?_
            · intro p w1
              go_simp
              first | done | rfl | rw [zero_ptc]
            rintro p L w1 ⟨hsz, hB, t, r, g, m, x, h_y⟩ hk
            have L8 : L 8 = false := hk.2.2 8 rfl
            refine ⟨Nat.le_trans hsz (by simp), hB.alloc (Nat.le_trans (by first | exact hW0 | (have := hB.size; simp at this ⊢; omega)) hsz) _, t.alloc _, r.alloc _, g.alloc _, m.alloc _, x.alloc _, fun _ => ⟨hsz, ?_⟩⟩
            rw [show upL L 7 8 = false from L8]
            exact blk.new _ _ _
          refine AllI.cons ?_ ?_
          · refine stepI_store 8 rfl (fun p => rfl) (fun p => rfl) _ _ _ rfl (fun p => p 7) 0 (fun p => rfl) (fun p => (ptc ((j : Int), (k : Int) - 1, bud - Lw j 4))) (fun p => rfl) (fun p => (ptc (0, 0, 0))) (fun p => (ptc ((j : Int), (k : Int) - 1, bud - Lw j 4))) 128 (fun p => over_ptc _ _) (fun p => by first | (rw [ptc_size, ptc_size]; decide) | simp [ptc_size, ptc_size]) (fun p => by rw [ptc_size]; kernel_rfl) (fun p => ptc_one _) ?_ ?_
            · rintro p L w1 ⟨hsz, hB, t, r, g, m, x, h_y⟩ hk
              have L8 : L 8 = false := hk.1
              have hh := (h_y (hk.2.1 7 rfl)).2
              rw [L8] at hh
              try simp only [cond_true, cond_false] at hh
              exact hh
            · rintro p L w1 ⟨hsz, hB, t, r, g, m, x, h_y⟩ hk
              have L8 : L 8 = false := hk.1
              skip
              have hp := h_y (hk.2.1 7 rfl)
              refine ⟨(by simpa using hsz), hB.row (by first | exact .inr (Nat.le_trans hW0 hp.1) | exact .inr ge_y | exact .inl ⟨Nat.le_refl _, Nat.le_refl _⟩ | omega | (have := hB.size; simp at this ⊢; omega)) _, t.rowOther (by first | exact Nat.ne_of_lt (Nat.lt_of_lt_of_le lt_t hp.1) | omega) _, r.rowOther (by first | exact Nat.ne_of_lt (Nat.lt_of_lt_of_le lt_r hp.1) | omega) _, g.rowOther (by first | exact Nat.ne_of_lt (Nat.lt_of_lt_of_le lt_g hp.1) | omega) _, m.rowOther (.inr (Nat.lt_of_lt_of_le lt_m hp.1)) _, x.rowOther (by first | exact Nat.ne_of_lt (Nat.lt_of_lt_of_le lt_x hp.1) | omega) _, fun _ => ⟨hp.1, ?_⟩⟩
              rw [show upL L 8 8 = true from rfl]
              exact hp.2.row _
          refine stepV _ rfl rfl (fun _ _ _ h => h) (by intros; go_simp; exact ⟨rfl, rfl⟩) ?_
          exact AllI.nil
        case hV0 =>
          intro p q
          refine AllI.cons ?_ ?_
          · skip
            iterate 10 (refine AllI.cons (by first | exact .inl rfl | (refine .inr ?_; simp only [List.getD_cons_zero, List.getD_cons_succ]; done) | exact .inr rfl) ?_)
            exact AllI.nil
          exact AllI.nil
        case he =>
        clear hB t r g m x
        rintro p wrr ⟨hsz, hB, t, r, g, m, x, h_y⟩
        obtain ⟨le_y, y⟩ := h_y rfl
        clear h_y
        replace y : blk wrr (p 7) (ptc ((j : Int), (k : Int) - 1, bud - Lw j 4)) 128 := y
        have ne_t_y : w.heap.size ≠ p 7 := Nat.ne_of_lt (Nat.lt_of_lt_of_le lt_t le_y)
        have ne_r_y : (w.heap.size + 1) ≠ p 7 := Nat.ne_of_lt (Nat.lt_of_lt_of_le lt_r le_y)
        have ne_g_y : pb ≠ p 7 := Nat.ne_of_lt (Nat.lt_of_lt_of_le lt_g le_y)
        have ne_m_y : mb ≠ p 7 := Nat.ne_of_lt (Nat.lt_of_lt_of_le lt_m le_y)
        have ne_x_y : x_b ≠ p 7 := Nat.ne_of_lt (Nat.lt_of_lt_of_le lt_x le_y)
        have ge_y : w.heap.size ≤ p 7 := Nat.le_trans hW0 le_y
        have out_y : mb < p 7 := Nat.lt_of_lt_of_le lt_m le_y
        generalize p 7 = y_b at *
        clear lt_t
        clear lt_r
        clear lt_g
        clear lt_m
        clear lt_x
        clear hsz hW0
        clear NJ
        go_upto_region 9 with (fail)
        have lt_t := t.lt
        have lt_r := r.lt
        have lt_g := g.lt
        have lt_m := m.lt
        have lt_x := x.lt
        have lt_y := y.lt
        have hW0 : w.heap.size ≤ wrr.heap.size := by have := hB.size; first | exact this | simpa using this
        apply wp_region_Q 5 [0, 1, 3, 7, 15] [3] [_, _, _, (fun p => .pointer (some ⟨p 3, 0, none⟩)), (fun _ => undef)] (fun p L w' => wrr.heap.size ≤ w'.heap.size ∧ Save mb mb w w' ∧ blk w' w.heap.size (ptc (last, (k : Int), bud)) 128 ∧ blk w' (w.heap.size + 1) (gnc (0, 0)) 130 ∧ blk w' pb (plc (.slice a n c, gap, mb)) 126 ∧ mpo Rr mb mb w' (bif L 2 then (N + j * c1 + c1) else (N + j * c1)) ∧ blk w' x_b (gnc Bj) 130 ∧ blk w' y_b (ptc ((j : Int), (k : Int) - 1, bud - Lw j 4)) 128 ∧ (L 3 = true → wrr.heap.size ≤ p 3 ∧ blk w' (p 3) (bif L 4 then (gnc Aj) else (gnc (0, 0))) 130)) _ [(0, 38), (1, 39), (2, 40), (3, 10)] [0, 1, 2, 3, 4]
        case hn => rfl
        case hB => kernel_rfl
        case hds => kernel_rfl
        case hA => (intro p; simp only [putsD, Act.put, List.setIfInBounds_toArray, List.set_cons_zero, List.set_cons_succ, List.getD_cons_zero, List.getD_cons_succ]; exact rfl)
        case h0 => exact fun p => ⟨Nat.le_refl _, hB, t, r, g, m, x, y, fun h => absurd h (by decide)⟩
        case hmore => exact fun p L w1 w2 ⟨hsz, hB, t, r, g, m, x, y, h_z⟩ hm => ⟨Nat.le_trans hsz hm.size, hB.trans (hm.mono (Nat.le_trans hW0 hsz)), t.below hm t.lt, r.below hm r.lt, g.below hm g.lt, m.below hm m.lt, x.below hm x.lt, y.below hm y.lt, fun hl => ⟨(h_z hl).1, (h_z hl).2.below hm (h_z hl).2.lt⟩⟩
        case hs =>
          intro more
          refine stepV _ rfl rfl (fun _ _ _ h => h) (by intros; go_simp; exact ⟨rfl, rfl⟩) ?_
          refine stepV 1 rfl rfl (fun _ _ _ h => h) ?_ ?_
          · rintro p L w1 ⟨hsz, hB, t, r, g, m, x, y, h_z⟩ hk
            have L2 : L 2 = false := hk.2.2 2 rfl
            have L4 : L 4 = false := hk.2.2 4 rfl
            first | exact valR_row _ _ rfl _ rfl _ _ y _ Try.underlying128 rfl (by first | kernel_rfl | (rw [ptc_size]; kernel_rfl)) rfl | (have hc := y.cellIs (show _[0]? = some _ from rfl); go_simp; exact ⟨rfl, rfl⟩)
          refine AllI.cons ?_ ?_
          · refine stepI_rel 2 rfl (fun p => rfl) (fun p w1 w2 => mpo Rr mb mb w2 (N + j * c1 + c1) ∧ Save mb mb w1 w2) ?_ ?_
            · rintro p L w1 ⟨hsz, hB, t, r, g, m, x, y, h_z⟩ hk
              have L2 : L 2 = false := hk.1
              have L4 : L 4 = false := hk.2.2 4 rfl
              rw [L2] at m
              try simp only [cond_true, cond_false] at m
              go_simp
              refine (AJ.out rfl _ _ g (el.save hB) m hNj.out).mono ?_
              rintro e w2 ⟨rfl, h2, h3⟩
              exact ⟨rfl, h2, h3⟩
            · rintro p L w1 w2 ⟨hsz, hB, t, r, g, m, x, y, h_z⟩ hk ⟨h2, h3⟩
              have L2 : L 2 = false := hk.1
              have L4 : L 4 = false := hk.2.2 4 rfl
              refine ⟨Nat.le_trans hsz h3.size, hB.next (h3.wide (Nat.le_refl _) (by omega)), t.save h3 (by first | exact .inr out_t | exact .inl out_t | omega), r.save h3 (by first | exact .inr out_r | exact .inl out_r | omega), g.save h3 (by first | exact .inr out_g | exact .inl out_g | omega), ?_, x.save h3 (by first | exact .inr out_x | exact .inl out_x | omega), y.save h3 (by first | exact .inr out_y | exact .inl out_y | omega), fun hl => ⟨(h_z hl).1, (h_z hl).2.save h3 (.inr (Nat.lt_of_lt_of_le lt_m (h_z hl).1))⟩⟩
              rw [show upL L 2 2 = true from rfl]
              exact h2
          refine AllI.cons ?_ ?_
          · refine stepI_alloc 3 rfl (fun p => rfl) rfl (gnc (0, 0)) 130 (fun p => rfl) ?_ ?_
            · intro p w1
              go_simp
              first | done | rfl | rw [zero_gnc]
            rintro p L w1 ⟨hsz, hB, t, r, g, m, x, y, h_z⟩ hk
            have L2 : L 2 = true := hk.2.1 2 rfl
            have L4 : L 4 = false := hk.2.2 4 rfl
            refine ⟨Nat.le_trans hsz (by simp), hB.alloc (Nat.le_trans (by first | exact hW0 | (have := hB.size; simp at this ⊢; omega)) hsz) _, t.alloc _, r.alloc _, g.alloc _, m.alloc _, x.alloc _, y.alloc _, fun _ => ⟨hsz, ?_⟩⟩
            rw [show upL L 3 4 = false from L4]
            exact blk.new _ _ _
          refine AllI.cons ?_ ?_
          · refine stepI_store 4 rfl (fun p => rfl) (fun p => rfl) _ _ _ rfl (fun p => p 3) 0 (fun p => rfl) (fun p => (gnc Aj)) (fun p => rfl) (fun p => (gnc (0, 0))) (fun p => (gnc Aj)) 130 (fun p => over_gnc _ _) (fun p => by first | (rw [gnc_size, gnc_size]; decide) | simp [gnc_size, gnc_size]) (fun p => by rw [gnc_size]; kernel_rfl) (fun p => gnc_one _) ?_ ?_
            · rintro p L w1 ⟨hsz, hB, t, r, g, m, x, y, h_z⟩ hk
              have L2 : L 2 = true := hk.2.1 2 rfl
              have L4 : L 4 = false := hk.1
              have hh := (h_z (hk.2.1 3 rfl)).2
              rw [L4] at hh
              try simp only [cond_true, cond_false] at hh
              exact hh
            · rintro p L w1 ⟨hsz, hB, t, r, g, m, x, y, h_z⟩ hk
              have L2 : L 2 = true := hk.2.1 2 rfl
              have L4 : L 4 = false := hk.1
              skip
              have hp := h_z (hk.2.1 3 rfl)
              refine ⟨(by simpa using hsz), hB.row (by first | exact .inr (Nat.le_trans hW0 hp.1) | exact .inr ge_z | exact .inl ⟨Nat.le_refl _, Nat.le_refl _⟩ | omega | (have := hB.size; simp at this ⊢; omega)) _, t.rowOther (by first | exact Nat.ne_of_lt (Nat.lt_of_lt_of_le lt_t hp.1) | omega) _, r.rowOther (by first | exact Nat.ne_of_lt (Nat.lt_of_lt_of_le lt_r hp.1) | omega) _, g.rowOther (by first | exact Nat.ne_of_lt (Nat.lt_of_lt_of_le lt_g hp.1) | omega) _, m.rowOther (.inr (Nat.lt_of_lt_of_le lt_m hp.1)) _, x.rowOther (by first | exact Nat.ne_of_lt (Nat.lt_of_lt_of_le lt_x hp.1) | omega) _, y.rowOther (by first | exact Nat.ne_of_lt (Nat.lt_of_lt_of_le lt_y hp.1) | omega) _, fun _ => ⟨hp.1, ?_⟩⟩
              rw [show upL L 4 4 = true from rfl]
              exact hp.2.row _
          exact AllI.nil
        case hV0 =>
          intro p q
          refine AllI.cons ?_ ?_
          · skip
            iterate 5 (refine AllI.cons (by first | exact .inl rfl | (refine .inr ?_; simp only [List.getD_cons_zero, List.getD_cons_succ]; done) | exact .inr rfl) ?_)
            exact AllI.nil
          exact AllI.nil
        case he =>
        clear hB t r g m x y
        rintro p wrrr ⟨hsz, hB, t, r, g, m, x, y, h_z⟩
        obtain ⟨le_z, z⟩ := h_z rfl
        clear h_z
        replace m : mpo Rr mb mb wrrr (N + j * c1 + c1) := m
        replace z : blk wrrr (p 3) (gnc Aj) 130 := z
        have ne_t_z : w.heap.size ≠ p 3 := Nat.ne_of_lt (Nat.lt_of_lt_of_le lt_t le_z)
        have ne_r_z : (w.heap.size + 1) ≠ p 3 := Nat.ne_of_lt (Nat.lt_of_lt_of_le lt_r le_z)
        have ne_g_z : pb ≠ p 3 := Nat.ne_of_lt (Nat.lt_of_lt_of_le lt_g le_z)
        have ne_m_z : mb ≠ p 3 := Nat.ne_of_lt (Nat.lt_of_lt_of_le lt_m le_z)
        have ne_x_z : x_b ≠ p 3 := Nat.ne_of_lt (Nat.lt_of_lt_of_le lt_x le_z)
        have ne_y_z : y_b ≠ p 3 := Nat.ne_of_lt (Nat.lt_of_lt_of_le lt_y le_z)
        have ge_z : w.heap.size ≤ p 3 := Nat.le_trans hW0 le_z
        have out_z : mb < p 3 := Nat.lt_of_lt_of_le lt_m le_z
        generalize p 3 = z_b at *
        clear lt_t
        clear lt_r
        clear lt_g
        clear lt_m
        clear lt_x
        clear lt_y
        clear hsz hW0
        clear AJ
        have z0 : wrrr.cell? ⟨z_b, 0, none⟩ = some (.int .i64 Aj.1) := z.cellIs rfl
        have z1 : wrrr.cell? ⟨z_b, 1, none⟩ = some (.int .i64 Aj.2) := z.cellIs rfl
        have x0 : wrrr.cell? ⟨x_b, 0, none⟩ = some (.int .i64 Bj.1) := x.cellIs rfl
        have x1 : wrrr.cell? ⟨x_b, 1, none⟩ = some (.int .i64 Bj.2) := x.cellIs rfl
        by_cases h1 : Bj.1 < Aj.1
        · have d1 : decide (Bj.1 < Aj.1) = true := decide_eq_true h1
          have hbt : Hid (betB Aj Bj = true) := by unfold betB; rw [d1]; rfl
          clear h1
          go_upto_region 11 with (fail)
          clear z0 z1 x0 x1
          have lt_t := t.lt
          have lt_r := r.lt
          have lt_g := g.lt
          have lt_m := m.lt
          have lt_x := x.lt
          have lt_y := y.lt
          have lt_z := z.lt
          have hW0 : w.heap.size ≤ wrrr.heap.size := by have := hB.size; first | exact this | simpa using this
          apply wp_region_Q 2 [0, 1] [] [_, (fun _ => undef)] (fun p L w' => wrrr.heap.size ≤ w'.heap.size ∧ Save mb mb w w' ∧ blk w' w.heap.size (ptc (last, (k : Int), bud)) 128 ∧ blk w' (w.heap.size + 1) (gnc (0, 0)) 130 ∧ blk w' pb (plc (.slice a n c, gap, mb)) 126 ∧ mpo Rr mb mb w' (N + j * c1 + c1) ∧ blk w' x_b (bif L 1 then (gnc Aj) else (gnc Bj)) 130 ∧ blk w' y_b (ptc ((j : Int), (k : Int) - 1, bud - Lw j 4)) 128 ∧ blk w' z_b (gnc Aj) 130) _ [(0, 60)] [0, 1]
          case hn => rfl
          case hB => kernel_rfl
          case hds => kernel_rfl
          case hA => (intro p; simp only [putsD, Act.put, List.setIfInBounds_toArray, List.set_cons_zero, List.set_cons_succ, List.getD_cons_zero, List.getD_cons_succ]; exact rfl)
          case h0 => exact fun p => ⟨Nat.le_refl _, hB, t, r, g, m, x, y, z⟩
          case hmore => exact fun p L w1 w2 ⟨hsz, hB, t, r, g, m, x, y, z⟩ hm => ⟨Nat.le_trans hsz hm.size, hB.trans (hm.mono (Nat.le_trans hW0 hsz)), t.below hm t.lt, r.below hm r.lt, g.below hm g.lt, m.below hm m.lt, x.below hm x.lt, y.below hm y.lt, z.below hm z.lt⟩
          case hs =>
            intro more
            refine stepV 0 rfl rfl (fun _ _ _ h => h) ?_ ?_
            · rintro p L w1 ⟨hsz, hB, t, r, g, m, x, y, z⟩ hk
              have L1 : L 1 = false := hk.2.2 1 rfl
              first | exact valR_row _ _ rfl _ rfl _ _ z _ Try.underlying130 rfl (by first | kernel_rfl | (rw [gnc_size]; kernel_rfl)) rfl | (have hc := z.cellIs (show _[0]? = some _ from rfl); go_simp; exact ⟨rfl, rfl⟩)
            refine AllI.cons ?_ ?_
            · refine stepI_store 1 rfl (fun p => rfl) (fun p => rfl) _ _ _ rfl (fun _ => x_b) 0 (fun p => rfl) (fun p => (gnc Aj)) (fun p => rfl) (fun p => (gnc Bj)) (fun p => (gnc Aj)) 130 (fun p => over_gnc _ _) (fun p => by first | (rw [gnc_size, gnc_size]; decide) | simp [gnc_size, gnc_size]) (fun p => by rw [gnc_size]; kernel_rfl) (fun p => gnc_one _) ?_ ?_
              · rintro p L w1 ⟨hsz, hB, t, r, g, m, x, y, z⟩ hk
                have L1 : L 1 = false := hk.1
                rw [L1] at x
                try simp only [cond_true, cond_false] at x
                exact x
              · rintro p L w1 ⟨hsz, hB, t, r, g, m, x, y, z⟩ hk
                have L1 : L 1 = false := hk.1
                skip
                refine ⟨(by simpa using hsz), hB.row (by first | exact .inr (Nat.le_trans hW0 hp.1) | exact .inr ge_x | exact .inl ⟨Nat.le_refl _, Nat.le_refl _⟩ | omega | (have := hB.size; simp at this ⊢; omega)) _, t.rowOther (by first | exact ne_t_x | exact Ne.symm ne_x_t | omega) _, r.rowOther (by first | exact ne_r_x | exact Ne.symm ne_x_r | omega) _, g.rowOther (by first | exact ne_g_x | exact Ne.symm ne_x_g | omega) _, m.rowOther (by first | exact .inr out_x | exact .inl out_x | omega) _, ?_, y.rowOther (by first | exact ne_y_x | exact Ne.symm ne_x_y | omega) _, z.rowOther (by first | exact ne_z_x | exact Ne.symm ne_x_z | omega) _⟩
                rw [show upL L 1 1 = true from rfl]
                exact x.row _
            exact AllI.nil
          case hV0 => exact fun p q => AllI.nil
          case he =>
          clear hB t r g m x y z
          rintro p wrrrr ⟨hsz, hB, t, r, g, m, x, y, z⟩
          replace x : blk wrrrr x_b (gnc Aj) 130 := x
          clear lt_t
          clear lt_r
          clear lt_g
          clear lt_m
          clear lt_x
          clear lt_y
          clear lt_z
          clear hsz hW0
          go_wp2_with (fail)
          go_roundg (n - (j + 1))
          case rel =>
            refine ⟨j + 1, by omega, rfl, t, r, g, ?_, ?_, hB⟩
            · rw [hNs.out]; exact m
            · rw [hsx.out, hbt.out]; exact x
          case measure => omega
        · by_cases h2 : Aj.1 = Bj.1
          · by_cases h3 : Aj.2 < Bj.2
            · have d1 : decide (Bj.1 < Aj.1) = false := decide_eq_false h1
              have d2 : decide (Aj.1 = Bj.1) = true := decide_eq_true h2
              have d2' : (Aj.1 == Bj.1) = true := beq_iff_eq.2 h2
              have d3 : decide (Aj.2 < Bj.2) = true := decide_eq_true h3
              have hbt : Hid (betB Aj Bj = true) := by unfold betB; rw [d1, d2, d3]; rfl
              clear h1 h2 h3
              go_upto_region 11 with (fail)
              clear z0 z1 x0 x1
              have lt_t := t.lt
              have lt_r := r.lt
              have lt_g := g.lt
              have lt_m := m.lt
              have lt_x := x.lt
              have lt_y := y.lt
              have lt_z := z.lt
              have hW0 : w.heap.size ≤ wrrr.heap.size := by have := hB.size; first | exact this | simpa using this
              apply wp_region_Q 2 [0, 1] [] [_, (fun _ => undef)] (fun p L w' => wrrr.heap.size ≤ w'.heap.size ∧ Save mb mb w w' ∧ blk w' w.heap.size (ptc (last, (k : Int), bud)) 128 ∧ blk w' (w.heap.size + 1) (gnc (0, 0)) 130 ∧ blk w' pb (plc (.slice a n c, gap, mb)) 126 ∧ mpo Rr mb mb w' (N + j * c1 + c1) ∧ blk w' x_b (bif L 1 then (gnc Aj) else (gnc Bj)) 130 ∧ blk w' y_b (ptc ((j : Int), (k : Int) - 1, bud - Lw j 4)) 128 ∧ blk w' z_b (gnc Aj) 130) _ [(0, 60)] [0, 1]
              case hn => rfl
              case hB => kernel_rfl
              case hds => kernel_rfl
              case hA => (intro p; simp only [putsD, Act.put, List.setIfInBounds_toArray, List.set_cons_zero, List.set_cons_succ, List.getD_cons_zero, List.getD_cons_succ]; exact rfl)
              case h0 => exact fun p => ⟨Nat.le_refl _, hB, t, r, g, m, x, y, z⟩
              case hmore => exact fun p L w1 w2 ⟨hsz, hB, t, r, g, m, x, y, z⟩ hm => ⟨Nat.le_trans hsz hm.size, hB.trans (hm.mono (Nat.le_trans hW0 hsz)), t.below hm t.lt, r.below hm r.lt, g.below hm g.lt, m.below hm m.lt, x.below hm x.lt, y.below hm y.lt, z.below hm z.lt⟩
              case hs =>
                intro more
                refine stepV 0 rfl rfl (fun _ _ _ h => h) ?_ ?_
                · rintro p L w1 ⟨hsz, hB, t, r, g, m, x, y, z⟩ hk
                  have L1 : L 1 = false := hk.2.2 1 rfl
                  first | exact valR_row _ _ rfl _ rfl _ _ z _ Try.underlying130 rfl (by first | kernel_rfl | (rw [gnc_size]; kernel_rfl)) rfl | (have hc := z.cellIs (show _[0]? = some _ from rfl); go_simp; exact ⟨rfl, rfl⟩)
                refine AllI.cons ?_ ?_
                · refine stepI_store 1 rfl (fun p => rfl) (fun p => rfl) _ _ _ rfl (fun _ => x_b) 0 (fun p => rfl) (fun p => (gnc Aj)) (fun p => rfl) (fun p => (gnc Bj)) (fun p => (gnc Aj)) 130 (fun p => over_gnc _ _) (fun p => by first | (rw [gnc_size, gnc_size]; decide) | simp [gnc_size, gnc_size]) (fun p => by rw [gnc_size]; kernel_rfl) (fun p => gnc_one _) ?_ ?_
                  · rintro p L w1 ⟨hsz, hB, t, r, g, m, x, y, z⟩ hk
                    have L1 : L 1 = false := hk.1
                    rw [L1] at x
                    try simp only [cond_true, cond_false] at x
                    exact x
                  · rintro p L w1 ⟨hsz, hB, t, r, g, m, x, y, z⟩ hk
                    have L1 : L 1 = false := hk.1
                    skip
                    refine ⟨(by simpa using hsz), hB.row (by first | exact .inr (Nat.le_trans hW0 hp.1) | exact .inr ge_x | exact .inl ⟨Nat.le_refl _, Nat.le_refl _⟩ | omega | (have := hB.size; simp at this ⊢; omega)) _, t.rowOther (by first | exact ne_t_x | exact Ne.symm ne_x_t | omega) _, r.rowOther (by first | exact ne_r_x | exact Ne.symm ne_x_r | omega) _, g.rowOther (by first | exact ne_g_x | exact Ne.symm ne_x_g | omega) _, m.rowOther (by first | exact .inr out_x | exact .inl out_x | omega) _, ?_, y.rowOther (by first | exact ne_y_x | exact Ne.symm ne_x_y | omega) _, z.rowOther (by first | exact ne_z_x | exact Ne.symm ne_x_z | omega) _⟩
                    rw [show upL L 1 1 = true from rfl]
                    exact x.row _
                exact AllI.nil
              case hV0 => exact fun p q => AllI.nil
              case he =>
              clear hB t r g m x y z
              rintro p wrrrr ⟨hsz, hB, t, r, g, m, x, y, z⟩
              replace x : blk wrrrr x_b (gnc Aj) 130 := x
              clear lt_t
              clear lt_r
              clear lt_g
              clear lt_m
              clear lt_x
              clear lt_y
              clear lt_z
              clear hsz hW0
              go_wp2_with (fail)
              go_roundg (n - (j + 1))
              case rel =>
                refine ⟨j + 1, by omega, rfl, t, r, g, ?_, ?_, hB⟩
                · rw [hNs.out]; exact m
                · rw [hsx.out, hbt.out]; exact x
              case measure => omega
            · have d1 : decide (Bj.1 < Aj.1) = false := decide_eq_false h1
              have d2 : decide (Aj.1 = Bj.1) = true := decide_eq_true h2
              have d2' : (Aj.1 == Bj.1) = true := beq_iff_eq.2 h2
              have d3 : decide (Aj.2 < Bj.2) = false := decide_eq_false h3
              have hbt : Hid (betB Aj Bj = false) := by unfold betB; rw [d1, d2, d3]; rfl
              clear h1 h2 h3
              go_wp2_with (fail)
              go_roundg (n - (j + 1))
              case rel =>
                refine ⟨j + 1, by omega, rfl, t, r, g, ?_, ?_, hB⟩
                · rw [hNs.out]; exact m
                · rw [hsx.out, hbt.out]; exact x
              case measure => omega
          · have d1 : decide (Bj.1 < Aj.1) = false := decide_eq_false h1
            have d2 : decide (Aj.1 = Bj.1) = false := decide_eq_false h2
            have d2' : (Aj.1 == Bj.1) = false := beq_eq_false_iff_ne.2 h2
            have hbt : Hid (betB Aj Bj = false) := by unfold betB; rw [d1, d2]; rfl
            clear h1 h2
            go_wp2_with (fail)
            go_roundg (n - (j + 1))
            case rel =>
              refine ⟨j + 1, by omega, rfl, t, r, g, ?_, ?_, hB⟩
              · rw [hNs.out]; exact m
              · rw [hsx.out, hbt.out]; exact x
            case measure => omega
    · obtain rfl : n = j := by omega
      rw [hR] at x
      clear hjn hj AF NX hR
      have hdj : decide ((n : Int) < n) = false := decide_eq_false (by omega)
      go_upto_region 13 with (fail)
      refine wp_region_X 6 (by kernel_rfl) (by kernel_rfl) ?_
      replace t := t.drew
      replace r := r.drew
      replace g := g.drew
      replace m := m.drew
      replace x := x.drew
      replace hB := hB.drew
      generalize wr.drew = wrd at *
      apply wpX_take 0; (case ho' => exact rfl); (case hg => exact rfl); (case hB => kernel_rfl); (case h => (intro w1 h1; go_simp; exact ⟨rfl, Below.refl _ _⟩))
      simp only [Act.put, List.setIfInBounds_toArray, List.set_cons_zero, List.set_cons_succ]
      apply wpX_take 1; (case ho' => exact rfl); (case hg => exact rfl); (case hB => kernel_rfl); (case h => (intro w1 h1; go_simp; exact ⟨rfl, Below.refl _ _⟩))
      simp only [Act.put, List.setIfInBounds_toArray, List.set_cons_zero, List.set_cons_succ]
      apply wpX_take 2; (case ho' => exact rfl); (case hg => exact rfl); (case hB => kernel_rfl); (case h => (intro w1 h1; go_simp; exact ⟨rfl, Below.refl _ _⟩))
      simp only [Act.put, List.setIfInBounds_toArray, List.set_cons_zero, List.set_cons_succ]
      apply wpX_take 3; (case ho' => exact rfl); (case hg => exact rfl); (case hB => kernel_rfl); (case h => (intro w1 h1; have hc : w1.cell? ⟨pb, 2, none⟩ = some (.map (some mb)) := (g.below h1 g.lt).cellIs rfl; go_simp; exact ⟨rfl, Below.refl _ _⟩))
      simp only [Act.put, List.setIfInBounds_toArray, List.set_cons_zero, List.set_cons_succ]
      apply wpX_take 4; (case ho' => exact rfl); (case hg => exact rfl); (case hB => kernel_rfl); (case h => (intro w1 h1; exact detR_row _ _ rfl _ rfl _ _ _ (t.below h1 t.lt) Try.underlying128 rfl (by first | kernel_rfl | (rw [ptc_size]; kernel_rfl)) rfl))
      simp only [Act.put, List.setIfInBounds_toArray, List.set_cons_zero, List.set_cons_succ]
      apply wpX_take 5; (case ho' => exact rfl); (case hg => exact rfl); (case hB => kernel_rfl); (case h => (intro w1 h1; exact detR_row _ _ rfl _ rfl _ _ _ (x.below h1 x.lt) Try.underlying130 rfl (by first | kernel_rfl | (rw [gnc_size]; kernel_rfl)) rfl))
      simp only [Act.put, List.setIfInBounds_toArray, List.set_cons_zero, List.set_cons_succ]
      refine wpX_tail (by kernel_rfl) (fun we684 ht => ?_)
      simp only [List.drop_succ_cons, List.drop_zero]
      replace hB := hB.trans (ht.mono hB.size)
      replace t := t.below ht t.lt
      replace r := r.below ht r.lt
      replace g := g.below ht g.lt
      replace m := m.below ht m.lt
      replace x := x.below ht x.lt
      clear ht
      have hNc : N + n * c1 < maxLen := by have := hN.out; have := hcK.out; omega
      go_upto_region 14 with (at_mapUpdate; refine wpList_put rfl _ _ _ rfl rfl rfl rfl m hNc wf1.out wf2.out wf3.out ?_; intro w5 m5 hS)
      replace hB := hB.next hS
      replace t := t.save hS (by omega)
      replace r := r.save hS (by omega)
      replace x := x.save hS (by omega)
      replace g := g.save hS (by omega)
      clear m hS
      have m := m5.mono (show N + n * c1 + 1 ≤ N + cK by have := hcK.out; omega)
      clear m5
      have lt_t := t.lt
      have lt_r := r.lt
      have lt_g := g.lt
      have lt_m := m.lt
      have lt_x := x.lt
      have hW0 : w.heap.size ≤ w5.heap.size := by have := hB.size; first | exact this | simpa using this
      apply wp_region_Q 2 [0, 1] [] [_, (fun _ => undef)] (fun p L w' => w5.heap.size ≤ w'.heap.size ∧ Save mb mb w w' ∧ blk w' w.heap.size (ptc (last, (k : Int), bud)) 128 ∧ blk w' (w.heap.size + 1) (bif L 1 then (gnc (Rr k last bud)) else (gnc (0, 0))) 130 ∧ blk w' pb (plc (.slice a n c, gap, mb)) 126 ∧ mpo Rr mb mb w' (N + cK) ∧ blk w' x_b (gnc (Rr k last bud)) 130) _ [(0, 68)] [0, 1]
      case hn => rfl
      case hB => kernel_rfl
      case hds => kernel_rfl
      case hA => (intro p; simp only [putsD, Act.put, List.setIfInBounds_toArray, List.set_cons_zero, List.set_cons_succ, List.getD_cons_zero, List.getD_cons_succ]; exact rfl)
      case h0 => exact fun p => ⟨Nat.le_refl _, hB, t, r, g, m, x⟩
      case hmore => exact fun p L w1 w2 ⟨hsz, hB, t, r, g, m, x⟩ hm => ⟨Nat.le_trans hsz hm.size, hB.trans (hm.mono (Nat.le_trans hW0 hsz)), t.below hm t.lt, r.below hm r.lt, g.below hm g.lt, m.below hm m.lt, x.below hm x.lt⟩
      case hs =>
        intro more
        refine stepV 0 rfl rfl (fun _ _ _ h => h) ?_ ?_
        · rintro p L w1 ⟨hsz, hB, t, r, g, m, x⟩ hk
          have L1 : L 1 = false := hk.2.2 1 rfl
          first | exact valR_row _ _ rfl _ rfl _ _ x _ Try.underlying130 rfl (by first | kernel_rfl | (rw [gnc_size]; kernel_rfl)) rfl | (have hc := x.cellIs (show _[0]? = some _ from rfl); go_simp; exact ⟨rfl, rfl⟩)
        refine AllI.cons ?_ ?_
        · refine stepI_store 1 rfl (fun p => rfl) (fun p => rfl) _ _ _ rfl (fun _ => (w.heap.size + 1)) 0 (fun p => rfl) (fun p => (gnc (Rr k last bud))) (fun p => rfl) (fun p => (gnc (0, 0))) (fun p => (gnc (Rr k last bud))) 130 (fun p => over_gnc _ _) (fun p => by first | (rw [gnc_size, gnc_size]; decide) | simp [gnc_size, gnc_size]) (fun p => by rw [gnc_size]; kernel_rfl) (fun p => gnc_one _) ?_ ?_
          · rintro p L w1 ⟨hsz, hB, t, r, g, m, x⟩ hk
            have L1 : L 1 = false := hk.1
            rw [L1] at r
            try simp only [cond_true, cond_false] at r
            exact r
          · rintro p L w1 ⟨hsz, hB, t, r, g, m, x⟩ hk
            have L1 : L 1 = false := hk.1
            skip
            refine ⟨(by simpa using hsz), hB.row (by first | exact .inr (Nat.le_trans hW0 hp.1) | exact .inr ge_r | exact .inl ⟨Nat.le_refl _, Nat.le_refl _⟩ | omega | (have := hB.size; simp at this ⊢; omega)) _, t.rowOther (by first | exact ne_t_r | exact Ne.symm ne_r_t | omega) _, ?_, g.rowOther (by first | exact ne_g_r | exact Ne.symm ne_r_g | omega) _, m.rowOther (by first | exact .inr out_r | exact .inl out_r | omega) _, x.rowOther (by first | exact ne_x_r | exact Ne.symm ne_r_x | omega) _⟩
            rw [show upL L 1 1 = true from rfl]
            exact r.row _
        exact AllI.nil
      case hV0 => exact fun p q => AllI.nil
      case he =>
      clear hB t r g m x
      rintro p w5r ⟨hsz, hB, t, r, g, m, x⟩
      replace r : blk w5r (w.heap.size + 1) (gnc (Rr k last bud)) 130 := r
      clear lt_t
      clear lt_r
      clear lt_g
      clear lt_m
      clear lt_x
      clear hsz hW0
      go_wp2_with (fail)
      refine bodyPost_ret (results_cell_row rfl _ _ _ _ _ _ _ rfl r Try.underlying130 rfl (by first | kernel_rfl | (rw [gnc_size]; kernel_rfl))) rfl ?_
      exact ⟨rfl, m, hB⟩
end Go.Proofs.Ytkmelddejdikgaa
