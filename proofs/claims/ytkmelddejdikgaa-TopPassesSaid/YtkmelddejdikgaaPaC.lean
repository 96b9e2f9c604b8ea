/-
  The planner: after.
-/
import Derived.Test.YtkmelddejdikgaaPaB
set_option linter.unusedSimpArgs false
set_option linter.unusedVariables false
namespace Go.Proofs.Ytkmelddejdikgaa
open Go.RowKit PM Dt Pa
/-- What next answers. -/
def nOk (L : Nat → Nat → Int) (gap last left bud : Int) (i : Nat) : Bool := decide (left ≠ 0) && nxB L gap last bud i
theorem next_no (L : Nat → Nat → Int) (gap : Int) (a : Option Addr) (n c pb mb : Nat) (last left bud : Int) (i : Nat) (w : World) (hp : blk w pb (plc (.slice a n c, gap, mb)) 126) (el : ElsN mb w a n 5 (fun k => (wnc (L k)).toList)) (hW : WOk n L) (hg : 0 ≤ gap ∧ gap ≤ 1099511627776) (hl : 0 ≤ left ∧ left ≤ 40) (hb : 0 ≤ bud ∧ bud ≤ 1099511627776) (hr : last < n) (hi : i < n) (hn : n ≤ 40) (h : nOk L gap last left bud i = false) : Calls Try.prog 71 #[.pointer (some ⟨pb, 0, none⟩), .agg (ptc (last, left, bud)), .int .i64 (i : Int)] w fun e w' => e = .returned (.tuple #[.agg (ptc (last, left, bud)), .bool false]) ∧ Below w.heap.size w w' := by
  unfold nOk nxB at h
  by_cases h0 : left = 0
  · exact next_A L gap a n c pb mb last left bud i w hp el hW hg hl hb hr hi hn h0
  · by_cases h1 : bud < L i 4
    · exact next_B L gap a n c pb mb last left bud i w hp el hW hg hl hb hr hi hn ⟨h0, h1⟩
    · rw [decide_eq_true h0, decide_eq_true (show L i 4 ≤ bud by omega), Bool.true_and, Bool.true_and, Bool.or_eq_false_iff] at h
      have h2 := of_decide_eq_false h.1
      exact next_D L gap a n c pb mb last left bud i w hp el hW hg hl hb hr hi hn ⟨h0, by omega, by omega, h.2⟩
theorem next_yes (L : Nat → Nat → Int) (gap : Int) (a : Option Addr) (n c pb mb : Nat) (last left bud : Int) (i : Nat) (w : World) (hp : blk w pb (plc (.slice a n c, gap, mb)) 126) (el : ElsN mb w a n 5 (fun k => (wnc (L k)).toList)) (hW : WOk n L) (hg : 0 ≤ gap ∧ gap ≤ 1099511627776) (hl : 0 ≤ left ∧ left ≤ 40) (hb : 0 ≤ bud ∧ bud ≤ 1099511627776) (hr : last < n) (hi : i < n) (hn : n ≤ 40) (h : nOk L gap last left bud i = true) : Calls Try.prog 71 #[.pointer (some ⟨pb, 0, none⟩), .agg (ptc (last, left, bud)), .int .i64 (i : Int)] w fun e w' => e = .returned (.tuple #[.agg (ptc ((i : Int), left - 1, bud - L i 4)), .bool true]) ∧ Below w.heap.size w w' := by
  unfold nOk nxB at h
  rw [Bool.and_eq_true, Bool.and_eq_true, Bool.or_eq_true] at h
  have h0 := of_decide_eq_true h.1
  have h1 := of_decide_eq_true h.2.1
  by_cases h2 : last < 0
  · exact next_C L gap a n c pb mb last left bud i w hp el hW hg hl hb hr hi hn ⟨h0, h1, h2⟩
  · rcases h.2.2 with h3 | h3
    · exact absurd (of_decide_eq_true h3) h2
    · exact next_E L gap a n c pb mb last left bud i w hp el hW hg hl hb hr hi hn ⟨h0, h1, by omega, h3⟩
/-- The contract of rest at a depth. -/
def RestC (L : Nat → Nat → Int) (gap : Int) (a : Option Addr) (n c pb mb k : Nat) : Prop := ∀ (last bud : Int) (w : World) (N : Nat), blk w pb (plc (.slice a n c, gap, mb)) 126 → ElsN mb w a n 5 (fun k => (wnc (L k)).toList) → mpo (gR n L gap) mb mb w N → N + cnt k ≤ maxLen → (-1 ≤ last ∧ last < n) → (0 ≤ bud ∧ bud ≤ 1099511627776) → pb ≠ mb →
    Calls Try.prog 70 #[.pointer (some ⟨pb, 0, none⟩), .agg (ptc (last, (k : Int), bud))] w fun e w' => e = .returned (.agg (gnc (gR n L gap k last bud))) ∧ mpo (gR n L gap) mb mb w' (N + cnt k) ∧ Save mb mb w w'
set_option maxRecDepth 100000 in
set_option maxHeartbeats 6000000 in
theorem after_any (L : Nat → Nat → Int) (gap : Int) (a : Option Addr) (n c pb mb : Nat) (k : Nat) (bud : Int) (i N : Nat) (w : World) (hp : blk w pb (plc (.slice a n c, gap, mb)) 126) (el : ElsN mb w a n 5 (fun k => (wnc (L k)).toList)) (hm : mpo (gR n L gap) mb mb w N) (hW : WOk n L) (hN : N + cnt k ≤ maxLen) (hk : k ≤ 40) (hb : 0 ≤ bud ∧ bud ≤ 1099511627776) (hi : i < n) (hn : n ≤ 40) (hne : pb ≠ mb) (RC : RestC L gap a n c pb mb k) : Calls Try.prog 72 #[.pointer (some ⟨pb, 0, none⟩), .agg (ptc ((i : Int), (k : Int), bud))] w fun e w' => e = .returned (.agg (gnc (aft L (gR n L gap k i bud) i))) ∧ mpo (gR n L gap) mb mb w' (N + cnt k) ∧ Save mb mb w w' := by
  have RE := Lib.hid (fun (w1 : World) (x1 : blk w1 pb (plc (.slice a n c, gap, mb)) 126) (x2 : ElsN mb w1 a n 5 (fun k => (wnc (L k)).toList)) (x3 : mpo (gR n L gap) mb mb w1 N) => RC i bud w1 N x1 x2 x3 hN (by omega) hb hne)
  have hGb := gR_bd hW (gap := gap) k i bud
  have hV := hW.v i hi
  clear RC hN hb
  obtain ⟨eb, eo, rfl, hEl, hEm, hE⟩ := el i hi
  replace hE : w.rangeAt eb (eo + i * 5) ((wnc (L i)).toList) := hE
  have hdi : decide ((i : Int) < n) = true := decide_eq_true (by omega)
  have hdi' : decide (i < n) = true := decide_eq_true hi
  have hi3 : (i : Int) < n := by omega
  have hi0 : (0 : Int) ≤ i := by omega
  unfold aft
  generalize hG : gR n L gap k i bud = G at *
  generalize gR n L gap = Rr at *
  have w1_ : IntKind.i64.wrap (G.1 + L i 3) = G.1 + L i 3 := by rw [IntKind.wrap_i64]; omega
  have w2_ : IntKind.i64.wrap (G.2 + 1) = G.2 + 1 := by rw [IntKind.wrap_i64]; omega
  clear hGb hV hW hG hk hn
  generalize hLi : L i = wi at *
  go_enter Try.func72, Try.ntmps72
  go_upto_region 1 with (fail)
  simp only [zero_gnc]
  have t : blk ((w.alloc (.cells (ptc ((i : Int), (k : Int), bud)) 128)).alloc (.cells (gnc (0, 0)) 130)) w.heap.size (ptc ((i : Int), (k : Int), bud)) 128 := (blk.new _ _ _).alloc _
  have r : blk ((w.alloc (.cells (ptc ((i : Int), (k : Int), bud)) 128)).alloc (.cells (gnc (0, 0)) 130)) (w.heap.size + 1) (gnc (0, 0)) 130 := blk.new' (by simp)
  have hB : Below w.heap.size w ((w.alloc (.cells (ptc ((i : Int), (k : Int), bud)) 128)).alloc (.cells (gnc (0, 0)) 130)) := by go_grown
  generalize ((w.alloc (.cells (ptc ((i : Int), (k : Int), bud)) 128)).alloc (.cells (gnc (0, 0)) 130)) = w0 at *
  have lm := hm.lt
  have g : blk w0 pb (plc (.slice (some ⟨eb, eo, none⟩) n c, gap, mb)) 126 := hp.below hB hp.lt
  have m := hm.below hB lm
  have glt := hp.lt
  have mlt := hm.lt
  replace hB : Save mb mb w w0 := Save.of hB
  clear hp hm
  have ne_t_g : w.heap.size ≠ pb := by omega
  have ne_r_g : w.heap.size + 1 ≠ pb := by omega
  have ne_t_r : w.heap.size ≠ w.heap.size + 1 := by omega
  have out_t : mb < w.heap.size := by omega
  have out_r : mb < w.heap.size + 1 := by omega
  have lt_t := t.lt
  have lt_r := r.lt
  have lt_g := g.lt
  have lt_m := m.lt
  have hW0 : w.heap.size ≤ w0.heap.size := by have := hB.size; first | exact this | simpa using this
  apply wp_region_Q 5 [0, 1, 3, 7, 15] [3] [_, _, _, (fun p => .pointer (some ⟨p 3, 0, none⟩)), (fun _ => undef)] (fun p L w' => w0.heap.size ≤ w'.heap.size ∧ Save mb mb w w' ∧ blk w' w.heap.size (ptc ((i : Int), (k : Int), bud)) 128 ∧ blk w' (w.heap.size + 1) (gnc (0, 0)) 130 ∧ blk w' pb (plc (.slice (some ⟨eb, eo, none⟩) n c, gap, mb)) 126 ∧ mpo Rr mb mb w' (bif L 2 then (N + cnt k) else (N)) ∧ (L 3 = true → w0.heap.size ≤ p 3 ∧ blk w' (p 3) (bif L 4 then (gnc G) else (gnc (0, 0))) 130)) _ [(0, 6), (1, 7), (2, 8), (3, 5)] [0, 1, 2, 3, 4]
  case hn => rfl
  case hB => kernel_rfl
  case hds => kernel_rfl
  case hA => (intro p; simp only [putsD, Act.put, List.setIfInBounds_toArray, List.set_cons_zero, List.set_cons_succ, List.getD_cons_zero, List.getD_cons_succ]; exact rfl)
  case h0 => exact fun p => ⟨Nat.le_refl _, hB, t, r, g, m, fun h => absurd h (by decide)⟩
  case hmore => exact fun p L w1 w2 ⟨hsz, hB, t, r, g, m, h_x⟩ hm => ⟨Nat.le_trans hsz hm.size, hB.trans (hm.mono (Nat.le_trans hW0 hsz)), t.below hm t.lt, r.below hm r.lt, g.below hm g.lt, m.below hm m.lt, fun hl => ⟨(h_x hl).1, (h_x hl).2.below hm (h_x hl).2.lt⟩⟩
  case hs =>
    intro more
    refine stepV _ rfl rfl (fun _ _ _ h => h) (by intros; go_simp; exact ⟨rfl, rfl⟩) ?_
    refine stepV 1 rfl rfl (fun _ _ _ h => h) ?_ ?_
    · rintro p L w1 ⟨hsz, hB, t, r, g, m, h_x⟩ hk
      have L2 : L 2 = false := hk.2.2 2 rfl
      have L4 : L 4 = false := hk.2.2 4 rfl
      first | exact valR_row _ _ rfl _ rfl _ _ t _ Try.underlying128 rfl (by first | kernel_rfl | (rw [ptc_size]; kernel_rfl)) rfl | (have hc := t.cellIs (show _[0]? = some _ from rfl); go_simp; exact ⟨rfl, rfl⟩)
    refine AllI.cons ?_ ?_
    · refine stepI_rel 2 rfl (fun p => rfl) (fun p w1 w2 => mpo Rr mb mb w2 (N + cnt k) ∧ Save mb mb w1 w2) ?_ ?_
      · rintro p L w1 ⟨hsz, hB, t, r, g, m, h_x⟩ hk
        have L2 : L 2 = false := hk.1
        have L4 : L 4 = false := hk.2.2 4 rfl
        rw [L2] at m
        try simp only [cond_true, cond_false] at m
        go_simp
        refine (RE.out _ g (el.save hB) m).mono ?_
        rintro e w2 ⟨rfl, h2, h3⟩
        exact ⟨rfl, h2, h3⟩
      · rintro p L w1 w2 ⟨hsz, hB, t, r, g, m, h_x⟩ hk ⟨h2, h3⟩
        have L2 : L 2 = false := hk.1
        have L4 : L 4 = false := hk.2.2 4 rfl
        refine ⟨Nat.le_trans hsz h3.size, hB.next (h3.wide (Nat.le_refl _) (by omega)), t.save h3 (by first | exact .inr out_t | exact .inl out_t | omega), r.save h3 (by first | exact .inr out_r | exact .inl out_r | omega), g.save h3 (by first | exact .inr out_g | exact .inl out_g | omega), ?_, fun hl => ⟨(h_x hl).1, (h_x hl).2.save h3 (.inr (Nat.lt_of_lt_of_le lt_m (h_x hl).1))⟩⟩
        rw [show upL L 2 2 = true from rfl]
        exact h2
    refine AllI.cons ?_ ?_
    · refine stepI_alloc 3 rfl (fun p => rfl) rfl (gnc (0, 0)) 130 (fun p => rfl) ?_ ?_
      · intro p w1
        go_simp
        first | done | rfl | rw [zero_gnc]
      rintro p L w1 ⟨hsz, hB, t, r, g, m, h_x⟩ hk
      have L2 : L 2 = true := hk.2.1 2 rfl
      have L4 : L 4 = false := hk.2.2 4 rfl
      refine ⟨Nat.le_trans hsz (by simp), hB.alloc (Nat.le_trans (by first | exact hW0 | (have := hB.size; simp at this ⊢; omega)) hsz) _, t.alloc _, r.alloc _, g.alloc _, m.alloc _, fun _ => ⟨hsz, ?_⟩⟩
      rw [show upL L 3 4 = false from L4]
      exact blk.new _ _ _
    refine AllI.cons ?_ ?_
    · refine stepI_store 4 rfl (fun p => rfl) (fun p => rfl) _ _ _ rfl (fun p => p 3) 0 (fun p => rfl) (fun p => (gnc G)) (fun p => rfl) (fun p => (gnc (0, 0))) (fun p => (gnc G)) 130 (fun p => over_gnc _ _) (fun p => by first | (rw [gnc_size, gnc_size]; decide) | simp [gnc_size, gnc_size]) (fun p => by rw [gnc_size]; kernel_rfl) (fun p => gnc_one _) ?_ ?_
      · rintro p L w1 ⟨hsz, hB, t, r, g, m, h_x⟩ hk
        have L2 : L 2 = true := hk.2.1 2 rfl
        have L4 : L 4 = false := hk.1
        have hh := (h_x (hk.2.1 3 rfl)).2
        rw [L4] at hh
        try simp only [cond_true, cond_false] at hh
        exact hh
      · rintro p L w1 ⟨hsz, hB, t, r, g, m, h_x⟩ hk
        have L2 : L 2 = true := hk.2.1 2 rfl
        have L4 : L 4 = false := hk.1
        skip
        have hp := h_x (hk.2.1 3 rfl)
        refine ⟨(by simpa using hsz), hB.row (by first | exact .inr (Nat.le_trans hW0 hp.1) | exact .inr ge_x | exact .inl ⟨Nat.le_refl _, Nat.le_refl _⟩ | omega | (have := hB.size; simp at this ⊢; omega)) _, t.rowOther (by first | exact Nat.ne_of_lt (Nat.lt_of_lt_of_le lt_t hp.1) | omega) _, r.rowOther (by first | exact Nat.ne_of_lt (Nat.lt_of_lt_of_le lt_r hp.1) | omega) _, g.rowOther (by first | exact Nat.ne_of_lt (Nat.lt_of_lt_of_le lt_g hp.1) | omega) _, m.rowOther (.inr (Nat.lt_of_lt_of_le lt_m hp.1)) _, fun _ => ⟨hp.1, ?_⟩⟩
        rw [show upL L 4 4 = true from rfl]
        exact hp.2.row _
    exact AllI.nil
  case hV0 =>
    intro p q
    refine AllI.cons ?_ ?_
    · skip
      iterate 5 (refine AllI.cons (by first | exact .inl rfl | (refine .inr ?_; simp only [List.getD_cons_zero, List.getD_cons_succ]; done) | exact .inr rfl) ?_)
      exact AllI.nil
    exact AllI.nil
  case he =>
  clear hB t r g m
  rintro p w0r ⟨hsz, hB, t, r, g, m, h_x⟩
  obtain ⟨le_x, x⟩ := h_x rfl
  clear h_x
  replace m : mpo Rr mb mb w0r (N + cnt k) := m
  replace x : blk w0r (p 3) (gnc G) 130 := x
  have ne_t_x : w.heap.size ≠ p 3 := Nat.ne_of_lt (Nat.lt_of_lt_of_le lt_t le_x)
  have ne_r_x : (w.heap.size + 1) ≠ p 3 := Nat.ne_of_lt (Nat.lt_of_lt_of_le lt_r le_x)
  have ne_g_x : pb ≠ p 3 := Nat.ne_of_lt (Nat.lt_of_lt_of_le lt_g le_x)
  have ne_m_x : mb ≠ p 3 := Nat.ne_of_lt (Nat.lt_of_lt_of_le lt_m le_x)
  have ge_x : w.heap.size ≤ p 3 := Nat.le_trans hW0 le_x
  have out_x : mb < p 3 := Nat.lt_of_lt_of_le lt_m le_x
  generalize p 3 = x_b at *
  clear lt_t
  clear lt_r
  clear lt_g
  clear lt_m
  clear hsz hW0
  go_upto_region 2 with (fail)
  have lt_t := t.lt
  have lt_r := r.lt
  have lt_g := g.lt
  have lt_m := m.lt
  have lt_x := x.lt
  have hW0 : w.heap.size ≤ w0r.heap.size := by have := hB.size; first | exact this | simpa using this
  apply wp_region_I 17 [0, 1, 0, 4, 12, 28, 0, 64, 252, 508, 1020, 2047, 0, 4096, 12288, 32767, 65535] [] [_, _, _, _, _, _, _, _, _, _, _, _, _, _, _, _, (fun _ => undef)] (fun p L w' => w0r.heap.size ≤ w'.heap.size ∧ Save mb mb w w' ∧ blk w' w.heap.size (ptc ((i : Int), (k : Int), bud)) 128 ∧ blk w' (w.heap.size + 1) (bif L 16 then (gnc (G.1 + wi 3, G.2 + 1)) else (gnc (0, 0))) 130 ∧ blk w' pb (plc (.slice (some ⟨eb, eo, none⟩) n c, gap, mb)) 126 ∧ mpo Rr mb mb w' (N + cnt k) ∧ blk w' x_b (gnc G) 130) _ [(0, 9), (1, 10), (2, 11), (3, 12), (4, 13), (5, 14), (6, 15), (7, 16), (8, 17), (9, 18), (10, 19), (11, 20), (12, 21), (13, 22), (14, 23), (15, 24)] [0, 1, 2, 3, 4, 5, 6, 7, 8, 9, 10, 11, 12, 13, 14, 15, 16]
  case hn => rfl
  case hm => kernel_rfl
  case hB => kernel_rfl
  case hds => kernel_rfl
  case hA => (intro p; simp only [putsD, Act.put, List.setIfInBounds_toArray, List.set_cons_zero, List.set_cons_succ, List.getD_cons_zero, List.getD_cons_succ]; exact rfl)
  case h0 => exact fun p => ⟨Nat.le_refl _, hB.drew, t.drew, r.drew, g.drew, m.drew, x.drew⟩
  case hmore => exact fun p L w1 w2 ⟨hsz, hB, t, r, g, m, x⟩ hm => ⟨Nat.le_trans hsz hm.size, hB.trans (hm.mono (Nat.le_trans hW0 hsz)), t.below hm t.lt, r.below hm r.lt, g.below hm g.lt, m.below hm m.lt, x.below hm x.lt⟩
  case hs =>
    intro more
    refine stepV _ rfl rfl (fun _ _ _ h => h) (by intros; go_simp; exact ⟨rfl, rfl⟩) ?_
    refine stepV 1 rfl rfl (fun _ _ _ h => h) ?_ ?_
    · rintro p L w1 ⟨hsz, hB, t, r, g, m, x⟩ hk
      have L16 : L 16 = false := hk.2.2 16 rfl
      have hc : w1.cell? ⟨x_b, 0, none⟩ = some (.int .i64 G.1) := x.cellIs rfl
      go_simp
      exact ⟨rfl, rfl⟩
    iterate 3 (refine stepV _ rfl rfl (fun _ _ _ h => h) (by intros; go_simp; exact ⟨rfl, rfl⟩) ?_)
    refine stepV 5 rfl rfl (fun _ _ _ h => h) ?_ ?_
    · rintro p L w1 ⟨hsz, hB, t, r, g, m, x⟩ hk
      have L16 : L 16 = false := hk.2.2 16 rfl
      have hc : w1.cell? ⟨pb, 0, none⟩ = some (.slice (some ⟨eb, eo, none⟩) n c) := g.cellIs rfl
      go_simp
      exact ⟨rfl, rfl⟩
    refine stepV _ rfl rfl (fun _ _ _ h => h) (by intros; go_simp; exact ⟨rfl, rfl⟩) ?_
    refine stepV 7 rfl rfl (fun _ _ _ h => h) ?_ ?_
    · rintro p L w1 ⟨hsz, hB, t, r, g, m, x⟩ hk
      have L16 : L 16 = false := hk.2.2 16 rfl
      have hc : w1.cell? ⟨w.heap.size, 0, none⟩ = some (.int .i64 (i : Int)) := t.cellIs rfl
      go_simp
      exact ⟨rfl, rfl⟩
    iterate 2 (refine stepV _ rfl rfl (fun _ _ _ h => h) (by intros; go_simp; exact ⟨rfl, rfl⟩) ?_)
    refine stepV 10 rfl rfl (fun _ _ _ h => h) ?_ ?_
    · rintro p L w1 ⟨hsz, hB, t, r, g, m, x⟩ hk
      have hr := range_save hE hB hEl hEm
      have hc : w1.cell? ⟨eb, eo + i * 5 + 3, none⟩ = some (.int .i64 (wi 3)) := hr 3 _ rfl
      go_simp
      exact ⟨rfl, rfl⟩
    iterate 2 (refine stepV _ rfl rfl (fun _ _ _ h => h) (by intros; go_simp; exact ⟨rfl, rfl⟩) ?_)
    refine stepV 13 rfl rfl (fun _ _ _ h => h) ?_ ?_
    · rintro p L w1 ⟨hsz, hB, t, r, g, m, x⟩ hk
      have L16 : L 16 = false := hk.2.2 16 rfl
      have hc : w1.cell? ⟨x_b, 1, none⟩ = some (.int .i64 G.2) := x.cellIs rfl
      go_simp
      exact ⟨rfl, rfl⟩
    refine stepV _ rfl rfl (fun _ _ _ h => h) (by intros; go_simp; exact ⟨rfl, rfl⟩) ?_
    refine stepV 15 rfl rfl (fun _ _ _ h => h) ?_ ?_
    · intros; (try simp only [vfn, qfn]); go_simp; exact ⟨rfl, rfl⟩
    refine AllI.cons ?_ ?_
    · refine stepI_store 16 rfl (fun p => rfl) (fun p => rfl) _ _ _ rfl (fun _ => (w.heap.size + 1)) 0 (fun p => rfl) (fun p => (gnc (G.1 + wi 3, G.2 + 1))) (fun p => rfl) (fun p => (gnc (0, 0))) (fun p => (gnc (G.1 + wi 3, G.2 + 1))) 130 (fun p => over_gnc _ _) (fun p => by first | (rw [gnc_size, gnc_size]; decide) | simp [gnc_size, gnc_size]) (fun p => by rw [gnc_size]; kernel_rfl) (fun p => gnc_one _) ?_ ?_
      · rintro p L w1 ⟨hsz, hB, t, r, g, m, x⟩ hk
        have L16 : L 16 = false := hk.1
        rw [L16] at r
        try simp only [cond_true, cond_false] at r
        exact r
      · rintro p L w1 ⟨hsz, hB, t, r, g, m, x⟩ hk
        have L16 : L 16 = false := hk.1
        skip
        refine ⟨(by simpa using hsz), hB.row (by first | exact .inr (Nat.le_trans hW0 hp.1) | exact .inr ge_r | exact .inl ⟨Nat.le_refl _, Nat.le_refl _⟩ | omega | (have := hB.size; simp at this ⊢; omega)) _, t.rowOther (by first | exact ne_t_r | exact Ne.symm ne_r_t | omega) _, ?_, g.rowOther (by first | exact ne_g_r | exact Ne.symm ne_r_g | omega) _, m.rowOther (by first | exact .inr out_r | exact .inl out_r | omega) _, x.rowOther (by first | exact ne_x_r | exact Ne.symm ne_r_x | omega) _⟩
        rw [show upL L 16 16 = true from rfl]
        exact r.row _
    exact AllI.nil
  case hV0 => exact fun p q => AllI.nil
  case he =>
  clear hB t r g m x
  rintro p w0rr ⟨hsz, hB, t, r, g, m, x⟩
  replace r : blk w0rr (w.heap.size + 1) (gnc (G.1 + wi 3, G.2 + 1)) 130 := r
  clear lt_t
  clear lt_r
  clear lt_g
  clear lt_m
  clear lt_x
  clear hsz hW0
  go_wp2_with (fail)
  refine bodyPost_ret (results_cell_row rfl _ _ _ _ _ _ _ rfl r Try.underlying130 rfl (by first | kernel_rfl | (rw [gnc_size]; kernel_rfl))) rfl ?_
  exact ⟨rfl, m, hB⟩
end Go.Proofs.Ytkmelddejdikgaa
