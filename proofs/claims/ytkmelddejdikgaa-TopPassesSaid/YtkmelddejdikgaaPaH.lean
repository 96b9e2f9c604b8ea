/-
  The best plan.
-/
import Derived.Test.YtkmelddejdikgaaPaN
import Derived.Carry
set_option linter.unusedSimpArgs false
set_option linter.unusedVariables false
namespace Go.Proofs.Ytkmelddejdikgaa
open Go.RowKit PM Dt Pa
/-- What Best hands back. -/
def BestP (Lw : Nat → Nat → Int) (n : Nat) (g : Int × Int × Int) (k0 : Nat) (b0 : Int) (w : World) (e : Ending) (w' : World) : Prop := ∃ v pl last k bu, e = .returned (.tuple #[v, .int .i64 0]) ∧ w'.ownsRow w.heap.size 3 1 v pl.length (plv pl) ∧ Pln n Lw g.1 k0 b0 pl last k bu ∧ ¬ 0 < (gR n Lw g.1 k last bu).2 ∧ Below w.heap.size w w'
set_option maxRecDepth 100000 in
set_option maxHeartbeats 16000000 in
theorem best_any (Lw : Nat → Nat → Int) (a : Option Addr) (n c : Nat) (g : Int × Int × Int) (k0 : Nat) (b0 : Int) (w : World) (el : Els w a n 5 (fun k => (wnc (Lw k)).toList)) (hW : WOk n Lw) (hn : n ≤ 12) (hg : ruE g = 0) (hc1 : ∀ i, i < n → Lw i 4 = 1) (hkz : min g.2.2 (n : Int) = (k0 : Int)) (hb0 : min g.2.1 (n : Int) = b0) : Calls Try.prog 24 #[.slice a n c, .agg (ruc g)] w fun e w' => BestP Lw n g k0 b0 w e w' := by
  obtain ⟨hg1, hg2, hg3⟩ := ru_ok hg
  have CH := Lib.hid (fun w1 x1 => pcheck_any Lw a n c g w1 x1 hW (by omega))
  rw [hg] at CH
  replace el := Lib.hid el
  replace hW := Lib.hid hW
  replace hc1 := Lib.hid hc1
  have hmm := @run_makeMap Try.prog
  go_enter Try.func24, Try.ntmps24
  go_upto_region 1 with (fail)
  have u : blk (w.alloc (.cells (ruc g) 57)) w.heap.size (ruc g) 57 := blk.new _ _ _
  have hB : Below w.heap.size w (w.alloc (.cells (ruc g) 57)) := by go_grown
  generalize (w.alloc (.cells (ruc g) 57)) = w0 at *
  go_upto_region 4 with (first
    | (refine wpList_load_rowG ?hw _ _ rfl _ rfl _ _ _ _ u Try.underlying57 rfl ?hi ?_; (case hw => (first | rfl | (simp [Region.wanted, yielded]; done))); (case hi => (first | kernel_rfl | (rw [ruc_size]; kernel_rfl))))
    | (go_at_call 22; with_reducible refine (CH.out _ (el.out.below hB (Nat.le_refl _))).mono ?_; rintro e w1 ⟨rfl, hb⟩; replace hB := hB.trans (hb.mono hB.size); replace u := u.below hb u.lt; clear hb))
  clear CH
  go_wp2_with (fail)
  go_loopg [25, 7] n (fun g_ iv sv wr => ∃ j : Nat, g_ + j = n ∧ iv = .int .i64 j ∧ sv = .int .i64 (j : Int) ∧ blk wr w.heap.size (ruc g) 57 ∧ Below w.heap.size w wr)
  case atStart => exact ⟨0, by omega, rfl, rfl, u, hB⟩
  case round =>
    clear u hB
    obtain ⟨j, hj, rfl, rfl, u, hB⟩ := hrel
    by_cases hjn : j < n
    · have hdj : decide ((j : Int) < n) = true := decide_eq_true (by omega)
      have hdj' : decide (j < n) = true := decide_eq_true hjn
      have hj3 : (j : Int) < n := by omega
      have hj0 : (0 : Int) ≤ j := by omega
      have hwj : IntKind.i64.wrap ((j : Int) + 1) = ((j + 1 : Nat) : Int) := by rw [IntKind.wrap_i64]; omega
      obtain ⟨eb, eo, rfl, hEl, hE⟩ := el.out j hjn
      replace hE : w.rangeAt eb (eo + j * 5) ((wnc (Lw j)).toList) := hE
      have hco := hc1.out j hjn
      generalize hwi : Lw j = wi at *
      clear hwi
      go_upto_region 7 with (fail)
      have lt_u := u.lt
      have hW0 : w.heap.size ≤ wr.heap.size := by have := hB.size; first | exact this | simpa using this
      apply wp_region_Q 4 [0, 1, 3, 7] [2] [_, _, (fun p => .pointer (some ⟨p 2, 0, none⟩)), (fun _ => undef)] (fun p L w' => wr.heap.size ≤ w'.heap.size ∧ Below w.heap.size w w' ∧ blk w' w.heap.size (ruc g) 57 ∧ (L 2 = true → wr.heap.size ≤ p 2 ∧ blk w' (p 2) (bif L 3 then (wnc wi) else (wnc fun _ => 0)) 72)) _ [(0, 27), (1, 28), (2, 9)] [0, 1, 2, 3]
      case hn => rfl
      case hB => kernel_rfl
      case hds => kernel_rfl
      case hA => (intro p; simp only [putsD, Act.put, List.setIfInBounds_toArray, List.set_cons_zero, List.set_cons_succ, List.getD_cons_zero, List.getD_cons_succ]; exact rfl)
      case h0 => exact fun p => ⟨Nat.le_refl _, hB, u, fun h => absurd h (by decide)⟩
      case hmore => exact fun p L w1 w2 ⟨hsz, hB, u, h_x⟩ hm => ⟨Nat.le_trans hsz hm.size, hB.trans (hm.mono (Nat.le_trans hW0 hsz)), u.below hm u.lt, fun hl => ⟨(h_x hl).1, (h_x hl).2.below hm (h_x hl).2.lt⟩⟩
      case hs =>
        intro more
        refine stepV _ rfl rfl (fun _ _ _ h => h) (by intros; go_simp; exact ⟨rfl, rfl⟩) ?_
        refine stepV 1 rfl rfl (fun _ _ _ h => h) ?_ ?_
        · rintro p L w1 ⟨hsz, hB, u, h_x⟩ hk
          have hr := range_below hE hB hEl
          exact valR_range _ _ rfl _ _ rfl _ (eo + j * 5) 0 hr (by first | rfl | omega) (wnc wi) (wnc_get wi) _ Try.underlying72 rfl (by rw [wnc_size]; kernel_rfl) rfl
        refine AllI.cons ?_ ?_
        · refine stepI_alloc 2 rfl (fun p => rfl) rfl (wnc fun _ => 0) 72 (fun p => rfl) ?_ ?_
          · intro p w1
            go_simp
            first | done | rfl | rw [zero_wnc]
          rintro p L w1 ⟨hsz, hB, u, h_x⟩ hk
          have L3 : L 3 = false := hk.2.2 3 rfl
          refine ⟨Nat.le_trans hsz (by simp), hB.alloc (Nat.le_trans (by first | exact hW0 | (have := hB.size; simp at this ⊢; omega)) hsz) _, u.alloc _, fun _ => ⟨hsz, ?_⟩⟩
          rw [show upL L 2 3 = false from L3]
          exact blk.new _ _ _
        refine AllI.cons ?_ ?_
        · refine stepI_store 3 rfl (fun p => rfl) (fun p => rfl) _ _ _ rfl (fun p => p 2) 0 (fun p => rfl) (fun p => (wnc wi)) (fun p => rfl) (fun p => (wnc fun _ => 0)) (fun p => (wnc wi)) 72 (fun p => over_wnc _ _) (fun p => by first | (rw [wnc_size, wnc_size]; decide) | simp [wnc_size, wnc_size]) (fun p => by rw [wnc_size]; kernel_rfl) (fun p => wnc_one _) ?_ ?_
          · rintro p L w1 ⟨hsz, hB, u, h_x⟩ hk
            have L3 : L 3 = false := hk.1
            have hh := (h_x (hk.2.1 2 rfl)).2
            rw [L3] at hh
            try simp only [cond_true, cond_false] at hh
            exact hh
          · rintro p L w1 ⟨hsz, hB, u, h_x⟩ hk
            have L3 : L 3 = false := hk.1
            skip
            have hp := h_x (hk.2.1 2 rfl)
            refine ⟨(by simpa using hsz), Below.setRow hB (by first | exact Nat.le_trans hW0 hp.1 | exact ge_x | omega | (have := hB.size; simp at this ⊢; omega)) _, u.rowOther (by first | exact Nat.ne_of_lt (Nat.lt_of_lt_of_le lt_u hp.1) | omega) _, fun _ => ⟨hp.1, ?_⟩⟩
            rw [show upL L 3 3 = true from rfl]
            exact hp.2.row _
        exact AllI.nil
      case hV0 =>
        intro p q
        refine AllI.cons ?_ ?_
        · skip
          iterate 4 (refine AllI.cons (by first | exact .inl rfl | (refine .inr ?_; simp only [List.getD_cons_zero, List.getD_cons_succ]; done) | exact .inr rfl) ?_)
          exact AllI.nil
        exact AllI.nil
      case he =>
      clear hB u
      rintro p wrr ⟨hsz, hB, u, h_x⟩
      obtain ⟨le_x, x⟩ := h_x rfl
      clear h_x
      replace x : blk wrr (p 2) (wnc wi) 72 := x
      have ne_u_x : w.heap.size ≠ p 2 := Nat.ne_of_lt (Nat.lt_of_lt_of_le lt_u le_x)
      have ge_x : w.heap.size ≤ p 2 := Nat.le_trans hW0 le_x
      generalize p 2 = x_b at *
      clear lt_u
      clear hsz hW0
      have cx4 : wrr.cell? ⟨x_b, 4, none⟩ = some (.int .i64 1) := by rw [← hco]; exact x.cellIs rfl
      go_wp2_with (fail)
      go_roundg (n - (j + 1))
      case rel => exact ⟨j + 1, by omega, rfl, rfl, u, hB⟩
      case measure => omega
    · obtain rfl : n = j := by omega
      have hdj : decide ((n : Int) < n) = false := decide_eq_false (by omega)
      clear hjn hj
      have cu0 : wr.cell? ⟨w.heap.size, 0, none⟩ = some (.int .i64 g.1) := u.cellIs rfl
      go_upto_region 11 with (fail)
      clear cu0
      obtain ⟨mb, hmb⟩ : ∃ mb, mb = wr.heap.size := ⟨_, rfl⟩
      have wsz := hB.size
      have u0 := u.lt
      have mpn : mpo (gR n Lw g.1) mb mb (wr.alloc (.map #[] 0)) 0 := ⟨(#[], 0), ⟨by rw [hmb]; exact (MapKept.heap_alloc wr _).1, rfl⟩, MpOk.new _⟩
      have m : mpo (gR n Lw g.1) mb mb ((wr.alloc (.map #[] 0)).alloc (.cells (plc (.slice a n c, g.1, mb)) 126)) 0 := mpn.alloc _
      have gp : blk ((wr.alloc (.map #[] 0)).alloc (.cells (plc (.slice a n c, g.1, mb)) 126)) (mb + 1) (plc (.slice a n c, g.1, mb)) 126 := by have := blk.new (wr.alloc (.map #[] 0)) (plc (.slice a n c, g.1, mb)) 126; rw [show (wr.alloc (.map #[] 0)).heap.size = mb + 1 by simp [hmb]] at this; exact this
      replace u : blk ((wr.alloc (.map #[] 0)).alloc (.cells (plc (.slice a n c, g.1, mb)) 126)) w.heap.size (ruc g) 57 := (u.alloc _).alloc _
      replace hB : Below w.heap.size w ((wr.alloc (.map #[] 0)).alloc (.cells (plc (.slice a n c, g.1, mb)) 126)) := (hB.alloc hB.size _).alloc (by have := hB.size; simp; omega) _
      have hmz : (wr.alloc (.map #[] 0)).heap.size = mb + 1 := by simp [hmb]
      have hlu : w.heap.size < mb := by rw [hmb]; exact u0
      simp only [hmz, ← hmb]
      simp only [show #[Value.slice a n c, .int .i64 g.1, .map (some mb)] = plc (.slice a n c, g.1, mb) from rfl]
      clear mpn hmz wsz u0
      clear hmb
      generalize ((wr.alloc (.map #[] 0)).alloc (.cells (plc (.slice a n c, g.1, mb)) 126)) = w2 at *
      have ne_u_gp : w.heap.size ≠ mb + 1 := by omega
      have out_u : w.heap.size < mb := hlu
      have out_gp : mb < mb + 1 := by omega
      have lt_u := u.lt
      have lt_m := m.lt
      have lt_gp := gp.lt
      have hW0 : w.heap.size ≤ w2.heap.size := by have := hB.size; first | exact this | simpa using this
      apply wp_region_Q 12 [0, 1, 3, 7, 15, 31, 63, 127, 255, 511, 1023, 2047] [10] [_, _, _, _, _, _, _, _, _, _, (fun p => .pointer (some ⟨p 10, 0, none⟩)), (fun _ => undef)] (fun p L w' => w2.heap.size ≤ w'.heap.size ∧ Below w.heap.size w w' ∧ blk w' w.heap.size (ruc g) 57 ∧ mpo (gR n Lw g.1) mb mb w' (0) ∧ blk w' (mb + 1) (plc (.slice a n c, g.1, mb)) 126 ∧ (L 10 = true → w2.heap.size ≤ p 10 ∧ blk w' (p 10) (bif L 11 then (ptc ((-1 : Int), (k0 : Int), b0)) else (ptc (0, 0, 0))) 128)) _ [(0, 40), (1, 41), (2, 42), (3, 43), (4, 44), (5, 45), (6, 46), (7, 47), (8, 48), (9, 49), (10, 11)] [0, 1, 2, 3, 4, 5, 6, 7, 8, 9, 10, 11]
      case hn => rfl
      case hB => kernel_rfl
      case hds => kernel_rfl
      case hA => (intro p; simp only [putsD, Act.put, List.setIfInBounds_toArray, List.set_cons_zero, List.set_cons_succ, List.getD_cons_zero, List.getD_cons_succ]; exact rfl)
      case h0 => exact fun p => ⟨Nat.le_refl _, hB, u, m, gp, fun h => absurd h (by decide)⟩
      case hmore => exact fun p L w1 w2 ⟨hsz, hB, u, m, gp, h_at_⟩ hm => ⟨Nat.le_trans hsz hm.size, hB.trans (hm.mono (Nat.le_trans hW0 hsz)), u.below hm u.lt, m.below hm m.lt, gp.below hm gp.lt, fun hl => ⟨(h_at_ hl).1, (h_at_ hl).2.below hm (h_at_ hl).2.lt⟩⟩
      case hs =>
        intro more
        refine stepV _ rfl rfl (fun _ _ _ h => h) (by intros; go_simp; exact ⟨rfl, rfl⟩) ?_
        refine stepV 1 rfl rfl (fun _ _ _ h => h) ?_ ?_
        · rintro p L w1 ⟨hsz, hB, u, m, gp, h_at_⟩ hk
          have L11 : L 11 = false := hk.2.2 11 rfl
          have hc : w1.cell? ⟨w.heap.size, 2, none⟩ = some (.int .i64 g.2.2) := u.cellIs rfl
          go_simp
          exact ⟨rfl, rfl⟩
        iterate 4 (refine stepV _ rfl rfl (fun _ _ _ h => h) (by intros; go_simp; exact ⟨rfl, rfl⟩) ?_)
        refine stepV 6 rfl rfl (fun _ _ _ h => h) ?_ ?_
        · rintro p L w1 ⟨hsz, hB, u, m, gp, h_at_⟩ hk
          have L11 : L 11 = false := hk.2.2 11 rfl
          have hc : w1.cell? ⟨w.heap.size, 1, none⟩ = some (.int .i64 g.2.1) := u.cellIs rfl
          go_simp
          exact ⟨rfl, rfl⟩
        iterate 2 (refine stepV _ rfl rfl (fun _ _ _ h => h) (by intros; go_simp; exact ⟨rfl, rfl⟩) ?_)
        refine stepV 9 rfl rfl (fun _ _ _ h => h) ?_ ?_
        · intros; (try simp only [vfn, qfn]); go_simp; exact ⟨rfl, rfl⟩
        refine AllI.cons ?_ ?_
        · refine stepI_alloc 10 rfl (fun p => rfl) rfl (ptc (0, 0, 0)) 128 (fun p => rfl) ?_ ?_
          · intro p w1
            go_simp
            first | done | rfl | rw [zero_ptc]
          rintro p L w1 ⟨hsz, hB, u, m, gp, h_at_⟩ hk
          have L11 : L 11 = false := hk.2.2 11 rfl
          refine ⟨Nat.le_trans hsz (by simp), hB.alloc (Nat.le_trans (by first | exact hW0 | (have := hB.size; simp at this ⊢; omega)) hsz) _, u.alloc _, m.alloc _, gp.alloc _, fun _ => ⟨hsz, ?_⟩⟩
          rw [show upL L 10 11 = false from L11]
          exact blk.new _ _ _
        refine AllI.cons ?_ ?_
        · refine stepI_store 11 rfl (fun p => rfl) (fun p => rfl) _ _ _ rfl (fun p => p 10) 0 (fun p => rfl) (fun p => (ptc ((-1 : Int), (k0 : Int), b0))) (fun p => rfl) (fun p => (ptc (0, 0, 0))) (fun p => (ptc ((-1 : Int), (k0 : Int), b0))) 128 (fun p => over_ptc _ _) (fun p => by first | (rw [ptc_size, ptc_size]; decide) | simp [ptc_size, ptc_size]) (fun p => by rw [ptc_size]; kernel_rfl) (fun p => ptc_one _) ?_ ?_
          · rintro p L w1 ⟨hsz, hB, u, m, gp, h_at_⟩ hk
            have L11 : L 11 = false := hk.1
            have hh := (h_at_ (hk.2.1 10 rfl)).2
            rw [L11] at hh
            try simp only [cond_true, cond_false] at hh
            exact hh
          · rintro p L w1 ⟨hsz, hB, u, m, gp, h_at_⟩ hk
            have L11 : L 11 = false := hk.1
            skip
            have hp := h_at_ (hk.2.1 10 rfl)
            refine ⟨(by simpa using hsz), Below.setRow hB (by first | exact Nat.le_trans hW0 hp.1 | exact ge_at_ | omega | (have := hB.size; simp at this ⊢; omega)) _, u.rowOther (by first | exact Nat.ne_of_lt (Nat.lt_of_lt_of_le lt_u hp.1) | omega) _, m.rowOther (.inr (Nat.lt_of_lt_of_le lt_m hp.1)) _, gp.rowOther (by first | exact Nat.ne_of_lt (Nat.lt_of_lt_of_le lt_gp hp.1) | omega) _, fun _ => ⟨hp.1, ?_⟩⟩
            rw [show upL L 11 11 = true from rfl]
            exact hp.2.row _
        exact AllI.nil
      case hV0 =>
        intro p q
        refine AllI.cons ?_ ?_
        · skip
          iterate 12 (refine AllI.cons (by first | exact .inl rfl | (refine .inr ?_; simp only [List.getD_cons_zero, List.getD_cons_succ]; done) | exact .inr rfl) ?_)
          exact AllI.nil
        exact AllI.nil
      case he =>
      clear hB u m gp
      rintro p w2r ⟨hsz, hB, u, m, gp, h_at_⟩
      obtain ⟨le_at_, at_⟩ := h_at_ rfl
      clear h_at_
      replace at_ : blk w2r (p 10) (ptc ((-1 : Int), (k0 : Int), b0)) 128 := at_
      have ne_u_at_ : w.heap.size ≠ p 10 := Nat.ne_of_lt (Nat.lt_of_lt_of_le lt_u le_at_)
      have ne_m_at_ : mb ≠ p 10 := Nat.ne_of_lt (Nat.lt_of_lt_of_le lt_m le_at_)
      have ne_gp_at_ : (mb + 1) ≠ p 10 := Nat.ne_of_lt (Nat.lt_of_lt_of_le lt_gp le_at_)
      have ge_at_ : w.heap.size ≤ p 10 := Nat.le_trans hW0 le_at_
      have out_at_ : mb < p 10 := Nat.lt_of_lt_of_le lt_m le_at_
      generalize p 10 = at__b at *
      clear lt_u
      clear lt_m
      clear lt_gp
      clear hsz hW0
      have RC := Lib.hid (fun k hk => rest_any Lw g.1 a n c (mb + 1) mb hW.out hg1 hn k hk)
      have hk12 : k0 ≤ 12 := by omega
      have hbz : 0 ≤ b0 ∧ b0 ≤ 1000 := by omega
      have hcm : 4 * Pa.cnt k0 ≤ maxLen := by have := Pa.cnt_le hk12; have := cnt12; unfold maxLen; omega
      have hmw : w.heap.size ≤ mb := Nat.le_of_lt hlu
      have hma : mb + 1 < at__b := by have := ne_gp_at_; have := out_at_; omega
      have hne1 : mb + 1 ≠ mb := by omega
      have hq1 : 0 + Pa.cnt k0 ≤ maxLen := by omega
      have hq2 : (-1 : Int) ≤ -1 ∧ (-1 : Int) < (n : Int) := by omega
      have hq3 : 0 ≤ b0 ∧ b0 ≤ 1099511627776 := by omega
      have RE0 := Lib.hid (fun (w1 : World) (x1 : blk w1 (mb + 1) (plc (.slice a n c, g.1, mb)) 126) (x2 : ElsN mb w1 a n 5 (fun k => (wnc (Lw k)).toList)) (x3 : mpo (gR n Lw g.1) mb mb w1 (0)) => RC.out k0 (by omega) (-1) b0 w1 0 x1 x2 x3 hq1 hq2 hq3 hne1)
      simp only [Nat.zero_add] at RE0
      clear hq1 hq2 hq3
      clear u hkz hb0 hg2 hg3
      replace hbz := Lib.hid hbz
      replace hcm := Lib.hid hcm
      replace hg1 := Lib.hid hg1
      go_upto_region 13 with (fail)
      have at_lt := at_.lt
      have lt_m := m.lt
      have lt_gp := gp.lt
      have lt_at_ := at_.lt
      have hW0 : w.heap.size ≤ w2r.heap.size := by have := hB.size; first | exact this | simpa using this
      apply wp_region_Q 5 [0, 1, 3, 7, 15] [3] [_, _, _, (fun p => .pointer (some ⟨p 3, 0, none⟩)), (fun _ => undef)] (fun p L w' => w2r.heap.size ≤ w'.heap.size ∧ Below w.heap.size w w' ∧ mpo (gR n Lw g.1) mb mb w' (bif L 2 then (Pa.cnt k0) else (0)) ∧ blk w' (mb + 1) (plc (.slice a n c, g.1, mb)) 126 ∧ blk w' at__b (ptc ((-1 : Int), (k0 : Int), b0)) 128 ∧ (L 3 = true → w2r.heap.size ≤ p 3 ∧ blk w' (p 3) (bif L 4 then (gnc (gR n Lw g.1 k0 (-1) b0)) else (gnc (0, 0))) 130)) _ [(0, 50), (1, 51), (2, 52), (3, 13)] [0, 1, 2, 3, 4]
      case hn => rfl
      case hB => kernel_rfl
      case hds => kernel_rfl
      case hA => (intro p; simp only [putsD, Act.put, List.setIfInBounds_toArray, List.set_cons_zero, List.set_cons_succ, List.getD_cons_zero, List.getD_cons_succ]; exact rfl)
      case h0 => exact fun p => ⟨Nat.le_refl _, hB, m, gp, at_, fun h => absurd h (by decide)⟩
      case hmore => exact fun p L w1 w2 ⟨hsz, hB, m, gp, at_, h_x⟩ hm => ⟨Nat.le_trans hsz hm.size, hB.trans (hm.mono (Nat.le_trans hW0 hsz)), m.below hm m.lt, gp.below hm gp.lt, at_.below hm at_.lt, fun hl => ⟨(h_x hl).1, (h_x hl).2.below hm (h_x hl).2.lt⟩⟩
      case hs =>
        intro more
        refine stepV _ rfl rfl (fun _ _ _ h => h) (by intros; go_simp; exact ⟨rfl, rfl⟩) ?_
        refine stepV 1 rfl rfl (fun _ _ _ h => h) ?_ ?_
        · rintro p L w1 ⟨hsz, hB, m, gp, at_, h_x⟩ hk
          have L2 : L 2 = false := hk.2.2 2 rfl
          have L4 : L 4 = false := hk.2.2 4 rfl
          first | exact valR_row _ _ rfl _ rfl _ _ at_ _ Try.underlying128 rfl (by first | kernel_rfl | (rw [ptc_size]; kernel_rfl)) rfl | (have hc := at_.cellIs (show _[0]? = some _ from rfl); go_simp; exact ⟨rfl, rfl⟩)
        refine AllI.cons ?_ ?_
        · refine stepI_rel 2 rfl (fun p => rfl) (fun p w1 w2 => mpo (gR n Lw g.1) mb mb w2 (Pa.cnt k0) ∧ Save mb mb w1 w2) ?_ ?_
          · rintro p L w1 ⟨hsz, hB, m, gp, at_, h_x⟩ hk
            have L2 : L 2 = false := hk.1
            have L4 : L 4 = false := hk.2.2 4 rfl
            rw [L2] at m
            try simp only [cond_true, cond_false] at m
            go_simp
            refine (RE0.out _ gp (ElsN.of el.out hmw hB) m).mono ?_
            rintro e w2 ⟨rfl, h2, h3⟩
            exact ⟨rfl, h2, h3⟩
          · rintro p L w1 w2 ⟨hsz, hB, m, gp, at_, h_x⟩ hk ⟨h2, h3⟩
            have L2 : L 2 = false := hk.1
            have L4 : L 4 = false := hk.2.2 4 rfl
            refine ⟨Nat.le_trans hsz h3.size, hB.trans (h3.below (Nat.le_trans hW0 hsz) (by omega)), ?_, gp.save h3 (by first | exact .inr out_gp | exact .inl out_gp | omega), at_.save h3 (by first | exact .inr out_at_ | exact .inl out_at_ | omega), fun hl => ⟨(h_x hl).1, (h_x hl).2.save h3 (.inr (Nat.lt_of_lt_of_le lt_m (h_x hl).1))⟩⟩
            rw [show upL L 2 2 = true from rfl]
            exact h2
        refine AllI.cons ?_ ?_
        · refine stepI_alloc 3 rfl (fun p => rfl) rfl (gnc (0, 0)) 130 (fun p => rfl) ?_ ?_
          · intro p w1
            go_simp
            first | done | rfl | rw [zero_gnc]
          rintro p L w1 ⟨hsz, hB, m, gp, at_, h_x⟩ hk
          have L2 : L 2 = true := hk.2.1 2 rfl
          have L4 : L 4 = false := hk.2.2 4 rfl
          refine ⟨Nat.le_trans hsz (by simp), hB.alloc (Nat.le_trans (by first | exact hW0 | (have := hB.size; simp at this ⊢; omega)) hsz) _, m.alloc _, gp.alloc _, at_.alloc _, fun _ => ⟨hsz, ?_⟩⟩
          rw [show upL L 3 4 = false from L4]
          exact blk.new _ _ _
        refine AllI.cons ?_ ?_
        · refine stepI_store 4 rfl (fun p => rfl) (fun p => rfl) _ _ _ rfl (fun p => p 3) 0 (fun p => rfl) (fun p => (gnc (gR n Lw g.1 k0 (-1) b0))) (fun p => rfl) (fun p => (gnc (0, 0))) (fun p => (gnc (gR n Lw g.1 k0 (-1) b0))) 130 (fun p => over_gnc _ _) (fun p => by first | (rw [gnc_size, gnc_size]; decide) | simp [gnc_size, gnc_size]) (fun p => by rw [gnc_size]; kernel_rfl) (fun p => gnc_one _) ?_ ?_
          · rintro p L w1 ⟨hsz, hB, m, gp, at_, h_x⟩ hk
            have L2 : L 2 = true := hk.2.1 2 rfl
            have L4 : L 4 = false := hk.1
            have hh := (h_x (hk.2.1 3 rfl)).2
            rw [L4] at hh
            try simp only [cond_true, cond_false] at hh
            exact hh
          · rintro p L w1 ⟨hsz, hB, m, gp, at_, h_x⟩ hk
            have L2 : L 2 = true := hk.2.1 2 rfl
            have L4 : L 4 = false := hk.1
            skip
            have hp := h_x (hk.2.1 3 rfl)
            refine ⟨(by simpa using hsz), Below.setRow hB (by first | exact Nat.le_trans hW0 hp.1 | exact ge_x | omega | (have := hB.size; simp at this ⊢; omega)) _, m.rowOther (.inr (Nat.lt_of_lt_of_le lt_m hp.1)) _, gp.rowOther (by first | exact Nat.ne_of_lt (Nat.lt_of_lt_of_le lt_gp hp.1) | omega) _, at_.rowOther (by first | exact Nat.ne_of_lt (Nat.lt_of_lt_of_le lt_at_ hp.1) | omega) _, fun _ => ⟨hp.1, ?_⟩⟩
            rw [show upL L 4 4 = true from rfl]
            exact hp.2.row _
        exact AllI.nil
      case hV0 =>
        intro p q
        refine AllI.cons ?_ ?_
        · skip
          iterate 5 (refine AllI.cons (by first | exact .inl rfl | (refine .inr ?_; simp only [List.getD_cons_zero, List.getD_cons_succ]; done) | exact .inr rfl) ?_)
          exact AllI.nil
        exact AllI.nil
      case he =>
      clear hB m gp at_
      rintro p w2rr ⟨hsz, hB, m, gp, at_, h_x⟩
      obtain ⟨le_x, x⟩ := h_x rfl
      clear h_x
      replace m : mpo (gR n Lw g.1) mb mb w2rr (Pa.cnt k0) := m
      replace x : blk w2rr (p 3) (gnc (gR n Lw g.1 k0 (-1) b0)) 130 := x
      have ne_m_x : mb ≠ p 3 := Nat.ne_of_lt (Nat.lt_of_lt_of_le lt_m le_x)
      have ne_gp_x : (mb + 1) ≠ p 3 := Nat.ne_of_lt (Nat.lt_of_lt_of_le lt_gp le_x)
      have ne_at__x : at__b ≠ p 3 := Nat.ne_of_lt (Nat.lt_of_lt_of_le lt_at_ le_x)
      have ge_x : w.heap.size ≤ p 3 := Nat.le_trans hW0 le_x
      have out_x : mb < p 3 := Nat.lt_of_lt_of_le lt_m le_x
      generalize p 3 = x_b at *
      clear lt_m
      clear lt_gp
      clear lt_at_
      clear hsz hW0
      clear RE0
      obtain ⟨i0, hi, hz0, hz1, hz2⟩ := info_parts Try.infoInt
      have hxa : at__b < x_b := Nat.lt_of_lt_of_le at_lt le_x
      go_wp2_with (fail)
      go_loopg [12, 13] k0 (fun g_ pv xv wr => ∃ (pl : List Nat) (v : Value) (last bud : Int) (xb tb N : Nat), v = pv ∧ xv = .pointer (some ⟨xb, 0, none⟩) ∧ Hid (Pln n Lw g.1 k0 b0 pl last g_ bud) ∧ Hid (N + 3 * Pa.cnt g_ ≤ 4 * Pa.cnt k0) ∧ at__b ≤ tb ∧ tb < xb ∧ blk wr (mb + 1) (plc (.slice a n c, g.1, mb)) 126 ∧ mpo (gR n Lw g.1) mb mb wr (N) ∧ blk wr at__b (ptc (last, (g_ : Int), bud)) 128 ∧ blk wr xb (gnc (gR n Lw g.1 g_ last bud)) 130 ∧ rowo (at__b + 1) tb wr (v, pl) ∧ Below w.heap.size w wr)
      case atStart => exact ⟨[], _, -1, b0, x_b, at__b, Pa.cnt k0, rfl, rfl, Pln.start hbz.out.1, (by show _ ≤ _; omega), Nat.le_refl _, hxa, gp, m, at_, x, ⟨World.ownsRow_nil _ _ _ _, fun k hk => by simp [Value.ownBlock] at hk, at_.lt⟩, hB⟩
      case round =>
        clear gp m at_ x hB hxa le_x ge_x ne_gp_x ne_m_x ne_at__x out_x
        obtain ⟨pl, v, last, bud, xb, tb, N, rfl, rfl, hP, hN, hab, htx, gp, m, at_, x, pv, hB⟩ := hrel
        have hxs := x.lt
        by_cases hp : 0 < (gR n Lw g.1 gk last bud).2
        · obtain ⟨k, rfl, ih, hih, hnx, haf⟩ := gR_hit hp
          have cx1 : wr.cell? ⟨xb, 1, none⟩ = some (.int .i64 (gR n Lw g.1 (k + 1) last bud).2) := x.cellIs rfl
          have dp : decide (0 < (gR n Lw g.1 (k + 1) last bud).2) = true := decide_eq_true hp
          replace hnx := Lib.hid hnx
          replace haf := Lib.hid haf
          have hk12' : k + 1 ≤ 12 := by have := hP.out.le; omega
          have hbu := hP.out.bu
          have hbb : bud ≤ 1000 := by have h1 := hP.out.co; have h2 := sum0 hW.out hP.out.ch; have := hbz.out; omega
          have hlr := hP.out.r
          have e1 : ((k + 1 : Nat) : Int) - 1 = (k : Int) := by omega
          have NX := Lib.hid (fun j (hj : j < n) w1 x1 x2 => next_yn Lw g.1 a n c (mb + 1) mb last ((k + 1 : Nat) : Int) bud j w1 x1 x2 hW.out hg1.out (by omega) (by omega) hlr.2 hj (by omega))
          have AF := Lib.hid (fun j (hj : j < n) (N2 : Nat) w1 x1 x2 x3 (hN2 : N2 + Pa.cnt k ≤ maxLen) (hb2 : 0 ≤ bud - Lw j 4) => after_any Lw g.1 a n c (mb + 1) mb k (bud - Lw j 4) j N2 w1 x1 x2 x3 hW.out hN2 (by omega) (by have := (hW.out.c j hj).1; omega) hj (by omega) (by omega) (RC.out k (by omega)))
          replace e1 := Lib.hid e1
          clear hp
          generalize hGG : gR n Lw g.1 (k + 1) last bud = GG at *
          replace hGG := Lib.hid hGG
          have hcn : Pa.cnt (k + 1) = 1 + 12 * Pa.cnt k := rfl
          replace hcn := Lib.hid hcn
          go_wp2_with (fail)
          clear cx1 dp
          go_loopg [12, 61] n (fun h_ pv iv wr => v = pv ∧ ∃ (j N2 : Nat), h_ + j = n ∧ iv = .int .i64 (j : Int) ∧ Hid (∀ i, i < j → ¬ (nOk Lw g.1 last ((k + 1 : Nat) : Int) bud i = true ∧ aft Lw (gR n Lw g.1 k i (bud - Lw i 4)) i = GG)) ∧ Hid (N2 = N + j * Pa.cnt k) ∧ blk wr (mb + 1) (plc (.slice a n c, g.1, mb)) 126 ∧ mpo (gR n Lw g.1) mb mb wr (N2) ∧ blk wr at__b (ptc (last, ((k + 1 : Nat) : Int), bud)) 128 ∧ blk wr xb (gnc GG) 130 ∧ rowo (at__b + 1) tb wr (v, pl) ∧ Below w.heap.size w wr)
          case atStart => exact ⟨rfl, 0, N, by omega, rfl, fun i hi => absurd hi (by omega), (by show _ = _; omega), gp, m, at_, x, pv, hB⟩
          case round =>
            clear gp m at_ x pv hB
            obtain ⟨rfl, j, N2, hj, rfl, hno, hN2, gp, m, at_, x, pv, hB⟩ := hrel
            by_cases hjn : j < n
            · have hdj : decide ((j : Int) < n) = true := decide_eq_true (by omega)
              have hdj' : decide (j < n) = true := decide_eq_true hjn
              have hj3 : (j : Int) < n := by omega
              have hj0 : (0 : Int) ≤ j := by omega
              have hwj : IntKind.i64.wrap ((j : Int) + 1) = ((j + 1 : Nat) : Int) := by rw [IntKind.wrap_i64]; omega
              have NJ := Lib.hid (fun w1 x1 x2 => NX.out j hjn w1 x1 x2)
              have hNm : N2 + 13 * Pa.cnt k ≤ 4 * Pa.cnt k0 := nar hN2.out hN.out hcn.out hjn hn
              replace hNm := Lib.hid hNm
              have hNs : Hid (N2 + Pa.cnt k = N + (j + 1) * Pa.cnt k) := by have := hN2.out; show _ = _; rw [Nat.succ_mul]; omega
              generalize hoj : nOk Lw g.1 last ((k + 1 : Nat) : Int) bud j = oj at *
              replace hoj := Lib.hid hoj
              rcases oj
              case false =>
                simp only [Bool.false_eq_true, if_false] at NJ
                go_upto_region 19 with (fail)
                have lt_gp := gp.lt
                have lt_m := m.lt
                have lt_at_ := at_.lt
                have lt_x := x.lt
                have lt_pv := pv.lt
                have hW0 : w.heap.size ≤ wr.heap.size := by have := hB.size; first | exact this | simpa using this
                apply wp_region_Q 10 [0, 1, 3, 7, 15, 31, 63, 127, 255, 511] [7] [_, _, _, _, _, _, _, (fun p => .pointer (some ⟨p 7, 0, none⟩)), (fun _ => undef), _] (fun p L w' => wr.heap.size ≤ w'.heap.size ∧ Below w.heap.size w w' ∧ blk w' (mb + 1) (plc (.slice a n c, g.1, mb)) 126 ∧ mpo (gR n Lw g.1) mb mb w' (N2) ∧ blk w' at__b (ptc (last, ((k + 1 : Nat) : Int), bud)) 128 ∧ blk w' xb (gnc GG) 130 ∧ rowo (at__b + 1) tb w' ((v, pl)) ∧ (L 7 = true → wr.heap.size ≤ p 7 ∧ blk w' (p 7) (bif L 8 then (ptc (last, ((k + 1 : Nat) : Int), bud)) else (ptc (0, 0, 0))) 128)) _ [(0, 65), (1, 66), (2, 67), (3, 68), (4, 64), (5, 69), (6, 70), (7, 15), (9, 16)] [0, 1, 2, 3, 4, 5, 6, 7, 8, 9]
                case hn => rfl
                case hB => kernel_rfl
                case hds => kernel_rfl
                case hA => (intro p; simp only [putsD, Act.put, List.setIfInBounds_toArray, List.set_cons_zero, List.set_cons_succ, List.getD_cons_zero, List.getD_cons_succ]; exact rfl)
                case h0 => exact fun p => ⟨Nat.le_refl _, hB, gp, m, at_, x, pv, fun h => absurd h (by decide)⟩
                case hmore => exact fun p L w1 w2 ⟨hsz, hB, gp, m, at_, x, pv, h_y⟩ hm => ⟨Nat.le_trans hsz hm.size, hB.trans (hm.mono (Nat.le_trans hW0 hsz)), gp.below hm gp.lt, m.below hm m.lt, at_.below hm at_.lt, x.below hm x.lt, pv.below hm pv.lt, fun hl => ⟨(h_y hl).1, (h_y hl).2.below hm (h_y hl).2.lt⟩⟩
                case hs =>
                  intro more
                  refine stepV _ rfl rfl (fun _ _ _ h => h) (by intros; go_simp; exact ⟨rfl, rfl⟩) ?_
                  refine stepV 1 rfl rfl (fun _ _ _ h => h) ?_ ?_
                  · rintro p L w1 ⟨hsz, hB, gp, m, at_, x, pv, h_y⟩ hk
                    have L8 : L 8 = false := hk.2.2 8 rfl
                    first | exact valR_row _ _ rfl _ rfl _ _ at_ _ Try.underlying128 rfl (by first | kernel_rfl | (rw [ptc_size]; kernel_rfl)) rfl | (have hc := at_.cellIs (show _[0]? = some _ from rfl); go_simp; exact ⟨rfl, rfl⟩)
                  refine stepV _ rfl rfl (fun _ _ _ h => h) (by intros; go_simp; exact ⟨rfl, rfl⟩) ?_
                  refine stepD 3 rfl (fun p => rfl) (fun _ _ _ h => h) more ?_ ?_
                  · rintro p L w1 ⟨hsz, hB, gp, m, at_, x, pv, h_y⟩ hk
                    have L8 : L 8 = false := hk.2.2 8 rfl
                    go_simp
                    refine (NJ.out _ gp (ElsN.of el.out hmw hB)).mono ?_
                    rintro e w2 ⟨rfl, h2⟩
                    first | exact ⟨rfl, h2⟩ | (subst h2; exact ⟨rfl, Below.refl _ _⟩)
                  iterate 3 (refine stepV _ rfl rfl (fun _ _ _ h => h) (by intros; go_simp; exact ⟨rfl, rfl⟩) ?_)
                  refine AllI.cons ?_ ?_
                  · refine stepI_alloc 7 rfl (fun p => rfl) rfl (ptc (0, 0, 0)) 128 (fun p => rfl) ?_ ?_
                    · intro p w1
                      go_simp
                      first | done | rfl | rw [zero_ptc]
                    rintro p L w1 ⟨hsz, hB, gp, m, at_, x, pv, h_y⟩ hk
                    have L8 : L 8 = false := hk.2.2 8 rfl
                    refine ⟨Nat.le_trans hsz (by simp), hB.alloc (Nat.le_trans (by first | exact hW0 | (have := hB.size; simp at this ⊢; omega)) hsz) _, gp.alloc _, m.alloc _, at_.alloc _, x.alloc _, pv.alloc _, fun _ => ⟨hsz, ?_⟩⟩
                    rw [show upL L 7 8 = false from L8]
                    exact blk.new _ _ _
                  refine AllI.cons ?_ ?_
                  · refine stepI_store 8 rfl (fun p => rfl) (fun p => rfl) _ _ _ rfl (fun p => p 7) 0 (fun p => rfl) (fun p => (ptc (last, ((k + 1 : Nat) : Int), bud))) (fun p => rfl) (fun p => (ptc (0, 0, 0))) (fun p => (ptc (last, ((k + 1 : Nat) : Int), bud))) 128 (fun p => over_ptc _ _) (fun p => by first | (rw [ptc_size, ptc_size]; decide) | simp [ptc_size, ptc_size]) (fun p => by rw [ptc_size]; kernel_rfl) (fun p => ptc_one _) ?_ ?_
                    · rintro p L w1 ⟨hsz, hB, gp, m, at_, x, pv, h_y⟩ hk
                      have L8 : L 8 = false := hk.1
                      have hh := (h_y (hk.2.1 7 rfl)).2
                      rw [L8] at hh
                      try simp only [cond_true, cond_false] at hh
                      exact hh
                    · rintro p L w1 ⟨hsz, hB, gp, m, at_, x, pv, h_y⟩ hk
                      have L8 : L 8 = false := hk.1
                      skip
                      have hp := h_y (hk.2.1 7 rfl)
                      refine ⟨(by simpa using hsz), Below.setRow hB (by first | exact Nat.le_trans hW0 hp.1 | exact ge_y | omega | (have := hB.size; simp at this ⊢; omega)) _, gp.rowOther (by first | exact Nat.ne_of_lt (Nat.lt_of_lt_of_le lt_gp hp.1) | omega) _, m.rowOther (.inr (Nat.lt_of_lt_of_le lt_m hp.1)) _, at_.rowOther (by first | exact Nat.ne_of_lt (Nat.lt_of_lt_of_le lt_at_ hp.1) | omega) _, x.rowOther (by first | exact Nat.ne_of_lt (Nat.lt_of_lt_of_le lt_x hp.1) | omega) _, pv.rowOther (.inr (Nat.lt_of_lt_of_le lt_pv hp.1)) _, fun _ => ⟨hp.1, ?_⟩⟩
                      rw [show upL L 8 8 = true from rfl]
                      exact hp.2.row _
                  refine stepV _ rfl rfl (fun _ _ _ h => h) (by intros; go_simp; exact ⟨rfl, rfl⟩) ?_
                  exact AllI.nil
                case hV0 =>
                  intro p q
                  refine AllI.cons ?_ ?_
                  · skip
                    iterate 10 (refine AllI.cons (by first | exact .inl rfl | (refine .inr ?_; simp only [List.getD_cons_zero, List.getD_cons_succ]; done) | exact .inr rfl) ?_)
                    exact AllI.nil
                  exact AllI.nil
                case he =>
                clear hB gp m at_ x pv
                rintro p wrr ⟨hsz, hB, gp, m, at_, x, pv, h_y⟩
                obtain ⟨le_y, y⟩ := h_y rfl
                clear h_y
                replace y : blk wrr (p 7) (ptc (last, ((k + 1 : Nat) : Int), bud)) 128 := y
                have ne_gp_y : (mb + 1) ≠ p 7 := Nat.ne_of_lt (Nat.lt_of_lt_of_le lt_gp le_y)
                have ne_m_y : mb ≠ p 7 := Nat.ne_of_lt (Nat.lt_of_lt_of_le lt_m le_y)
                have ne_at__y : at__b ≠ p 7 := Nat.ne_of_lt (Nat.lt_of_lt_of_le lt_at_ le_y)
                have ne_x_y : xb ≠ p 7 := Nat.ne_of_lt (Nat.lt_of_lt_of_le lt_x le_y)
                have ne_pv_y : tb ≠ p 7 := Nat.ne_of_lt (Nat.lt_of_lt_of_le lt_pv le_y)
                have ge_y : w.heap.size ≤ p 7 := Nat.le_trans hW0 le_y
                have out_y : mb < p 7 := Nat.lt_of_lt_of_le lt_m le_y
                have out_y : tb < p 7 := Nat.lt_of_lt_of_le lt_pv le_y
                generalize p 7 = y_b at *
                clear lt_gp
                clear lt_m
                clear lt_at_
                clear lt_x
                clear lt_pv
                clear hsz hW0
                clear NJ
                go_upto_region 20 with (fail)
                have lt_gp := gp.lt
                have lt_m := m.lt
                have lt_at_ := at_.lt
                have lt_x := x.lt
                have lt_pv := pv.lt
                have lt_y := y.lt
                have hW0 : w.heap.size ≤ wrr.heap.size := by have := hB.size; first | exact this | simpa using this
                apply wp_region_I 8 [0, 1, 3, 3, 15, 3, 63, 127] [] [_, _, _, _, _, _, _, _] (fun p L w' => wrr.heap.size ≤ w'.heap.size ∧ Below w.heap.size w w' ∧ blk w' (mb + 1) (plc (.slice a n c, g.1, mb)) 126 ∧ mpo (gR n Lw g.1) mb mb w' (N2) ∧ blk w' at__b (ptc (last, ((k + 1 : Nat) : Int), bud)) 128 ∧ blk w' xb (gnc GG) 130 ∧ rowo (at__b + 1) tb w' ((v, pl)) ∧ blk w' y_b (ptc (last, ((k + 1 : Nat) : Int), bud)) 128) _ [(0, 71), (1, 72), (2, 73), (3, 74), (4, 75), (5, 76), (6, 77), (7, 78)] [0, 1, 2, 3, 4, 5, 6, 7]
                case hn => rfl
                case hm => kernel_rfl
                case hB => kernel_rfl
                case hds => kernel_rfl
                case hA => (intro p; simp only [putsD, Act.put, List.setIfInBounds_toArray, List.set_cons_zero, List.set_cons_succ, List.getD_cons_zero, List.getD_cons_succ]; exact rfl)
                case h0 => exact fun p => ⟨Nat.le_refl _, hB.drew, gp.drew, m.drew, at_.drew, x.drew, pv.drew, y.drew⟩
                case hmore => exact fun p L w1 w2 ⟨hsz, hB, gp, m, at_, x, pv, y⟩ hm => ⟨Nat.le_trans hsz hm.size, hB.trans (hm.mono (Nat.le_trans hW0 hsz)), gp.below hm gp.lt, m.below hm m.lt, at_.below hm at_.lt, x.below hm x.lt, pv.below hm pv.lt, y.below hm y.lt⟩
                case hs =>
                  intro more
                  iterate 2 (refine stepV _ rfl rfl (fun _ _ _ h => h) (by intros; go_simp; exact ⟨rfl, rfl⟩) ?_)
                  iterate 5 (refine AllI.cons (stepI_off _ rfl (fun p => rfl) (fun p => rfl) (fun _ _ _ h => h)) ?_)
                  refine stepV _ rfl rfl (fun _ _ _ h => h) (by intros; go_simp; exact ⟨rfl, rfl⟩) ?_
                  exact AllI.nil
                case hV0 => exact fun p q => AllI.nil
                case he =>
                clear hB gp m at_ x pv y
                rintro p wrrr ⟨hsz, hB, gp, m, at_, x, pv, y⟩
                clear lt_gp
                clear lt_m
                clear lt_at_
                clear lt_x
                clear lt_pv
                clear lt_y
                clear hsz hW0
                go_wp2_with (fail)
                have m := m.mono (show N2 ≤ N2 + Pa.cnt k by omega)
                go_roundg (n - (j + 1))
                case rel => exact ⟨rfl, j + 1, N2 + Pa.cnt k, by omega, rfl, fun i hi => (by by_cases h : i = j; (· subst h; rw [hoj.out]; exact fun h => by cases h.1); exact hno.out i (by omega)), hNs, gp, m, at_, x, pv, hB⟩
                case measure => omega
              case true =>
                rw [e1.out] at NJ
                simp only [if_true] at NJ
                go_upto_region 19 with (fail)
                have lt_gp := gp.lt
                have lt_m := m.lt
                have lt_at_ := at_.lt
                have lt_x := x.lt
                have lt_pv := pv.lt
                have hW0 : w.heap.size ≤ wr.heap.size := by have := hB.size; first | exact this | simpa using this
                apply wp_region_Q 10 [0, 1, 3, 7, 15, 31, 63, 127, 255, 511] [7] [_, _, _, _, _, _, _, (fun p => .pointer (some ⟨p 7, 0, none⟩)), (fun _ => undef), _] (fun p L w' => wr.heap.size ≤ w'.heap.size ∧ Below w.heap.size w w' ∧ blk w' (mb + 1) (plc (.slice a n c, g.1, mb)) 126 ∧ mpo (gR n Lw g.1) mb mb w' (N2) ∧ blk w' at__b (ptc (last, ((k + 1 : Nat) : Int), bud)) 128 ∧ blk w' xb (gnc GG) 130 ∧ rowo (at__b + 1) tb w' ((v, pl)) ∧ (L 7 = true → wr.heap.size ≤ p 7 ∧ blk w' (p 7) (bif L 8 then (ptc ((j : Int), (k : Int), bud - Lw j 4)) else (ptc (0, 0, 0))) 128)) _ [(0, 65), (1, 66), (2, 67), (3, 68), (4, 64), (5, 69), (6, 70), (7, 15), (9, 16)] [0, 1, 2, 3, 4, 5, 6, 7, 8, 9]
                case hn => rfl
                case hB => kernel_rfl
                case hds => kernel_rfl
                case hA => (intro p; simp only [putsD, Act.put, List.setIfInBounds_toArray, List.set_cons_zero, List.set_cons_succ, List.getD_cons_zero, List.getD_cons_succ]; exact rfl)
                case h0 => exact fun p => ⟨Nat.le_refl _, hB, gp, m, at_, x, pv, fun h => absurd h (by decide)⟩
                case hmore => exact fun p L w1 w2 ⟨hsz, hB, gp, m, at_, x, pv, h_y⟩ hm => ⟨Nat.le_trans hsz hm.size, hB.trans (hm.mono (Nat.le_trans hW0 hsz)), gp.below hm gp.lt, m.below hm m.lt, at_.below hm at_.lt, x.below hm x.lt, pv.below hm pv.lt, fun hl => ⟨(h_y hl).1, (h_y hl).2.below hm (h_y hl).2.lt⟩⟩
                case hs =>
                  intro more
                  refine stepV _ rfl rfl (fun _ _ _ h => h) (by intros; go_simp; exact ⟨rfl, rfl⟩) ?_
                  refine stepV 1 rfl rfl (fun _ _ _ h => h) ?_ ?_
                  · rintro p L w1 ⟨hsz, hB, gp, m, at_, x, pv, h_y⟩ hk
                    have L8 : L 8 = false := hk.2.2 8 rfl
                    first | exact valR_row _ _ rfl _ rfl _ _ at_ _ Try.underlying128 rfl (by first | kernel_rfl | (rw [ptc_size]; kernel_rfl)) rfl | (have hc := at_.cellIs (show _[0]? = some _ from rfl); go_simp; exact ⟨rfl, rfl⟩)
                  refine stepV _ rfl rfl (fun _ _ _ h => h) (by intros; go_simp; exact ⟨rfl, rfl⟩) ?_
                  refine stepD 3 rfl (fun p => rfl) (fun _ _ _ h => h) more ?_ ?_
                  · rintro p L w1 ⟨hsz, hB, gp, m, at_, x, pv, h_y⟩ hk
                    have L8 : L 8 = false := hk.2.2 8 rfl
                    go_simp
                    refine (NJ.out _ gp (ElsN.of el.out hmw hB)).mono ?_
                    rintro e w2 ⟨rfl, h2⟩
                    first | exact ⟨rfl, h2⟩ | (subst h2; exact ⟨rfl, Below.refl _ _⟩)
                  iterate 3 (refine stepV _ rfl rfl (fun _ _ _ h => h) (by intros; go_simp; exact ⟨rfl, rfl⟩) ?_)
                  refine AllI.cons ?_ ?_
                  · refine stepI_alloc 7 rfl (fun p => rfl) rfl (ptc (0, 0, 0)) 128 (fun p => rfl) ?_ ?_
                    · intro p w1
                      go_simp
                      first | done | rfl | rw [zero_ptc]
                    rintro p L w1 ⟨hsz, hB, gp, m, at_, x, pv, h_y⟩ hk
                    have L8 : L 8 = false := hk.2.2 8 rfl
                    refine ⟨Nat.le_trans hsz (by simp), hB.alloc (Nat.le_trans (by first | exact hW0 | (have := hB.size; simp at this ⊢; omega)) hsz) _, gp.alloc _, m.alloc _, at_.alloc _, x.alloc _, pv.alloc _, fun _ => ⟨hsz, ?_⟩⟩
                    rw [show upL L 7 8 = false from L8]
                    exact blk.new _ _ _
                  refine AllI.cons ?_ ?_
                  · refine stepI_store 8 rfl (fun p => rfl) (fun p => rfl) _ _ _ rfl (fun p => p 7) 0 (fun p => rfl) (fun p => (ptc ((j : Int), (k : Int), bud - Lw j 4))) (fun p => rfl) (fun p => (ptc (0, 0, 0))) (fun p => (ptc ((j : Int), (k : Int), bud - Lw j 4))) 128 (fun p => over_ptc _ _) (fun p => by first | (rw [ptc_size, ptc_size]; decide) | simp [ptc_size, ptc_size]) (fun p => by rw [ptc_size]; kernel_rfl) (fun p => ptc_one _) ?_ ?_
                    · rintro p L w1 ⟨hsz, hB, gp, m, at_, x, pv, h_y⟩ hk
                      have L8 : L 8 = false := hk.1
                      have hh := (h_y (hk.2.1 7 rfl)).2
                      rw [L8] at hh
                      try simp only [cond_true, cond_false] at hh
                      exact hh
                    · rintro p L w1 ⟨hsz, hB, gp, m, at_, x, pv, h_y⟩ hk
                      have L8 : L 8 = false := hk.1
                      skip
                      have hp := h_y (hk.2.1 7 rfl)
                      refine ⟨(by simpa using hsz), Below.setRow hB (by first | exact Nat.le_trans hW0 hp.1 | exact ge_y | omega | (have := hB.size; simp at this ⊢; omega)) _, gp.rowOther (by first | exact Nat.ne_of_lt (Nat.lt_of_lt_of_le lt_gp hp.1) | omega) _, m.rowOther (.inr (Nat.lt_of_lt_of_le lt_m hp.1)) _, at_.rowOther (by first | exact Nat.ne_of_lt (Nat.lt_of_lt_of_le lt_at_ hp.1) | omega) _, x.rowOther (by first | exact Nat.ne_of_lt (Nat.lt_of_lt_of_le lt_x hp.1) | omega) _, pv.rowOther (.inr (Nat.lt_of_lt_of_le lt_pv hp.1)) _, fun _ => ⟨hp.1, ?_⟩⟩
                      rw [show upL L 8 8 = true from rfl]
                      exact hp.2.row _
                  refine stepV _ rfl rfl (fun _ _ _ h => h) (by intros; go_simp; exact ⟨rfl, rfl⟩) ?_
                  exact AllI.nil
                case hV0 =>
                  intro p q
                  refine AllI.cons ?_ ?_
                  · skip
                    iterate 10 (refine AllI.cons (by first | exact .inl rfl | (refine .inr ?_; simp only [List.getD_cons_zero, List.getD_cons_succ]; done) | exact .inr rfl) ?_)
                    exact AllI.nil
                  exact AllI.nil
                case he =>
                clear hB gp m at_ x pv
                rintro p wrr ⟨hsz, hB, gp, m, at_, x, pv, h_y⟩
                obtain ⟨le_y, y⟩ := h_y rfl
                clear h_y
                replace y : blk wrr (p 7) (ptc ((j : Int), (k : Int), bud - Lw j 4)) 128 := y
                have ne_gp_y : (mb + 1) ≠ p 7 := Nat.ne_of_lt (Nat.lt_of_lt_of_le lt_gp le_y)
                have ne_m_y : mb ≠ p 7 := Nat.ne_of_lt (Nat.lt_of_lt_of_le lt_m le_y)
                have ne_at__y : at__b ≠ p 7 := Nat.ne_of_lt (Nat.lt_of_lt_of_le lt_at_ le_y)
                have ne_x_y : xb ≠ p 7 := Nat.ne_of_lt (Nat.lt_of_lt_of_le lt_x le_y)
                have ne_pv_y : tb ≠ p 7 := Nat.ne_of_lt (Nat.lt_of_lt_of_le lt_pv le_y)
                have ge_y : w.heap.size ≤ p 7 := Nat.le_trans hW0 le_y
                have out_y : mb < p 7 := Nat.lt_of_lt_of_le lt_m le_y
                have out_y : tb < p 7 := Nat.lt_of_lt_of_le lt_pv le_y
                generalize p 7 = y_b at *
                clear lt_gp
                clear lt_m
                clear lt_at_
                clear lt_x
                clear lt_pv
                clear hsz hW0
                clear NJ
                go_upto_region 20 with (fail)
                have hok : nxB Lw g.1 last bud j = true := by have := hoj.out; rw [nOk_ne] at this; exact this
                have hcj : 0 ≤ bud - Lw j 4 := by unfold nxB at hok; rw [Bool.and_eq_true] at hok; have := of_decide_eq_true hok.1; omega
                have AJ := Lib.hid (fun w1 x1 x2 x3 => AF.out j hjn N2 w1 x1 x2 x3 (by have := hNm.out; have := hcm.out; omega) hcj)
                generalize hAj : aft Lw (gR n Lw g.1 k j (bud - Lw j 4)) j = Aj at *
                replace hAj := Lib.hid hAj
                have EQ := Lib.hid (fun w1 => gn_eq Aj GG w1)
                generalize hq : (Aj.1 == GG.1 && Aj.2 == GG.2) = q at *
                replace hq := Lib.hid hq
                have EQ2 := EQ.out
                have lt_gp := gp.lt
                have lt_m := m.lt
                have lt_at_ := at_.lt
                have lt_x := x.lt
                have lt_pv := pv.lt
                have lt_y := y.lt
                have hW0 : w.heap.size ≤ wrr.heap.size := by have := hB.size; first | exact this | simpa using this
                apply wp_region_I 8 [0, 1, 3, 3, 15, 3, 63, 127] [] [_, _, _, _, _, _, _, _] (fun p L w' => wrr.heap.size ≤ w'.heap.size ∧ Below w.heap.size w w' ∧ blk w' (mb + 1) (plc (.slice a n c, g.1, mb)) 126 ∧ mpo (gR n Lw g.1) mb mb w' (bif L 4 then (N2 + Pa.cnt k) else (N2)) ∧ blk w' at__b (ptc (last, ((k + 1 : Nat) : Int), bud)) 128 ∧ blk w' xb (gnc GG) 130 ∧ rowo (at__b + 1) tb w' ((v, pl)) ∧ blk w' y_b (ptc ((j : Int), (k : Int), bud - Lw j 4)) 128) _ [(0, 71), (1, 72), (2, 73), (3, 74), (4, 75), (5, 76), (6, 77), (7, 78)] [0, 1, 2, 3, 4, 5, 6, 7]
                case hn => rfl
                case hm => kernel_rfl
                case hB => kernel_rfl
                case hds => kernel_rfl
                case hA => (intro p; simp only [putsD, Act.put, List.setIfInBounds_toArray, List.set_cons_zero, List.set_cons_succ, List.getD_cons_zero, List.getD_cons_succ]; exact rfl)
                case h0 => exact fun p => ⟨Nat.le_refl _, hB.drew, gp.drew, m.drew, at_.drew, x.drew, pv.drew, y.drew⟩
                case hmore => exact fun p L w1 w2 ⟨hsz, hB, gp, m, at_, x, pv, y⟩ hm => ⟨Nat.le_trans hsz hm.size, hB.trans (hm.mono (Nat.le_trans hW0 hsz)), gp.below hm gp.lt, m.below hm m.lt, at_.below hm at_.lt, x.below hm x.lt, pv.below hm pv.lt, y.below hm y.lt⟩
                case hs =>
                  intro more
                  iterate 2 (refine stepV _ rfl rfl (fun _ _ _ h => h) (by intros; go_simp; exact ⟨rfl, rfl⟩) ?_)
                  refine stepVg _ rfl (fun p => (by first | rfl | (simp [Region.wanted, yielded]; done))) (fun _ _ _ h => h) (by intros; go_simp; exact ⟨rfl, rfl⟩) ?_
                  refine stepVg 3 rfl (fun p => (by first | rfl | (simp [Region.wanted, yielded]; done))) (fun _ _ _ h => h) ?_ ?_
                  · rintro p L w1 ⟨hsz, hB, gp, m, at_, x, pv, y⟩ hk
                    have L4 : L 4 = false := hk.2.2 4 rfl
                    first | exact valR_row _ _ rfl _ rfl _ _ y _ Try.underlying128 rfl (by first | kernel_rfl | (rw [ptc_size]; kernel_rfl)) rfl | (have hc := y.cellIs (show _[0]? = some _ from rfl); go_simp; exact ⟨rfl, rfl⟩)
                  refine AllI.cons ?_ ?_
                  · refine stepI_rel 4 rfl (fun p => (by first | rfl | (simp [Region.wanted, yielded]; done))) (fun p w1 w2 => mpo (gR n Lw g.1) mb mb w2 (N2 + Pa.cnt k) ∧ Save mb mb w1 w2) ?_ ?_
                    · rintro p L w1 ⟨hsz, hB, gp, m, at_, x, pv, y⟩ hk
                      have L4 : L 4 = false := hk.1
                      rw [L4] at m
                      try simp only [cond_true, cond_false] at m
                      go_simp
                      refine (AJ.out _ gp (ElsN.of el.out hmw hB) m).mono ?_
                      rintro e w2 ⟨rfl, h2, h3⟩
                      exact ⟨rfl, h2, h3⟩
                    · rintro p L w1 w2 ⟨hsz, hB, gp, m, at_, x, pv, y⟩ hk ⟨h2, h3⟩
                      have L4 : L 4 = false := hk.1
                      refine ⟨Nat.le_trans hsz h3.size, hB.trans (h3.below (Nat.le_trans hW0 hsz) (by omega)), gp.save h3 (by first | exact .inr out_gp | exact .inl out_gp | omega), ?_, at_.save h3 (by first | exact .inr out_at_ | exact .inl out_at_ | omega), x.save h3 (by first | exact .inr out_x | exact .inl out_x | omega), pv.save h3 (by first | exact .inr out_pv | exact .inl out_pv | omega), y.save h3 (by first | exact .inr out_y | exact .inl out_y | omega)⟩
                      rw [show upL L 4 4 = true from rfl]
                      exact h2
                  refine stepVg 5 rfl (fun p => (by first | rfl | (simp [Region.wanted, yielded]; done))) (fun _ _ _ h => h) ?_ ?_
                  · rintro p L w1 ⟨hsz, hB, gp, m, at_, x, pv, y⟩ hk
                    first | exact valR_row _ _ rfl _ rfl _ _ x _ Try.underlying130 rfl (by first | kernel_rfl | (rw [gnc_size]; kernel_rfl)) rfl | (have hc := x.cellIs (show _[0]? = some _ from rfl); go_simp; exact ⟨rfl, rfl⟩)
                  refine stepVg _ rfl (fun p => (by first | rfl | (simp [Region.wanted, yielded]; done))) (fun _ _ _ h => h) (by intros; go_simp; exact ⟨rfl, rfl⟩) ?_
                  refine stepV _ rfl rfl (fun _ _ _ h => h) (by intros; go_simp; exact ⟨rfl, rfl⟩) ?_
                  exact AllI.nil
                case hV0 => exact fun p q => AllI.nil
                case he =>
                clear hB gp m at_ x pv y
                rintro p wrrr ⟨hsz, hB, gp, m, at_, x, pv, y⟩
                replace m : mpo (gR n Lw g.1) mb mb wrrr (N2 + Pa.cnt k) := m
                clear lt_gp
                clear lt_m
                clear lt_at_
                clear lt_x
                clear lt_pv
                clear lt_y
                clear hsz hW0
                clear AJ EQ2 EQ
                cases q
                · skip
                  go_wp2_with (fail)
                  go_roundg (n - (j + 1))
                  case rel => exact ⟨rfl, j + 1, N2 + Pa.cnt k, by omega, rfl, fun i hi => (by by_cases h : i = j; (· subst h; rw [hAj.out]; intro h; rw [h.2] at hq; exact absurd hq.out (by simp)); exact hno.out i (by omega)), hNs, gp, m, at_, x, pv, hB⟩
                  case measure => omega
                · have hAG : Aj = GG := by have := hq.out; simp only [Bool.and_eq_true, beq_iff_eq] at this; exact Prod.ext this.1 this.2
                  have hPs : Hid (Pln n Lw g.1 k0 b0 (pl ++ [j]) (j : Int) k (bud - Lw j 4)) := hP.out.step hjn hok (by rw [hAj.out, hAG, hGG.out])
                  have hq1 : N2 + Pa.cnt k + Pa.cnt k ≤ maxLen := by have := hNm.out; have := hcm.out; omega
                  have hq2 : (-1 : Int) ≤ (j : Int) ∧ (j : Int) < (n : Int) := by omega
                  have hq3 : 0 ≤ bud - Lw j 4 ∧ bud - Lw j 4 ≤ 1099511627776 := by have := (hW.out.c j hjn).1; omega
                  have RE1 := Lib.hid (fun (w1 : World) (x1 : blk w1 (mb + 1) (plc (.slice a n c, g.1, mb)) 126) (x2 : ElsN mb w1 a n 5 (fun k => (wnc (Lw k)).toList)) (x3 : mpo (gR n Lw g.1) mb mb w1 (N2 + Pa.cnt k)) => RC.out k (by omega) (j : Int) (bud - Lw j 4) w1 (N2 + Pa.cnt k) x1 x2 x3 hq1 hq2 hq3 hne1)
                  clear hq hAG hAj hno NX AF hoj hq1 hq2 hq3
                  have tlt := x.lt
                  have ylt := y.lt
                  have htm : tb < y_b := out_y
                  go_upto_region 21 with (fail)
                  refine wp_region_E 7 99 (fun w' => blk w' y_b (ptc ((j : Int), (k : Int), bud - Lw j 4)) 128) rfl (by kernel_rfl) ?_
                  replace gp := gp.drew
                  replace m := m.drew
                  replace at_ := at_.drew
                  replace x := x.drew
                  replace pv := pv.drew
                  replace y := y.drew
                  replace hB : Below w.heap.size w wrrr.drew := hB.drew
                  generalize wrrr.drew = wrrrd at *
                  apply wpE_take 0; (case ho' => exact rfl); (case hg => exact rfl); (case hB => kernel_rfl); (case hQ => exact fun _ _ _ h => h); (case hS => exact y); (case h => (rintro w1 y; go_simp; exact ⟨rfl, rfl⟩))
                  simp only [Act.put, List.setIfInBounds_toArray, List.set_cons_zero, List.set_cons_succ]
                  apply wpE_take 1; (case ho' => exact rfl); (case hg => exact rfl); (case hB => kernel_rfl); (case hQ => exact fun _ _ _ h => h); (case hS => exact y); (case h => (rintro w1 y; go_simp; exact ⟨rfl, rfl⟩))
                  simp only [Act.put, List.setIfInBounds_toArray, List.set_cons_zero, List.set_cons_succ]
                  apply wpE_take 4; (case ho' => exact rfl); (case hg => exact rfl); (case hB => kernel_rfl); (case hQ => exact fun _ _ _ h => h); (case hS => exact y); (case h => (rintro w1 y; first | exact valR_row _ _ rfl _ rfl _ _ y _ Try.underlying128 rfl (by first | kernel_rfl | (rw [ptc_size]; kernel_rfl)) rfl | (have hc := y.cellIs ((show _[0]? = some _ from rfl)); go_simp; exact ⟨rfl, rfl⟩)))
                  simp only [Act.put, List.setIfInBounds_toArray, List.set_cons_zero, List.set_cons_succ]
                  refine wpE_one 2 rfl (by kernel_rfl) ?_
                  go_wp2_with (fail)
                  have nbe : wrrrd.heap.size = wrrrd.heap.size := rfl
                  have hcn2 := cell_new wrrrd (.int .i64 (j : Int)) 3
                  have hBs := hB.size
                  replace hB := hB.alloc hB.size (.cells #[.int .i64 (j : Int)] 3)
                  replace gp := gp.alloc (.cells #[.int .i64 (j : Int)] 3)
                  replace m := m.alloc (.cells #[.int .i64 (j : Int)] 3)
                  replace at_ := at_.alloc (.cells #[.int .i64 (j : Int)] 3)
                  replace x := x.alloc (.cells #[.int .i64 (j : Int)] 3)
                  replace pv := pv.alloc (.cells #[.int .i64 (j : Int)] 3)
                  replace y := y.alloc (.cells #[.int .i64 (j : Int)] 3)
                  generalize (wrrrd.alloc (.cells #[.int .i64 (j : Int)] 3)) = wa at *
                  generalize wrrrd.heap.size = nb at *
                  refine Nh_ok ⟨fun _ => y, ?_⟩
                  try simp only [Act.put, List.setIfInBounds_toArray, List.set_cons_zero, List.set_cons_succ]
                  have hl63 : pl.length + 1 ≤ maxLen := by have := hP.out.le; unfold maxLen; omega
                  have hl56 : (pl.length + 1) * 8 ≤ 140737488355328 := by have := hP.out.le; omega
                  have hba : at__b + 1 ≤ wa.heap.size := by have := x.lt; omega
                  refine wpE_one 3 rfl (by kernel_rfl) ?_
                  go_wp2_with (at_builtin; refine wpList_append_own _ rfl _ _ 58 rfl (at__b + 1) 3 i0 (.int .i64 0) 1 8 Try.underlying58 hi hz0 hz1 hz2 rfl (by decide) _ _ _ rfl pv.1 ⟨nb, 0, none⟩ 1 1 [.int .i64 (j : Int)] rfl rfl hcn2 (by simp [Value.oneCell']) hl63 hl56 hba ?_; intro v' w5 hown' hgrow hnil)
                  have hS : Save (at__b + 1) tb wa w5 := Save.grown hgrow (fun k hk => ⟨(pv.1.lt k hk).1, pv.2.1 k hk⟩)
                  replace hB := hB.trans (hS.below hB.size (by omega))
                  replace gp := gp.save hS (by omega)
                  replace m := m.save hS (by omega)
                  replace at_ := at_.save hS (by omega)
                  replace x := x.save hS (by omega)
                  replace y := y.save hS (by omega)
                  have h5 := at_.lt
                  have pv2 : rowo (at__b + 1) (w5.heap.size - 1) w5 (v', pl ++ [j]) := ⟨by rw [plv_snoc, List.length_append]; exact hown', fun k hk => by have := (hown'.lt k hk).2; omega, by show _ - 1 < _; omega⟩
                  clear pv hown' hgrow hnil hS
                  refine Nh_ok ⟨fun _ => y, ?_⟩
                  try simp only [Act.put, List.setIfInBounds_toArray, List.set_cons_zero, List.set_cons_succ]
                  refine wpE_one 5 rfl (by kernel_rfl) ?_
                  go_wp2_with (fail)
                  refine Nh_ok ⟨fun _ => y, ?_⟩
                  try simp only [Act.put, List.setIfInBounds_toArray, List.set_cons_zero, List.set_cons_succ]
                  refine wpE_one 6 rfl (by kernel_rfl) ?_
                  go_wp2_with ((refine wpList_store_row rfl _ _ _ rfl _ rfl _ rfl _ _ at_ (by first | kernel_rfl | (rw [ptc_size]; kernel_rfl)) (by first | rfl | simp only [ptc_size]) (by first | exact ptc_one _ | rfl) ?_))
                  have htb5 : at__b ≤ w5.heap.size - 1 := by omega
                  replace hB := Below.setRow hB (show w.heap.size ≤ at__b by omega) (ptc ((j : Int), (k : Int), bud - Lw j 4))
                  replace gp := gp.rowOther (show mb + 1 ≠ at__b by omega) (ptc ((j : Int), (k : Int), bud - Lw j 4))
                  replace m := m.rowOther (g := at__b) (by omega) (ptc ((j : Int), (k : Int), bud - Lw j 4))
                  replace x := x.rowOther (show xb ≠ at__b by omega) (ptc ((j : Int), (k : Int), bud - Lw j 4))
                  replace y := y.rowOther (show y_b ≠ at__b by omega) (ptc ((j : Int), (k : Int), bud - Lw j 4))
                  replace pv2 := pv2.rowOther (g := at__b) (by omega) (ptc ((j : Int), (k : Int), bud - Lw j 4))
                  replace at_ := at_.row (ptc ((j : Int), (k : Int), bud - Lw j 4))
                  have hz6 : (w5.setRow at__b (ptc ((j : Int), (k : Int), bud - Lw j 4))).heap.size = w5.heap.size := by simp
                  generalize (w5.setRow at__b (ptc ((j : Int), (k : Int), bud - Lw j 4))) = w6 at *
                  rw [← hz6] at pv2 htb5
                  refine Nh_ok ⟨fun _ => y, ?_⟩
                  try simp only [Act.put, List.setIfInBounds_toArray, List.set_cons_zero, List.set_cons_succ]
                  refine wpE_end (by kernel_rfl) ?_
                  go_upto_region 24 with (first
                    | (refine wpList_load_rowG ?hw _ _ rfl _ rfl _ _ _ _ x Try.underlying130 rfl ?hi ?_; (case hw => (first | rfl | (simp [Region.wanted, yielded]; done))); (case hi => (first | kernel_rfl | (rw [gnc_size]; kernel_rfl)))))
                  obtain ⟨tc, htc⟩ : ∃ tc, tc = w6.heap.size - 1 := ⟨_, rfl⟩
                  rw [← htc] at pv2 htb5
                  clear y htc hz6
                  have lt_gp := gp.lt
                  have lt_m := m.lt
                  have lt_at_ := at_.lt
                  have lt_x := x.lt
                  have lt_pv2 := pv2.lt
                  have hW0 : w.heap.size ≤ w6.heap.size := by have := hB.size; first | exact this | simpa using this
                  apply wp_region_Q 2 [0, 1] [0] [(fun p => .pointer (some ⟨p 0, 0, none⟩)), (fun _ => undef)] (fun p L w' => w6.heap.size ≤ w'.heap.size ∧ Below w.heap.size w w' ∧ blk w' (mb + 1) (plc (.slice a n c, g.1, mb)) 126 ∧ mpo (gR n Lw g.1) mb mb w' (N2 + Pa.cnt k) ∧ blk w' at__b (ptc ((j : Int), (k : Int), bud - Lw j 4)) 128 ∧ blk w' xb (gnc GG) 130 ∧ rowo (at__b + 1) tc w' ((v', pl ++ [j])) ∧ (L 0 = true → w6.heap.size ≤ p 0 ∧ blk w' (p 0) (bif L 1 then (gnc GG) else (gnc (0, 0))) 130)) _ [(0, 13)] [0, 1]
                  case hn => rfl
                  case hB => kernel_rfl
                  case hds => kernel_rfl
                  case hA => (intro p; simp only [putsD, Act.put, List.setIfInBounds_toArray, List.set_cons_zero, List.set_cons_succ, List.getD_cons_zero, List.getD_cons_succ]; exact rfl)
                  case h0 => exact fun p => ⟨Nat.le_refl _, hB, gp, m, at_, x, pv2, fun h => absurd h (by decide)⟩
                  case hmore => exact fun p L w1 w2 ⟨hsz, hB, gp, m, at_, x, pv2, h_z⟩ hm => ⟨Nat.le_trans hsz hm.size, hB.trans (hm.mono (Nat.le_trans hW0 hsz)), gp.below hm gp.lt, m.below hm m.lt, at_.below hm at_.lt, x.below hm x.lt, pv2.below hm pv2.lt, fun hl => ⟨(h_z hl).1, (h_z hl).2.below hm (h_z hl).2.lt⟩⟩
                  case hs =>
                    intro more
                    refine AllI.cons ?_ ?_
                    · refine stepI_alloc 0 rfl (fun p => rfl) rfl (gnc (0, 0)) 130 (fun p => rfl) ?_ ?_
                      · intro p w1
                        go_simp
                        first | done | rfl | rw [zero_gnc]
                      rintro p L w1 ⟨hsz, hB, gp, m, at_, x, pv2, h_z⟩ hk
                      have L1 : L 1 = false := hk.2.2 1 rfl
                      refine ⟨Nat.le_trans hsz (by simp), hB.alloc (Nat.le_trans (by first | exact hW0 | (have := hB.size; simp at this ⊢; omega)) hsz) _, gp.alloc _, m.alloc _, at_.alloc _, x.alloc _, pv2.alloc _, fun _ => ⟨hsz, ?_⟩⟩
                      rw [show upL L 0 1 = false from L1]
                      exact blk.new _ _ _
                    refine AllI.cons ?_ ?_
                    · refine stepI_store 1 rfl (fun p => rfl) (fun p => rfl) _ _ _ rfl (fun p => p 0) 0 (fun p => rfl) (fun p => (gnc GG)) (fun p => rfl) (fun p => (gnc (0, 0))) (fun p => (gnc GG)) 130 (fun p => over_gnc _ _) (fun p => by first | (rw [gnc_size, gnc_size]; decide) | simp [gnc_size, gnc_size]) (fun p => by rw [gnc_size]; kernel_rfl) (fun p => gnc_one _) ?_ ?_
                      · rintro p L w1 ⟨hsz, hB, gp, m, at_, x, pv2, h_z⟩ hk
                        have L1 : L 1 = false := hk.1
                        have hh := (h_z (hk.2.1 0 rfl)).2
                        rw [L1] at hh
                        try simp only [cond_true, cond_false] at hh
                        exact hh
                      · rintro p L w1 ⟨hsz, hB, gp, m, at_, x, pv2, h_z⟩ hk
                        have L1 : L 1 = false := hk.1
                        skip
                        have hp := h_z (hk.2.1 0 rfl)
                        refine ⟨(by simpa using hsz), Below.setRow hB (by first | exact Nat.le_trans hW0 hp.1 | exact ge_z | omega | (have := hB.size; simp at this ⊢; omega)) _, gp.rowOther (by first | exact Nat.ne_of_lt (Nat.lt_of_lt_of_le lt_gp hp.1) | omega) _, m.rowOther (.inr (Nat.lt_of_lt_of_le lt_m hp.1)) _, at_.rowOther (by first | exact Nat.ne_of_lt (Nat.lt_of_lt_of_le lt_at_ hp.1) | omega) _, x.rowOther (by first | exact Nat.ne_of_lt (Nat.lt_of_lt_of_le lt_x hp.1) | omega) _, pv2.rowOther (.inr (Nat.lt_of_lt_of_le lt_pv2 hp.1)) _, fun _ => ⟨hp.1, ?_⟩⟩
                        rw [show upL L 1 1 = true from rfl]
                        exact hp.2.row _
                    exact AllI.nil
                  case hV0 =>
                    intro p q
                    refine AllI.cons ?_ ?_
                    · skip
                      iterate 2 (refine AllI.cons (by first | exact .inl rfl | (refine .inr ?_; simp only [List.getD_cons_zero, List.getD_cons_succ]; done) | exact .inr rfl) ?_)
                      exact AllI.nil
                    exact AllI.nil
                  case he =>
                  clear hB gp m at_ x pv2
                  rintro p w6r ⟨hsz, hB, gp, m, at_, x, pv2, h_z⟩
                  obtain ⟨le_z, z⟩ := h_z rfl
                  clear h_z
                  replace z : blk w6r (p 0) (gnc GG) 130 := z
                  have ne_gp_z : (mb + 1) ≠ p 0 := Nat.ne_of_lt (Nat.lt_of_lt_of_le lt_gp le_z)
                  have ne_m_z : mb ≠ p 0 := Nat.ne_of_lt (Nat.lt_of_lt_of_le lt_m le_z)
                  have ne_at__z : at__b ≠ p 0 := Nat.ne_of_lt (Nat.lt_of_lt_of_le lt_at_ le_z)
                  have ne_x_z : xb ≠ p 0 := Nat.ne_of_lt (Nat.lt_of_lt_of_le lt_x le_z)
                  have ne_pv2_z : tc ≠ p 0 := Nat.ne_of_lt (Nat.lt_of_lt_of_le lt_pv2 le_z)
                  have ge_z : w.heap.size ≤ p 0 := Nat.le_trans hW0 le_z
                  have out_z : mb < p 0 := Nat.lt_of_lt_of_le lt_m le_z
                  have out_z : tc < p 0 := Nat.lt_of_lt_of_le lt_pv2 le_z
                  generalize p 0 = z_b at *
                  clear lt_gp
                  clear lt_m
                  clear lt_at_
                  clear lt_x
                  clear lt_pv2
                  clear hsz hW0
                  clear x
                  go_upto_region 15 with (fail)
                  have lt_gp := gp.lt
                  have lt_m := m.lt
                  have lt_at_ := at_.lt
                  have lt_pv2 := pv2.lt
                  have lt_z := z.lt
                  have hW0 : w.heap.size ≤ w6r.heap.size := by have := hB.size; first | exact this | simpa using this
                  apply wp_region_Q 4 [0, 1, 3, 7] [] [_, _, _, (fun _ => undef)] (fun p L w' => w6r.heap.size ≤ w'.heap.size ∧ Below w.heap.size w w' ∧ blk w' (mb + 1) (plc (.slice a n c, g.1, mb)) 126 ∧ mpo (gR n Lw g.1) mb mb w' (bif L 2 then (N2 + Pa.cnt k + Pa.cnt k) else (N2 + Pa.cnt k)) ∧ blk w' at__b (ptc ((j : Int), (k : Int), bud - Lw j 4)) 128 ∧ rowo (at__b + 1) tc w' ((v', pl ++ [j])) ∧ blk w' z_b (bif L 3 then (gnc (gR n Lw g.1 k (j : Int) (bud - Lw j 4))) else (gnc GG)) 130) _ [(0, 56), (1, 57), (2, 58)] [0, 1, 2, 3]
                  case hn => rfl
                  case hB => kernel_rfl
                  case hds => kernel_rfl
                  case hA => (intro p; simp only [putsD, Act.put, List.setIfInBounds_toArray, List.set_cons_zero, List.set_cons_succ, List.getD_cons_zero, List.getD_cons_succ]; exact rfl)
                  case h0 => exact fun p => ⟨Nat.le_refl _, hB, gp, m, at_, pv2, z⟩
                  case hmore => exact fun p L w1 w2 ⟨hsz, hB, gp, m, at_, pv2, z⟩ hm => ⟨Nat.le_trans hsz hm.size, hB.trans (hm.mono (Nat.le_trans hW0 hsz)), gp.below hm gp.lt, m.below hm m.lt, at_.below hm at_.lt, pv2.below hm pv2.lt, z.below hm z.lt⟩
                  case hs =>
                    intro more
                    refine stepV _ rfl rfl (fun _ _ _ h => h) (by intros; go_simp; exact ⟨rfl, rfl⟩) ?_
                    refine stepV 1 rfl rfl (fun _ _ _ h => h) ?_ ?_
                    · rintro p L w1 ⟨hsz, hB, gp, m, at_, pv2, z⟩ hk
                      have L2 : L 2 = false := hk.2.2 2 rfl
                      have L3 : L 3 = false := hk.2.2 3 rfl
                      first | exact valR_row _ _ rfl _ rfl _ _ at_ _ Try.underlying128 rfl (by first | kernel_rfl | (rw [ptc_size]; kernel_rfl)) rfl | (have hc := at_.cellIs (show _[0]? = some _ from rfl); go_simp; exact ⟨rfl, rfl⟩)
                    refine AllI.cons ?_ ?_
                    · refine stepI_rel 2 rfl (fun p => rfl) (fun p w1 w2 => mpo (gR n Lw g.1) mb mb w2 (N2 + Pa.cnt k + Pa.cnt k) ∧ Save mb mb w1 w2) ?_ ?_
                      · rintro p L w1 ⟨hsz, hB, gp, m, at_, pv2, z⟩ hk
                        have L2 : L 2 = false := hk.1
                        have L3 : L 3 = false := hk.2.2 3 rfl
                        rw [L2] at m
                        try simp only [cond_true, cond_false] at m
                        go_simp
                        refine (RE1.out _ gp (ElsN.of el.out hmw hB) m).mono ?_
                        rintro e w2 ⟨rfl, h2, h3⟩
                        exact ⟨rfl, h2, h3⟩
                      · rintro p L w1 w2 ⟨hsz, hB, gp, m, at_, pv2, z⟩ hk ⟨h2, h3⟩
                        have L2 : L 2 = false := hk.1
                        have L3 : L 3 = false := hk.2.2 3 rfl
                        refine ⟨Nat.le_trans hsz h3.size, hB.trans (h3.below (Nat.le_trans hW0 hsz) (by omega)), gp.save h3 (by first | exact .inr out_gp | exact .inl out_gp | omega), ?_, at_.save h3 (by first | exact .inr out_at_ | exact .inl out_at_ | omega), pv2.save h3 (by first | exact .inr out_pv2 | exact .inl out_pv2 | omega), z.save h3 (by first | exact .inr out_z | exact .inl out_z | omega)⟩
                        rw [show upL L 2 2 = true from rfl]
                        exact h2
                    refine AllI.cons ?_ ?_
                    · refine stepI_store 3 rfl (fun p => rfl) (fun p => rfl) _ _ _ rfl (fun _ => z_b) 0 (fun p => rfl) (fun p => (gnc (gR n Lw g.1 k (j : Int) (bud - Lw j 4)))) (fun p => rfl) (fun p => (gnc GG)) (fun p => (gnc (gR n Lw g.1 k (j : Int) (bud - Lw j 4)))) 130 (fun p => over_gnc _ _) (fun p => by first | (rw [gnc_size, gnc_size]; decide) | simp [gnc_size, gnc_size]) (fun p => by rw [gnc_size]; kernel_rfl) (fun p => gnc_one _) ?_ ?_
                      · rintro p L w1 ⟨hsz, hB, gp, m, at_, pv2, z⟩ hk
                        have L2 : L 2 = true := hk.2.1 2 rfl
                        have L3 : L 3 = false := hk.1
                        rw [L3] at z
                        try simp only [cond_true, cond_false] at z
                        exact z
                      · rintro p L w1 ⟨hsz, hB, gp, m, at_, pv2, z⟩ hk
                        have L2 : L 2 = true := hk.2.1 2 rfl
                        have L3 : L 3 = false := hk.1
                        skip
                        refine ⟨(by simpa using hsz), Below.setRow hB (by first | exact Nat.le_trans hW0 hp.1 | exact ge_z | omega | (have := hB.size; simp at this ⊢; omega)) _, gp.rowOther (by first | exact ne_gp_z | exact Ne.symm ne_z_gp | omega) _, m.rowOther (by first | exact .inr out_z | exact .inl out_z | omega) _, at_.rowOther (by first | exact ne_at__z | exact Ne.symm ne_z_at_ | omega) _, pv2.rowOther (by first | exact .inr out_z | exact .inl out_z | omega) _, ?_⟩
                        rw [show upL L 3 3 = true from rfl]
                        exact z.row _
                    exact AllI.nil
                  case hV0 => exact fun p q => AllI.nil
                  case he =>
                  clear hB gp m at_ pv2 z
                  rintro p w6rr ⟨hsz, hB, gp, m, at_, pv2, z⟩
                  replace m : mpo (gR n Lw g.1) mb mb w6rr (N2 + Pa.cnt k + Pa.cnt k) := m
                  replace z : blk w6rr z_b (gnc (gR n Lw g.1 k (j : Int) (bud - Lw j 4))) 130 := z
                  clear lt_gp
                  clear lt_m
                  clear lt_at_
                  clear lt_pv2
                  clear lt_z
                  clear hsz hW0
                  clear RE1
                  go_wp2_with (fail)
                  go_roundg k
                  case rel => exact ⟨pl ++ [j], _, (j : Int), bud - Lw j 4, z_b, tc, N2 + Pa.cnt k + Pa.cnt k, rfl, rfl, hPs, (by have := hNm.out; show _ ≤ _; omega), htb5, out_z, gp, m, at_, z, pv2, hB⟩
                  case measure => omega
            · exact absurd ⟨by rw [nOk_ne]; exact hnx.out, haf.out⟩ (hno.out ih (by omega))
        · have cx1 : wr.cell? ⟨xb, 1, none⟩ = some (.int .i64 (gR n Lw g.1 gk last bud).2) := x.cellIs rfl
          have dp : decide (0 < (gR n Lw g.1 gk last bud).2) = false := decide_eq_false hp
          go_wp2_with (fail)
          refine bodyPost_ret (results_tmp2 rfl _ _ _) rfl ?_
          exact ⟨_, pl, last, gk, bud, rfl, ownsRow_low pv.1 (by omega), hP.out, (by omega), hB⟩
end Go.Proofs.Ytkmelddejdikgaa
