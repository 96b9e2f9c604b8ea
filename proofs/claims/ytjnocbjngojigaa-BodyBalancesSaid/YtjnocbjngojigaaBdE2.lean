/-
  Statements on bodies: the acts in a row.
-/
import Derived.Test.YtjnocbjngojigaaBdD
set_option linter.unusedSimpArgs false
set_option linter.unusedVariables false
namespace Go.Proofs.Ytjnocbjngojigaa
open Go.RowKit PM Dt
set_option maxRecDepth 100000 in
set_option maxHeartbeats 2000000 in
theorem plays_bal_no (x : BSt) (a : Option Addr) (n c : Nat) (w : World) (hn : 60 < n) : Calls Try.prog 26 #[.agg (rbc x), .slice a n c, .func (.func 38) #[] #[]] w fun e w' => e = .returned (.bool true) ∧ Below w.heap.size w w' := by
  have d1 : decide ((60 : Int) < (n : Int)) = true := decide_eq_true (by omega)
  have d2 : decide (60 < n) = true := decide_eq_true hn
  go_enter Try.func26, Try.ntmps26
  go_upto_region 1 with (fail)
  have v : blk (w.alloc (.cells (rbc x) 27)) w.heap.size (rbc x) 27 := blk.new _ _ _
  have hB : Below w.heap.size w (w.alloc (.cells (rbc x) 27)) := by go_grown
  generalize (w.alloc (.cells (rbc x) 27)) = w0 at *
  go_wp2_with (fail)
  go_ret
  exact ⟨rfl, hB⟩
set_option maxRecDepth 100000 in
set_option maxHeartbeats 2000000 in
theorem plays_bal_in (x : BSt) (a : Option Addr) (n c : Nat) (w : World) (hn : n ≤ 60) (hQ : ∀ i, i < 4 → I64 (x.Q i)) (hk : newOk x = false) : Calls Try.prog 26 #[.agg (rbc x), .slice a n c, .func (.func 38) #[] #[]] w fun e w' => e = .returned (.bool true) ∧ Below w.heap.size w w' := by
  have d1 : decide ((60 : Int) < (n : Int)) = false := decide_eq_false (by omega)
  have d2 : decide (60 < n) = false := decide_eq_false (by omega)
  have NB := Lib.hid (fun w => bnew_no x w hQ hk)
  clear hQ hk
  go_enter Try.func26, Try.ntmps26
  go_upto_region 1 with (fail)
  have v : blk (w.alloc (.cells (rbc x) 27)) w.heap.size (rbc x) 27 := blk.new _ _ _
  have hB : Below w.heap.size w (w.alloc (.cells (rbc x) 27)) := by go_grown
  generalize (w.alloc (.cells (rbc x) 27)) = w0 at *
  have cf : w0.cell? ⟨w.heap.size, 11, none⟩ = some (.int .i64 x.f) := v.cellIs rfl
  go_wp2_with (first
    | (go_at_call 32; with_reducible refine (NB.out _).mono ?_; rintro e w1 ⟨rfl, hb⟩; replace hB := hB.trans (hb.mono hB.size); replace v := v.below hb v.lt; clear hb)
    | (refine wpList_load_part ?hw _ _ rfl _ 0 rfl _ _ v (qfn x.Q) (rb_q x) _ Try.underlying23 rfl ?hi ?_; (case hw => (first | rfl | (simp [Region.wanted, yielded]; done))); (case hi => (rw [qfn_size]; kernel_rfl)))
    | (refine wpList_load_part ?hw _ _ rfl _ 4 rfl _ _ v (vfn x.T) (rb_t x) _ Try.underlying25 rfl ?hi ?_; (case hw => (first | rfl | (simp [Region.wanted, yielded]; done))); (case hi => (rw [vfn_size]; kernel_rfl)))
    | (refine wpList_load_part ?hw _ _ rfl _ 7 rfl _ _ v (qfn x.h) (rb_h x) _ Try.underlying22 rfl ?hi ?_; (case hw => (first | rfl | (simp [Region.wanted, yielded]; done))); (case hi => (rw [qfn_size]; kernel_rfl))))
  go_ret
  exact ⟨rfl, hB⟩
set_option maxRecDepth 100000 in
set_option maxHeartbeats 20000000 in
theorem plays_bal_ok (x : BSt) (a : Option Addr) (n c : Nat) (x0 : Nat → ActT) (w : World) (hn : n ≤ 60) (hQ : ∀ i, i < 4 → I64 (x.Q i)) (hk : newOk x = true) (el : ElemsA w a n 9 (fun k => (actc (x0 k)).toList)) (HC : ∀ (w : World) (lo b : Nat) (X Y : BSt) (D : Nat → Int), BI X → BI Y → StepB X Y D → bod lo b w Y → Calls Try.prog 38 #[.pointer (some ⟨b, 0, none⟩), .agg (qfn X.Q), .agg (vfn X.T), .agg (vfn D)] w fun e w' => e = .returned (.bool true) ∧ Below w.heap.size w w') : Calls Try.prog 26 #[.agg (rbc x), .slice a n c, .func (.func 38) #[] #[]] w fun e w' => e = .returned (.bool true) ∧ Below w.heap.size w w' := by
  have d1 : decide ((60 : Int) < (n : Int)) = false := decide_eq_false (by omega)
  have d2 : decide (60 < n) = false := decide_eq_false (by omega)
  have NB := Lib.hid (fun w => bnew_yes x w hQ hk)
  have KX := newOk_BI hQ hk
  replace KX := Lib.hid KX
  replace HC := Lib.hid HC
  replace el := Lib.hid el
  clear hQ hk
  go_enter Try.func26, Try.ntmps26
  go_upto_region 1 with (fail)
  have v : blk (w.alloc (.cells (rbc x) 27)) w.heap.size (rbc x) 27 := blk.new _ _ _
  have hB : Below w.heap.size w (w.alloc (.cells (rbc x) 27)) := by go_grown
  generalize (w.alloc (.cells (rbc x) 27)) = w0 at *
  have cf : w0.cell? ⟨w.heap.size, 11, none⟩ = some (.int .i64 x.f) := v.cellIs rfl
  have out_v := v.lt
  have hlo : w.heap.size ≤ w0.heap.size := hB.size
  go_wp2_with (first | (refine wpList_load_part ?hw _ _ rfl _ 0 rfl _ _ v (qfn x.Q) (rb_q x) _ Try.underlying23 rfl ?hi ?_; (case hw => (first | rfl | (simp [Region.wanted, yielded]; done))); (case hi => (rw [qfn_size]; kernel_rfl))) | (refine wpList_load_part ?hw _ _ rfl _ 4 rfl _ _ v (vfn x.T) (rb_t x) _ Try.underlying25 rfl ?hi ?_; (case hw => (first | rfl | (simp [Region.wanted, yielded]; done))); (case hi => (rw [vfn_size]; kernel_rfl))) | (refine wpList_load_part ?hw _ _ rfl _ 7 rfl _ _ v (qfn x.h) (rb_h x) _ Try.underlying22 rfl ?hi ?_; (case hw => (first | rfl | (simp [Region.wanted, yielded]; done))); (case hi => (rw [qfn_size]; kernel_rfl))) | (go_at_call 32; with_reducible refine (NB.out _).mono ?_; rintro e w1 ⟨ob, rfl, o, hb⟩; replace hB := hB.trans (hb.mono hB.size); replace v := v.below hb v.lt; clear hb))
  clear NB cf
  go_loopg [9] n (fun g_ iv wr => ∃ K : Nat, ∃ Y : BSt, g_ + K = n ∧ iv = .int .i64 K ∧ BI Y ∧ blk wr w.heap.size (rbc x) 27 ∧ bod w0.heap.size ob wr Y ∧ Below w.heap.size w wr)
  case atStart => exact ⟨0, x, by omega, rfl, KX.out, v, o, hB⟩
  case round =>
    clear KX v o hB
    obtain ⟨K, X, hK, rfl, KX, v, o, hB⟩ := hrel
    by_cases hKn : K < n
    · have hdK : decide ((K : Int) < n) = true := decide_eq_true (by omega)
      have hdK' : decide (K < n) = true := decide_eq_true hKn
      have hk3 : (K : Int) < n := by omega
      have hk0 : (0 : Int) ≤ K := by omega
      have hwK : IntKind.i64.wrap ((K : Int) + 1) = ((K + 1 : Nat) : Int) := by rw [IntKind.wrap_i64]; omega
      obtain ⟨eb, eo, rfl, hEl, hE⟩ := el.out K hKn
      replace hE : w.rangeAt eb (eo + K * 9) ((actc (x0 K)).toList) := hE
      generalize x0 K = y at hE
      obtain ⟨yw, yc, yt, yi⟩ := y
      have AT := Lib.hid (fun w (h : bod w0.heap.size ob w X) => battitude_any X _ ob w h)
      have TO := Lib.hid (fun w (h : bod w0.heap.size ob w X) => btotal_any X _ ob w h)
      have TK := Lib.hid (fun w (h : bod w0.heap.size ob w X) => btick_any X _ ob yc yt w h KX.q KX.s (KX.att _).1)
      have FA := Lib.hid (fun w (h : bod w0.heap.size ob w X) => bfail_any X _ ob yi w h)
      have HF := Lib.hid (fun w (h : bod w0.heap.size ob w (failX X yi)) => HC.out w _ ob X (failX X yi) (fun _ => 0) KX (KX.fail _) (.inl ⟨_, rfl, rfl⟩) h)
      have HT := Lib.hid (fun w (h : bod w0.heap.size ob w (tickX X yc yt)) => HC.out w _ ob X (tickX X yc yt) (tickC X yc yt) KX (KX.tick _ _) (.inr ⟨_, _, rfl, rfl⟩) h)
      have KF := Lib.hid (KX.fail yi)
      have KT := Lib.hid (KX.tick yc yt)
      clear KX
      go_upto_region 11 with (fail)
      have lt_v := v.lt
      have lt_o := o.lt
      have hW0 : w.heap.size ≤ wr.heap.size := by have := hB.size; first | exact this | simpa using this
      apply wp_region_Q 6 [0, 1, 3, 7, 15, 31] [4] [_, _, _, _, (fun p => .pointer (some ⟨p 4, 0, none⟩)), (fun _ => undef)] (fun p L w' => wr.heap.size ≤ w'.heap.size ∧ Below w.heap.size w w' ∧ blk w' w.heap.size (rbc x) 27 ∧ bod w0.heap.size ob w' (X) ∧ (L 4 = true → wr.heap.size ≤ p 4 ∧ blk w' (p 4) (bif L 5 then (actc (yw, yc, yt, yi)) else (actc (0, fun _ => 0, fun _ => 0, 0))) 70)) _ [(0, 41), (1, 42), (2, 43), (3, 44), (4, 10)] [0, 1, 2, 3, 4, 5]
      case hn => rfl
      case hB => kernel_rfl
      case hds => kernel_rfl
      case hA => (intro p; simp only [putsD, Act.put, List.setIfInBounds_toArray, List.set_cons_zero, List.set_cons_succ, List.getD_cons_zero, List.getD_cons_succ]; exact rfl)
      case h0 => exact fun p => ⟨Nat.le_refl _, hB, v, o, fun h => absurd h (by decide)⟩
      case hmore => exact fun p L w1 w2 ⟨hsz, hB, v, o, h_ac⟩ hm => ⟨Nat.le_trans hsz hm.size, hB.trans (hm.mono (Nat.le_trans hW0 hsz)), v.below hm v.lt, o.below hm o.lt, fun hl => ⟨(h_ac hl).1, (h_ac hl).2.below hm (h_ac hl).2.lt⟩⟩
      case hs =>
        intro more
        refine stepV 0 rfl rfl (fun _ _ _ h => h) ?_ ?_
        · intros; go_simp; exact ⟨rfl, rfl⟩
        refine stepV 1 rfl rfl (fun _ _ _ h => h) ?_ ?_
        · intros; go_simp; exact ⟨rfl, rfl⟩
        refine stepV 2 rfl rfl (fun _ _ _ h => h) ?_ ?_
        · intros; go_simp; exact ⟨rfl, rfl⟩
        refine stepV 3 rfl rfl (fun _ _ _ h => h) ?_ ?_
        · rintro p L w1 ⟨hsz, hB, v, o, h_ac⟩ hk
          have hr := range_below hE hB hEl
          exact valR_range _ _ rfl _ _ rfl _ (eo + K * 9) 0 hr (by first | rfl | omega) (actc (yw, yc, yt, yi)) (act_l (yw, yc, yt, yi)) _ Try.underlying70 rfl (by rw [actc_size]; kernel_rfl) rfl
        refine AllI.cons ?_ ?_
        · refine stepI_alloc 4 rfl (fun p => rfl) rfl (actc (0, fun _ => 0, fun _ => 0, 0)) 70 (fun p => rfl) ?_ ?_
          · intro p w1
            go_simp
            first | rfl | rw [actc_zero]
          rintro p L w1 ⟨hsz, hB, v, o, h_ac⟩ hk
          have L5 : L 5 = false := hk.2.2 5 rfl
          refine ⟨Nat.le_trans hsz (by simp), hB.alloc (Nat.le_trans (by first | exact hW0 | (have := hB.size; simp at this ⊢; omega)) hsz) _, v.alloc _, o.alloc _, fun _ => ⟨hsz, ?_⟩⟩
          rw [show upL L 4 5 = false from L5]
          exact blk.new _ _ _
        refine AllI.cons ?_ ?_
        · refine stepI_store 5 rfl (fun p => rfl) (fun p => rfl) _ _ _ rfl (fun p => p 4) 0 (fun p => rfl) (fun p => (actc (yw, yc, yt, yi))) (fun p => rfl) (fun p => (actc (0, fun _ => 0, fun _ => 0, 0))) (fun p => (actc (yw, yc, yt, yi))) 70 (fun p => over_full rfl) (fun p => by first | (rw [actc_size, actc_size]; decide) | simp [actc_size, actc_size]) (fun p => by rw [actc_size]; kernel_rfl) (fun p => actc_one _) ?_ ?_
          · rintro p L w1 ⟨hsz, hB, v, o, h_ac⟩ hk
            have L5 : L 5 = false := hk.1
            have hh := (h_ac (hk.2.1 4 rfl)).2
            rw [L5] at hh
            try simp only [cond_true, cond_false] at hh
            exact hh
          · rintro p L w1 ⟨hsz, hB, v, o, h_ac⟩ hk
            have L5 : L 5 = false := hk.1
            skip
            have hp := h_ac (hk.2.1 4 rfl)
            refine ⟨(by simpa using hsz), Below.setRow hB (by first | exact Nat.le_trans hW0 hp.1 | exact ge_ac | omega | (have := hB.size; simp at this ⊢; omega)) _, v.rowOther (by first | exact Nat.ne_of_lt (Nat.lt_of_lt_of_le lt_v hp.1) | omega) _, o.rowOther (.inr (Nat.lt_of_lt_of_le lt_o hp.1)) _, fun _ => ⟨hp.1, ?_⟩⟩
            rw [show upL L 5 5 = true from rfl]
            exact hp.2.row _
        exact AllI.nil
      case hV0 =>
        intro p q
        refine AllI.cons ?_ ?_
        · skip
          iterate 6 (refine AllI.cons (by first | exact .inl rfl | (refine .inr ?_; simp only [List.getD_cons_zero, List.getD_cons_succ]; done) | exact .inr rfl) ?_)
          exact AllI.nil
        exact AllI.nil
      case he =>
      clear hB v o
      rintro p wrr ⟨hsz, hB, v, o, h_ac⟩
      obtain ⟨le_ac, ac⟩ := h_ac rfl
      clear h_ac
      replace ac : blk wrr (p 4) (actc (yw, yc, yt, yi)) 70 := ac
      have ne_v_ac : w.heap.size ≠ p 4 := Nat.ne_of_lt (Nat.lt_of_lt_of_le lt_v le_ac)
      have ne_o_ac : ob ≠ p 4 := Nat.ne_of_lt (Nat.lt_of_lt_of_le lt_o le_ac)
      have ge_ac : w.heap.size ≤ p 4 := Nat.le_trans hW0 le_ac
      have out_ac : ob < p 4 := Nat.lt_of_lt_of_le lt_o le_ac
      generalize p 4 = ac_b at *
      clear lt_v
      clear lt_o
      clear hsz hW0
      go_upto_region 12 with (fail)
      have lt_v := v.lt
      have lt_o := o.lt
      have lt_ac := ac.lt
      have hW0 : w.heap.size ≤ wrr.heap.size := by have := hB.size; first | exact this | simpa using this
      apply wp_region_Q 11 [0, 1, 3, 7, 15, 31, 63, 127, 255, 511, 1023] [5, 6, 7] [_, _, _, _, _, (fun p => .pointer (some ⟨p 5, 0, none⟩)), (fun p => .pointer (some ⟨p 6, 0, none⟩)), (fun p => .pointer (some ⟨p 7, 0, none⟩)), (fun _ => undef), (fun _ => undef), (fun _ => undef)] (fun p L w' => wrr.heap.size ≤ w'.heap.size ∧ Below w.heap.size w w' ∧ blk w' w.heap.size (rbc x) 27 ∧ bod w0.heap.size ob w' (X) ∧ blk w' ac_b (actc (yw, yc, yt, yi)) 70 ∧ (L 5 = true → wrr.heap.size ≤ p 5 ∧ blk w' (p 5) (bif L 8 then (qfn X.Q) else (qfn fun _ => 0)) 23) ∧ (L 6 = true → wrr.heap.size ≤ p 6 ∧ blk w' (p 6) (bif L 9 then (vfn X.T) else (vfn fun _ => 0)) 25) ∧ (L 7 = true → wrr.heap.size ≤ p 7 ∧ blk w' (p 7) (bif L 10 then (vfn (fun _ => 0)) else (vfn fun _ => 0)) 25) ∧ (L 5 = true → L 6 = true → p 5 ≠ p 6) ∧ (L 5 = true → L 7 = true → p 5 ≠ p 7) ∧ (L 6 = true → L 7 = true → p 6 ≠ p 7)) _ [(0, 45), (1, 46), (2, 47), (3, 48), (4, 49), (5, 11), (6, 12), (7, 13)] [0, 1, 2, 3, 4, 5, 6, 7, 8, 9, 10]
      case hn => rfl
      case hB => kernel_rfl
      case hds => kernel_rfl
      case hA => (intro p; simp only [putsD, Act.put, List.setIfInBounds_toArray, List.set_cons_zero, List.set_cons_succ, List.getD_cons_zero, List.getD_cons_succ]; exact rfl)
      case h0 => exact fun p => ⟨Nat.le_refl _, hB, v, o, ac, fun h => absurd h (by decide), fun h => absurd h (by decide), fun h => absurd h (by decide), fun h => absurd h (by decide), fun h => absurd h (by decide), fun h => absurd h (by decide)⟩
      case hmore => exact fun p L w1 w2 ⟨hsz, hB, v, o, ac, h_q, h_d, h_ch, hne_q_d, hne_q_ch, hne_d_ch⟩ hm => ⟨Nat.le_trans hsz hm.size, hB.trans (hm.mono (Nat.le_trans hW0 hsz)), v.below hm v.lt, o.below hm o.lt, ac.below hm ac.lt, fun hl => ⟨(h_q hl).1, (h_q hl).2.below hm (h_q hl).2.lt⟩, fun hl => ⟨(h_d hl).1, (h_d hl).2.below hm (h_d hl).2.lt⟩, fun hl => ⟨(h_ch hl).1, (h_ch hl).2.below hm (h_ch hl).2.lt⟩, hne_q_d, hne_q_ch, hne_d_ch⟩
      case hs =>
        intro more
        refine stepV 0 rfl rfl (fun _ _ _ h => h) ?_ ?_
        · intros; go_simp; exact ⟨rfl, rfl⟩
        refine stepD 1 rfl (fun p => rfl) (fun _ _ _ h => h) more ?_ ?_
        · rintro p L w1 ⟨hsz, hB, v, o, ac, h_q, h_d, h_ch, hne_q_d, hne_q_ch, hne_d_ch⟩ hk
          have L8 : L 8 = false := hk.2.2 8 rfl
          have L9 : L 9 = false := hk.2.2 9 rfl
          have L10 : L 10 = false := hk.2.2 10 rfl
          go_simp
          refine (AT.out _ o).mono ?_
          rintro e w2 ⟨rfl, h2⟩
          first | exact ⟨rfl, h2⟩ | (subst h2; exact ⟨rfl, Below.refl _ _⟩)
        refine stepV 2 rfl rfl (fun _ _ _ h => h) ?_ ?_
        · intros; go_simp; exact ⟨rfl, rfl⟩
        refine stepD 3 rfl (fun p => rfl) (fun _ _ _ h => h) more ?_ ?_
        · rintro p L w1 ⟨hsz, hB, v, o, ac, h_q, h_d, h_ch, hne_q_d, hne_q_ch, hne_d_ch⟩ hk
          have L8 : L 8 = false := hk.2.2 8 rfl
          have L9 : L 9 = false := hk.2.2 9 rfl
          have L10 : L 10 = false := hk.2.2 10 rfl
          go_simp
          refine (TO.out _ o).mono ?_
          rintro e w2 ⟨rfl, h2⟩
          first | exact ⟨rfl, h2⟩ | (subst h2; exact ⟨rfl, Below.refl _ _⟩)
        refine stepV 4 rfl rfl (fun _ _ _ h => h) ?_ ?_
        · intros; (try simp only [vfn, qfn]); go_simp; exact ⟨rfl, rfl⟩
        refine AllI.cons ?_ ?_
        · refine stepI_alloc 5 rfl (fun p => rfl) rfl (qfn fun _ => 0) 23 (fun p => rfl) ?_ ?_
          · intro p w1
            go_simp
            first | rfl | rw [zero_quat]
          rintro p L w1 ⟨hsz, hB, v, o, ac, h_q, h_d, h_ch, hne_q_d, hne_q_ch, hne_d_ch⟩ hk
          have L8 : L 8 = false := hk.2.2 8 rfl
          have L9 : L 9 = false := hk.2.2 9 rfl
          have L10 : L 10 = false := hk.2.2 10 rfl
          refine ⟨Nat.le_trans hsz (by simp), hB.alloc (Nat.le_trans (by first | exact hW0 | (have := hB.size; simp at this ⊢; omega)) hsz) _, v.alloc _, o.alloc _, ac.alloc _, fun _ => ⟨hsz, ?_⟩, fun hl => absurd hl (by rw [show upL L 5 6 = false from hk.2.2 6 rfl]; decide), fun hl => absurd hl (by rw [show upL L 5 7 = false from hk.2.2 7 rfl]; decide), fun _ hl => absurd hl (by rw [show upL L 5 6 = false from hk.2.2 6 rfl]; decide), fun _ hl => absurd hl (by rw [show upL L 5 7 = false from hk.2.2 7 rfl]; decide), hne_d_ch⟩
          rw [show upL L 5 8 = false from L8]
          exact blk.new _ _ _
        refine AllI.cons ?_ ?_
        · refine stepI_alloc 6 rfl (fun p => rfl) rfl (vfn fun _ => 0) 25 (fun p => rfl) ?_ ?_
          · intro p w1
            go_simp
            first | rfl | rw [zero_vec]
          rintro p L w1 ⟨hsz, hB, v, o, ac, h_q, h_d, h_ch, hne_q_d, hne_q_ch, hne_d_ch⟩ hk
          have L8 : L 8 = false := hk.2.2 8 rfl
          have L9 : L 9 = false := hk.2.2 9 rfl
          have L10 : L 10 = false := hk.2.2 10 rfl
          refine ⟨Nat.le_trans hsz (by simp), hB.alloc (Nat.le_trans (by first | exact hW0 | (have := hB.size; simp at this ⊢; omega)) hsz) _, v.alloc _, o.alloc _, ac.alloc _, fun hl => ⟨(h_q hl).1, (h_q hl).2.alloc _⟩, fun _ => ⟨hsz, ?_⟩, fun hl => absurd hl (by rw [show upL L 6 7 = false from hk.2.2 7 rfl]; decide), fun hl _ => Nat.ne_of_lt (h_q hl).2.lt, hne_q_ch, fun _ hl => absurd hl (by rw [show upL L 6 7 = false from hk.2.2 7 rfl]; decide)⟩
          rw [show upL L 6 9 = false from L9]
          exact blk.new _ _ _
        refine AllI.cons ?_ ?_
        · refine stepI_alloc 7 rfl (fun p => rfl) rfl (vfn fun _ => 0) 25 (fun p => rfl) ?_ ?_
          · intro p w1
            go_simp
            first | rfl | rw [zero_vec]
          rintro p L w1 ⟨hsz, hB, v, o, ac, h_q, h_d, h_ch, hne_q_d, hne_q_ch, hne_d_ch⟩ hk
          have L8 : L 8 = false := hk.2.2 8 rfl
          have L9 : L 9 = false := hk.2.2 9 rfl
          have L10 : L 10 = false := hk.2.2 10 rfl
          refine ⟨Nat.le_trans hsz (by simp), hB.alloc (Nat.le_trans (by first | exact hW0 | (have := hB.size; simp at this ⊢; omega)) hsz) _, v.alloc _, o.alloc _, ac.alloc _, fun hl => ⟨(h_q hl).1, (h_q hl).2.alloc _⟩, fun hl => ⟨(h_d hl).1, (h_d hl).2.alloc _⟩, fun _ => ⟨hsz, ?_⟩, hne_q_d, fun hl _ => Nat.ne_of_lt (h_q hl).2.lt, fun hl _ => Nat.ne_of_lt (h_d hl).2.lt⟩
          rw [show upL L 7 10 = false from L10]
          exact blk.new _ _ _
        refine AllI.cons ?_ ?_
        · refine stepI_store 8 rfl (fun p => rfl) (fun p => rfl) _ _ _ rfl (fun p => p 5) 0 (fun p => rfl) (fun p => (qfn X.Q)) (fun p => rfl) (fun p => (qfn fun _ => 0)) (fun p => (qfn X.Q)) 23 (fun p => over_qq _ _) (fun p => by first | (rw [qfn_size, qfn_size]; decide) | simp [qfn_size, qfn_size]) (fun p => by rw [qfn_size]; kernel_rfl) (fun p => qfn_one _) ?_ ?_
          · rintro p L w1 ⟨hsz, hB, v, o, ac, h_q, h_d, h_ch, hne_q_d, hne_q_ch, hne_d_ch⟩ hk
            have L8 : L 8 = false := hk.1
            have L9 : L 9 = false := hk.2.2 9 rfl
            have L10 : L 10 = false := hk.2.2 10 rfl
            have hh := (h_q (hk.2.1 5 rfl)).2
            rw [L8] at hh
            try simp only [cond_true, cond_false] at hh
            exact hh
          · rintro p L w1 ⟨hsz, hB, v, o, ac, h_q, h_d, h_ch, hne_q_d, hne_q_ch, hne_d_ch⟩ hk
            have L8 : L 8 = false := hk.1
            have L9 : L 9 = false := hk.2.2 9 rfl
            have L10 : L 10 = false := hk.2.2 10 rfl
            skip
            have hp := h_q (hk.2.1 5 rfl)
            refine ⟨(by simpa using hsz), Below.setRow hB (by first | exact Nat.le_trans hW0 hp.1 | exact ge_q | omega | (have := hB.size; simp at this ⊢; omega)) _, v.rowOther (by first | exact Nat.ne_of_lt (Nat.lt_of_lt_of_le lt_v hp.1) | omega) _, o.rowOther (.inr (Nat.lt_of_lt_of_le lt_o hp.1)) _, ac.rowOther (by first | exact Nat.ne_of_lt (Nat.lt_of_lt_of_le lt_ac hp.1) | omega) _, fun _ => ⟨hp.1, ?_⟩, fun hl => ⟨(h_d hl).1, (h_d hl).2.rowOther (Ne.symm (hne_q_d (hk.2.1 5 rfl) hl)) _⟩, fun hl => ⟨(h_ch hl).1, (h_ch hl).2.rowOther (Ne.symm (hne_q_ch (hk.2.1 5 rfl) hl)) _⟩, hne_q_d, hne_q_ch, hne_d_ch⟩
            rw [show upL L 8 8 = true from rfl]
            exact hp.2.row _
        refine AllI.cons ?_ ?_
        · refine stepI_store 9 rfl (fun p => rfl) (fun p => rfl) _ _ _ rfl (fun p => p 6) 0 (fun p => rfl) (fun p => (vfn X.T)) (fun p => rfl) (fun p => (vfn fun _ => 0)) (fun p => (vfn X.T)) 25 (fun p => over_v _ _) (fun p => by first | (rw [vfn_size, vfn_size]; decide) | simp [vfn_size, vfn_size]) (fun p => by rw [vfn_size]; kernel_rfl) (fun p => vfn_one _) ?_ ?_
          · rintro p L w1 ⟨hsz, hB, v, o, ac, h_q, h_d, h_ch, hne_q_d, hne_q_ch, hne_d_ch⟩ hk
            have L8 : L 8 = true := hk.2.1 8 rfl
            have L9 : L 9 = false := hk.1
            have L10 : L 10 = false := hk.2.2 10 rfl
            have hh := (h_d (hk.2.1 6 rfl)).2
            rw [L9] at hh
            try simp only [cond_true, cond_false] at hh
            exact hh
          · rintro p L w1 ⟨hsz, hB, v, o, ac, h_q, h_d, h_ch, hne_q_d, hne_q_ch, hne_d_ch⟩ hk
            have L8 : L 8 = true := hk.2.1 8 rfl
            have L9 : L 9 = false := hk.1
            have L10 : L 10 = false := hk.2.2 10 rfl
            skip
            have hp := h_d (hk.2.1 6 rfl)
            refine ⟨(by simpa using hsz), Below.setRow hB (by first | exact Nat.le_trans hW0 hp.1 | exact ge_d | omega | (have := hB.size; simp at this ⊢; omega)) _, v.rowOther (by first | exact Nat.ne_of_lt (Nat.lt_of_lt_of_le lt_v hp.1) | omega) _, o.rowOther (.inr (Nat.lt_of_lt_of_le lt_o hp.1)) _, ac.rowOther (by first | exact Nat.ne_of_lt (Nat.lt_of_lt_of_le lt_ac hp.1) | omega) _, fun hl => ⟨(h_q hl).1, (h_q hl).2.rowOther (hne_q_d hl (hk.2.1 6 rfl)) _⟩, fun _ => ⟨hp.1, ?_⟩, fun hl => ⟨(h_ch hl).1, (h_ch hl).2.rowOther (Ne.symm (hne_d_ch (hk.2.1 6 rfl) hl)) _⟩, hne_q_d, hne_q_ch, hne_d_ch⟩
            rw [show upL L 9 9 = true from rfl]
            exact hp.2.row _
        refine AllI.cons ?_ ?_
        · refine stepI_store 10 rfl (fun p => rfl) (fun p => rfl) _ _ _ rfl (fun p => p 7) 0 (fun p => rfl) (fun p => (vfn (fun _ => 0))) (fun p => congrArg Value.agg zero_vec) (fun p => (vfn fun _ => 0)) (fun p => (vfn (fun _ => 0))) 25 (fun p => over_v _ _) (fun p => by first | (rw [vfn_size, vfn_size]; decide) | simp [vfn_size, vfn_size]) (fun p => by rw [vfn_size]; kernel_rfl) (fun p => vfn_one _) ?_ ?_
          · rintro p L w1 ⟨hsz, hB, v, o, ac, h_q, h_d, h_ch, hne_q_d, hne_q_ch, hne_d_ch⟩ hk
            have L8 : L 8 = true := hk.2.1 8 rfl
            have L9 : L 9 = true := hk.2.1 9 rfl
            have L10 : L 10 = false := hk.1
            have hh := (h_ch (hk.2.1 7 rfl)).2
            rw [L10] at hh
            try simp only [cond_true, cond_false] at hh
            exact hh
          · rintro p L w1 ⟨hsz, hB, v, o, ac, h_q, h_d, h_ch, hne_q_d, hne_q_ch, hne_d_ch⟩ hk
            have L8 : L 8 = true := hk.2.1 8 rfl
            have L9 : L 9 = true := hk.2.1 9 rfl
            have L10 : L 10 = false := hk.1
            skip
            have hp := h_ch (hk.2.1 7 rfl)
            refine ⟨(by simpa using hsz), Below.setRow hB (by first | exact Nat.le_trans hW0 hp.1 | exact ge_ch | omega | (have := hB.size; simp at this ⊢; omega)) _, v.rowOther (by first | exact Nat.ne_of_lt (Nat.lt_of_lt_of_le lt_v hp.1) | omega) _, o.rowOther (.inr (Nat.lt_of_lt_of_le lt_o hp.1)) _, ac.rowOther (by first | exact Nat.ne_of_lt (Nat.lt_of_lt_of_le lt_ac hp.1) | omega) _, fun hl => ⟨(h_q hl).1, (h_q hl).2.rowOther (hne_q_ch hl (hk.2.1 7 rfl)) _⟩, fun hl => ⟨(h_d hl).1, (h_d hl).2.rowOther (hne_d_ch hl (hk.2.1 7 rfl)) _⟩, fun _ => ⟨hp.1, ?_⟩, hne_q_d, hne_q_ch, hne_d_ch⟩
            rw [show upL L 10 10 = true from rfl]
            exact hp.2.row _
        exact AllI.nil
      case hV0 =>
        intro p q
        refine AllI.cons ?_ ?_
        · skip
          iterate 11 (refine AllI.cons (by first | exact .inl rfl | (refine .inr ?_; simp only [List.getD_cons_zero, List.getD_cons_succ]; done) | exact .inr rfl) ?_)
          exact AllI.nil
        refine AllI.cons ?_ ?_
        · skip
          iterate 11 (refine AllI.cons (by first | exact .inl rfl | (refine .inr ?_; simp only [List.getD_cons_zero, List.getD_cons_succ]; done) | exact .inr rfl) ?_)
          exact AllI.nil
        refine AllI.cons ?_ ?_
        · skip
          iterate 11 (refine AllI.cons (by first | exact .inl rfl | (refine .inr ?_; simp only [List.getD_cons_zero, List.getD_cons_succ]; done) | exact .inr rfl) ?_)
          exact AllI.nil
        exact AllI.nil
      case he =>
      clear hB v o ac
      rintro p wrrr ⟨hsz, hB, v, o, ac, h_q, h_d, h_ch, hne_q_d, hne_q_ch, hne_d_ch⟩
      obtain ⟨le_q, q⟩ := h_q rfl
      clear h_q
      obtain ⟨le_d, d⟩ := h_d rfl
      clear h_d
      obtain ⟨le_ch, ch⟩ := h_ch rfl
      clear h_ch
      have ne_q_d : p 5 ≠ p 6 := hne_q_d rfl rfl
      clear hne_q_d
      have ne_q_ch : p 5 ≠ p 7 := hne_q_ch rfl rfl
      clear hne_q_ch
      have ne_d_ch : p 6 ≠ p 7 := hne_d_ch rfl rfl
      clear hne_d_ch
      replace q : blk wrrr (p 5) (qfn X.Q) 23 := q
      replace d : blk wrrr (p 6) (vfn X.T) 25 := d
      replace ch : blk wrrr (p 7) (vfn (fun _ => 0)) 25 := ch
      have ne_v_q : w.heap.size ≠ p 5 := Nat.ne_of_lt (Nat.lt_of_lt_of_le lt_v le_q)
      have ne_o_q : ob ≠ p 5 := Nat.ne_of_lt (Nat.lt_of_lt_of_le lt_o le_q)
      have ne_ac_q : ac_b ≠ p 5 := Nat.ne_of_lt (Nat.lt_of_lt_of_le lt_ac le_q)
      have ge_q : w.heap.size ≤ p 5 := Nat.le_trans hW0 le_q
      have out_q : ob < p 5 := Nat.lt_of_lt_of_le lt_o le_q
      have ne_v_d : w.heap.size ≠ p 6 := Nat.ne_of_lt (Nat.lt_of_lt_of_le lt_v le_d)
      have ne_o_d : ob ≠ p 6 := Nat.ne_of_lt (Nat.lt_of_lt_of_le lt_o le_d)
      have ne_ac_d : ac_b ≠ p 6 := Nat.ne_of_lt (Nat.lt_of_lt_of_le lt_ac le_d)
      have ge_d : w.heap.size ≤ p 6 := Nat.le_trans hW0 le_d
      have out_d : ob < p 6 := Nat.lt_of_lt_of_le lt_o le_d
      have ne_v_ch : w.heap.size ≠ p 7 := Nat.ne_of_lt (Nat.lt_of_lt_of_le lt_v le_ch)
      have ne_o_ch : ob ≠ p 7 := Nat.ne_of_lt (Nat.lt_of_lt_of_le lt_o le_ch)
      have ne_ac_ch : ac_b ≠ p 7 := Nat.ne_of_lt (Nat.lt_of_lt_of_le lt_ac le_ch)
      have ge_ch : w.heap.size ≤ p 7 := Nat.le_trans hW0 le_ch
      have out_ch : ob < p 7 := Nat.lt_of_lt_of_le lt_o le_ch
      generalize p 5 = q_b at *
      generalize p 6 = d_b at *
      generalize p 7 = ch_b at *
      clear lt_v
      clear lt_o
      clear lt_ac
      clear hsz hW0
      clear AT TO hE
      have c0 : wrrr.cell? ⟨ac_b, 0, none⟩ = some (.int .u8 yw) := ac.cellIs rfl
      have c8 : wrrr.cell? ⟨ac_b, 8, none⟩ = some (.int .i64 yi) := ac.cellIs rfl
      by_cases hw3 : yw.tmod 4 = 3
      · have r1 : (yw.tmod 4 == 3) = true := by simp [hw3]
        have r2 : decide (yw.tmod 4 = 3) = true := by simp [hw3]
        clear HT KT TK
        clear r2
        go_upto_region 16 with ((go_at_call 33; with_reducible refine (FA.out _ o).mono ?_; rintro e wf ⟨rfl, o2, hS⟩; replace hB := hB.trans (hS.below hB.size hlo); replace v := v.save hS (by first | exact .inl out_v | exact .inr out_v | omega); replace ac := ac.save hS (by first | exact .inl out_ac | exact .inr out_ac | omega); replace q := q.save hS (by first | exact .inl out_q | exact .inr out_q | omega); replace d := d.save hS (by first | exact .inl out_d | exact .inr out_d | omega); replace ch := ch.save hS (by first | exact .inl out_ch | exact .inr out_ch | omega); replace o := o2; clear hS o2))
        clear FA c0 c8
        go_wp2_with (first | (refine wpList_load_rowG ?hw _ _ rfl _ rfl _ _ _ _ q Try.underlying23 rfl ?hi ?_; (case hw => (first | rfl | (simp [Region.wanted, yielded]; done))); (case hi => (first | kernel_rfl | (rw [qfn_size]; kernel_rfl)))) | (refine wpList_load_rowG ?hw _ _ rfl _ rfl _ _ _ _ d Try.underlying25 rfl ?hi ?_; (case hw => (first | rfl | (simp [Region.wanted, yielded]; done))); (case hi => (first | kernel_rfl | (rw [vfn_size]; kernel_rfl)))) | (refine wpList_load_rowG ?hw _ _ rfl _ rfl _ _ _ _ ch Try.underlying25 rfl ?hi ?_; (case hw => (first | rfl | (simp [Region.wanted, yielded]; done))); (case hi => (first | kernel_rfl | (rw [vfn_size]; kernel_rfl)))) | (go_at_call 38; with_reducible refine (HF.out _ o).mono ?_; rintro e wz ⟨rfl, hb⟩; replace hB := hB.trans (hb.mono hB.size); replace v := v.below hb v.lt; replace o := o.below hb o.lt; replace ac := ac.below hb ac.lt; replace q := q.below hb q.lt; replace d := d.below hb d.lt; replace ch := ch.below hb ch.lt; clear hb))
        go_roundg (n - (K + 1))
        case rel => exact ⟨K + 1, _, by omega, rfl, KF.out, v, o, hB⟩
        case measure => omega
      · have r1 : (yw.tmod 4 == 3) = false := by simp [hw3]
        have r2 : decide (yw.tmod 4 = 3) = false := by simp [hw3]
        clear HF KF FA
        clear r2
        go_upto_region 16 with (first | (refine wpList_load_part ?hw _ _ rfl _ 1 rfl _ _ ac (qfn yc) (act_c yw yc yt yi) _ Try.underlying22 rfl ?hi ?_; (case hw => (first | rfl | (simp [Region.wanted, yielded]; done))); (case hi => (rw [qfn_size]; kernel_rfl))) | (refine wpList_load_part ?hw _ _ rfl _ 5 rfl _ _ ac (vfn yt) (act_t yw yc yt yi) _ Try.underlying25 rfl ?hi ?_; (case hw => (first | rfl | (simp [Region.wanted, yielded]; done))); (case hi => (rw [vfn_size]; kernel_rfl))) | (go_at_call 34; with_reducible refine (TK.out _ o).mono ?_; rintro e wf ⟨rfl, o2, hS⟩; replace hB := hB.trans (hS.below hB.size hlo); replace v := v.save hS (by first | exact .inl out_v | exact .inr out_v | omega); replace ac := ac.save hS (by first | exact .inl out_ac | exact .inr out_ac | omega); replace q := q.save hS (by first | exact .inl out_q | exact .inr out_q | omega); replace d := d.save hS (by first | exact .inl out_d | exact .inr out_d | omega); replace ch := ch.save hS (by first | exact .inl out_ch | exact .inr out_ch | omega); replace o := o2; clear hS o2) | (refine wpList_store_row rfl _ _ _ rfl _ rfl _ rfl _ _ ch (by first | kernel_rfl | (rw [vfn_size]; kernel_rfl)) (by first | rfl | simp only [vfn_size]) (by first | exact vfn_one _ | rfl) ?_))
        clear TK c0 c8
        replace v := v.rowOther (by first | exact ne_v_ch | omega) (vfn (tickC X yc yt))
        replace o := o.rowOther (.inr out_ch) (vfn (tickC X yc yt))
        replace ac := ac.rowOther ne_ac_ch (vfn (tickC X yc yt))
        replace q := q.rowOther ne_q_ch (vfn (tickC X yc yt))
        replace d := d.rowOther ne_d_ch (vfn (tickC X yc yt))
        replace ch := ch.row (vfn (tickC X yc yt))
        replace hB := Below.setRow hB ge_ch (vfn (tickC X yc yt))
        generalize wf.setRow ch_b (vfn (tickC X yc yt)) = wfs at *
        go_wp2_with (first | (refine wpList_load_rowG ?hw _ _ rfl _ rfl _ _ _ _ q Try.underlying23 rfl ?hi ?_; (case hw => (first | rfl | (simp [Region.wanted, yielded]; done))); (case hi => (first | kernel_rfl | (rw [qfn_size]; kernel_rfl)))) | (refine wpList_load_rowG ?hw _ _ rfl _ rfl _ _ _ _ d Try.underlying25 rfl ?hi ?_; (case hw => (first | rfl | (simp [Region.wanted, yielded]; done))); (case hi => (first | kernel_rfl | (rw [vfn_size]; kernel_rfl)))) | (refine wpList_load_rowG ?hw _ _ rfl _ rfl _ _ _ _ ch Try.underlying25 rfl ?hi ?_; (case hw => (first | rfl | (simp [Region.wanted, yielded]; done))); (case hi => (first | kernel_rfl | (rw [vfn_size]; kernel_rfl)))) | (go_at_call 38; with_reducible refine (HT.out _ o).mono ?_; rintro e wz ⟨rfl, hb⟩; replace hB := hB.trans (hb.mono hB.size); replace v := v.below hb v.lt; replace o := o.below hb o.lt; replace ac := ac.below hb ac.lt; replace q := q.below hb q.lt; replace d := d.below hb d.lt; replace ch := ch.below hb ch.lt; clear hb))
        go_roundg (n - (K + 1))
        case rel => exact ⟨K + 1, _, by omega, rfl, KT.out, v, o, hB⟩
        case measure => omega
    · obtain rfl : K = n := by omega
      have hdK : decide ((K : Int) < K) = false := decide_eq_false (by omega)
      have hdK' : decide (K < K) = false := decide_eq_false (by omega)
      go_wp2_with (fail)
      go_ret
      exact ⟨rfl, hB⟩
theorem plays_bal (x : BSt) (a : Option Addr) (n c : Nat) (x0 : Nat → ActT) (w : World) (hQ : ∀ i, i < 4 → I64 (x.Q i)) (el : ElemsA w a n 9 (fun k => (actc (x0 k)).toList)) (HC : ∀ (w : World) (lo b : Nat) (X Y : BSt) (D : Nat → Int), BI X → BI Y → StepB X Y D → bod lo b w Y → Calls Try.prog 38 #[.pointer (some ⟨b, 0, none⟩), .agg (qfn X.Q), .agg (vfn X.T), .agg (vfn D)] w fun e w' => e = .returned (.bool true) ∧ Below w.heap.size w w') : Calls Try.prog 26 #[.agg (rbc x), .slice a n c, .func (.func 38) #[] #[]] w fun e w' => e = .returned (.bool true) ∧ Below w.heap.size w w' := by
  by_cases hn : 60 < n
  · exact plays_bal_no x a n c w hn
  · cases hk : newOk x with
    | false => exact plays_bal_in x a n c w (by omega) hQ hk
    | true => exact plays_bal_ok x a n c x0 w (by omega) hQ hk el HC
end Go.Proofs.Ytjnocbjngojigaa
