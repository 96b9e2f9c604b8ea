/-
  Bodies: what turns them in a tick.
-/
import Derived.Test.YtjnocbjngojigaaBdQ
import Derived.Test.YtjnocbjngojigaaBetV
import Derived.Test.YtjnocbjngojigaaBet
set_option linter.unusedSimpArgs false
set_option linter.unusedVariables false
namespace Go.Proofs.Ytjnocbjngojigaa
open Go.RowKit PM Dt
theorem StepB.turn {X Y : BSt} {D : Nat → Int} (h : StepB X Y D) (k : BI X) (hne : ((List.range 4).all fun j => Y.Q j == X.Q j) = false) :
    ∃ l : Nat → Int, Y.Q = turnF X.Q (mulF 2 l) ∧ l = momG X.Q X.T Y.h ∧ vsubF (qbackF X.Q X.T) (sumW Y.h) = l ∧ vsubE (qbackF X.Q X.T) (sumW Y.h) = 0 ∧ ∀ i, i < 3 → -34603008 ≤ l i ∧ l i ≤ 34603008 := by
  have self : ((List.range 4).all fun j => X.Q j == X.Q j) = true := by simp
  rcases h with ⟨i, rfl, _⟩ | ⟨c, t, rfl, _⟩
  · exact absurd hne (by rw [show (failX X i).Q = X.Q from rfl, self]; decide)
  · unfold tickX at hne ⊢
    cases ht : smallB t 1048576 with
    | false => rw [ht] at hne; exact absurd hne (by rw [show (if false = true then (⟨tickQ X c, if allB (tickS X c t) then tickS X c t else X.T, tickH X c, X.f⟩ : BSt) else X).Q = X.Q from rfl, self]; decide)
    | true =>
      rw [ht] at hne
      replace hne : ((List.range 4).all fun j => tickQ X c j == X.Q j) = false := hne
      refine ⟨tickL X c, ?_, rfl, rfl, ?_, fun i hi => momG_bd k.q k.v k.t (k.s.step c) hi⟩
      · show tickQ X c = _
        unfold tickQ attG at hne ⊢
        cases hz : zV (tickL X c) with
        | true => rw [hz] at hne; exact absurd hne (by rw [if_pos rfl, self]; decide)
        | false => rfl
      · show vsubE (qbackF X.Q X.T) (sumW (tickH X c)) = 0
        have hS := k.s.step c
        obtain ⟨_, hb⟩ := momG_eq k.q k.v k.t hS
        have k1 : okV (qbackF X.Q X.T) = true := (okV_iff _).2 fun i hi => (vb_iff _).2 (by have := (hb i hi).1; omega)
        have k2 : okV (sumW (tickH X c)) = true := (okV_iff _).2 fun i hi => (vb_iff _).2 (by have := sumW_bd hS hi; unfold tickH; omega)
        have k3 : okV (subF (qbackF X.Q X.T) (sumW (tickH X c))) = true := (okV_iff _).2 fun i hi => (vb_iff _).2 (by have := (hb i hi).1; have := sumW_bd hS hi; unfold subF tickH; omega)
        unfold vsubE resE
        rw [k1, k2, k3]
        rfl
theorem qfn_of (F : Nat → Int) : #[Value.int .i64 (F 0), .int .i64 (F 1), .int .i64 (F 2), .int .i64 (F 3)] = qfn F := by unfold qfn; rfl
set_option maxRecDepth 100000 in
set_option maxHeartbeats 4000000 in
theorem ctrn_eq (X Y : BSt) (D : Nat → Int) (lo b : Nat) (w : World) (ho : bod lo b w Y) (he : ((List.range 4).all fun j => Y.Q j == X.Q j) = true) : Calls Try.prog 44 #[.pointer (some ⟨b, 0, none⟩), .agg (qfn X.Q), .agg (vfn X.T), .agg (vfn D)] w fun e w' => e = .returned (.bool true) ∧ Below w.heap.size w w' := by
  have AT := Lib.hid (fun w (h : bod lo b w Y) => battitude_any Y lo b w h)
  have E1 := quat_eq Y.Q X.Q
  rw [he] at E1
  clear he
  go_enter Try.func44, Try.ntmps44
  go_upto_region 1 with (fail)
  have q : blk (((w.alloc (.cells (qfn X.Q) 23)).alloc (.cells (vfn X.T) 25)).alloc (.cells (vfn D) 25)) w.heap.size (qfn X.Q) 23 := ((blk.new _ _ _).alloc _).alloc _
  have d : blk (((w.alloc (.cells (qfn X.Q) 23)).alloc (.cells (vfn X.T) 25)).alloc (.cells (vfn D) 25)) (w.heap.size + 1) (vfn X.T) 25 := (blk.new' (by simp)).alloc _
  have ch : blk (((w.alloc (.cells (qfn X.Q) 23)).alloc (.cells (vfn X.T) 25)).alloc (.cells (vfn D) 25)) (w.heap.size + 2) (vfn D) 25 := blk.new' (by simp)
  have hB : Below w.heap.size w (((w.alloc (.cells (qfn X.Q) 23)).alloc (.cells (vfn X.T) 25)).alloc (.cells (vfn D) 25)) := by go_grown
  generalize (((w.alloc (.cells (qfn X.Q) 23)).alloc (.cells (vfn X.T) 25)).alloc (.cells (vfn D) 25)) = w0 at *
  have o := ho.below hB ho.lt
  clear ho
  have lt_q := q.lt
  have lt_d := d.lt
  have lt_ch := ch.lt
  have lt_o := o.lt
  have hW0 : w.heap.size ≤ w0.heap.size := by have := hB.size; first | exact this | simpa using this
  apply wp_region_I 4 [0, 1, 0, 7] [] [_, _, _, _] (fun p L w' => w0.heap.size ≤ w'.heap.size ∧ Below w.heap.size w w' ∧ blk w' w.heap.size (qfn X.Q) 23 ∧ blk w' (w.heap.size + 1) (vfn X.T) 25 ∧ blk w' (w.heap.size + 2) (vfn D) 25 ∧ bod lo b w' (Y)) _ [(0, 19), (1, 20), (2, 21), (3, 22)] [0, 1, 2, 3]
  case hn => rfl
  case hm => kernel_rfl
  case hB => kernel_rfl
  case hds => kernel_rfl
  case hA => (intro p; simp only [putsD, Act.put, List.setIfInBounds_toArray, List.set_cons_zero, List.set_cons_succ, List.getD_cons_zero, List.getD_cons_succ]; exact rfl)
  case h0 => exact fun p => ⟨Nat.le_refl _, hB.drew, q.drew, d.drew, ch.drew, o.drew⟩
  case hmore => exact fun p L w1 w2 ⟨hsz, hB, q, d, ch, o⟩ hm => ⟨Nat.le_trans hsz hm.size, hB.trans (hm.mono (Nat.le_trans hW0 hsz)), q.below hm q.lt, d.below hm d.lt, ch.below hm ch.lt, o.below hm o.lt⟩
  case hs =>
    intro more
    refine stepV 0 rfl rfl (fun _ _ _ h => h) ?_ ?_
    · intros; go_simp; exact ⟨rfl, rfl⟩
    refine stepD 1 rfl (fun p => rfl) (fun _ _ _ h => h) more ?_ ?_
    · rintro p L w1 ⟨hsz, hB, q, d, ch, o⟩ hk
      go_simp
      refine (AT.out _ o).mono ?_
      rintro e w2 ⟨rfl, h2⟩
      first | exact ⟨rfl, h2⟩ | (subst h2; exact ⟨rfl, Below.refl _ _⟩)
    refine stepV 2 rfl rfl (fun _ _ _ h => h) ?_ ?_
    · rintro p L w1 ⟨hsz, hB, q, d, ch, o⟩ hk
      first | exact valR_row _ _ rfl _ rfl _ _ q _ Try.underlying23 rfl (by first | kernel_rfl | (rw [qfn_size]; kernel_rfl)) rfl | (have hc := q.cellIs (qfn_get _ (show 0 < 4 by omega)); go_simp; exact ⟨rfl, rfl⟩)
    refine stepV 3 rfl rfl (fun _ _ _ h => h) ?_ ?_
    · intros; go_simp; exact ⟨rfl, rfl⟩
    exact AllI.nil
  case hV0 => exact fun p q => AllI.nil
  case he =>
  clear hB q d ch o
  rintro p w0r ⟨hsz, hB, q, d, ch, o⟩
  clear lt_q
  clear lt_d
  clear lt_ch
  clear lt_o
  clear hsz hW0
  go_wp2_with (fail)
  go_ret
  exact ⟨rfl, hB⟩
set_option maxRecDepth 100000 in
set_option maxHeartbeats 12000000 in
theorem ctrn_ne (X Y : BSt) (D : Nat → Int) (lo b : Nat) (w : World) (ho : bod lo b w Y) (kX : BI X) (kY : BI Y) (hs : StepB X Y D) (he : ((List.range 4).all fun j => Y.Q j == X.Q j) = false) : Calls Try.prog 44 #[.pointer (some ⟨b, 0, none⟩), .agg (qfn X.Q), .agg (vfn X.T), .agg (vfn D)] w fun e w' => e = .returned (.bool true) ∧ Below w.heap.size w w' := by
  obtain ⟨l, hQ, hl, sF, sE, hb⟩ := hs.turn kX he
  have hv : smallB (mulF 2 l) 268435456 = true := (smallB_iff _ _).2 fun i hi => (sb_iff _ _).2 (by have := hb i hi; unfold mulF; omega)
  obtain ⟨_, _, _, bE, uE, cmp⟩ := between_valid kX.q kX.v hv
  rw [← hQ] at bE cmp
  have AT := Lib.hid (fun w (h : bod lo b w Y) => battitude_any Y lo b w h)
  have SP := Lib.hid (fun w (h : bod lo b w Y) => bspeeds_any Y lo b w h)
  have BA := Lib.hid (fun w => qback_any X.Q X.T w kX.q)
  rw [(momG_eq kX.q kX.v kX.t kX.s).1] at BA
  have SU := Lib.hid (fun w => vsub_any (qbackF X.Q X.T) (sumW Y.h) w)
  rw [sF, sE] at SU
  have BE := Lib.hid (fun w => between_any X.Q Y.Q w kX.q kY.q)
  rw [bE] at BE
  have UN := Lib.hid (fun w => qunit_any (rq (mulF 2 l)) w)
  rw [uE] at UN
  have E1 := quat_eq Y.Q X.Q
  rw [he] at E1
  have f0 : IntKind.i64.wrap (Y.h 0 + Y.h 3) = sumW Y.h 0 := by have := sumW_bd kY.s (i := 0) (by omega); unfold sumW at this ⊢; rw [IntKind.wrap_i64]; omega
  have g0 : IntKind.i64.wrap (2 * l 0) = mulF 2 l 0 := by have := hb 0 (by omega); unfold mulF; rw [IntKind.wrap_i64]; omega
  have f1 : IntKind.i64.wrap (Y.h 1 + Y.h 3) = sumW Y.h 1 := by have := sumW_bd kY.s (i := 1) (by omega); unfold sumW at this ⊢; rw [IntKind.wrap_i64]; omega
  have g1 : IntKind.i64.wrap (2 * l 1) = mulF 2 l 1 := by have := hb 1 (by omega); unfold mulF; rw [IntKind.wrap_i64]; omega
  have f2 : IntKind.i64.wrap (Y.h 2 + Y.h 3) = sumW Y.h 2 := by have := sumW_bd kY.s (i := 2) (by omega); unfold sumW at this ⊢; rw [IntKind.wrap_i64]; omega
  have g2 : IntKind.i64.wrap (2 * l 2) = mulF 2 l 2 := by have := hb 2 (by omega); unfold mulF; rw [IntKind.wrap_i64]; omega
  replace cmp := Lib.hid cmp
  clear hQ hl sF sE hb hv bE uE he hs kX kY
  generalize betF X.Q Y.Q = Bt at *
  generalize qunF (rq (mulF 2 l)) = Un at *
  generalize qbackF X.Q X.T = Qb at *
  go_enter Try.func44, Try.ntmps44
  go_upto_region 1 with (fail)
  have q : blk (((w.alloc (.cells (qfn X.Q) 23)).alloc (.cells (vfn X.T) 25)).alloc (.cells (vfn D) 25)) w.heap.size (qfn X.Q) 23 := ((blk.new _ _ _).alloc _).alloc _
  have d : blk (((w.alloc (.cells (qfn X.Q) 23)).alloc (.cells (vfn X.T) 25)).alloc (.cells (vfn D) 25)) (w.heap.size + 1) (vfn X.T) 25 := (blk.new' (by simp)).alloc _
  have ch : blk (((w.alloc (.cells (qfn X.Q) 23)).alloc (.cells (vfn X.T) 25)).alloc (.cells (vfn D) 25)) (w.heap.size + 2) (vfn D) 25 := blk.new' (by simp)
  have hB : Below w.heap.size w (((w.alloc (.cells (qfn X.Q) 23)).alloc (.cells (vfn X.T) 25)).alloc (.cells (vfn D) 25)) := by go_grown
  generalize (((w.alloc (.cells (qfn X.Q) 23)).alloc (.cells (vfn X.T) 25)).alloc (.cells (vfn D) 25)) = w0 at *
  have o := ho.below hB ho.lt
  clear ho
  have lt_q := q.lt
  have lt_d := d.lt
  have lt_ch := ch.lt
  have lt_o := o.lt
  have hW0 : w.heap.size ≤ w0.heap.size := by have := hB.size; first | exact this | simpa using this
  apply wp_region_I 4 [0, 1, 0, 7] [] [_, _, _, _] (fun p L w' => w0.heap.size ≤ w'.heap.size ∧ Below w.heap.size w w' ∧ blk w' w.heap.size (qfn X.Q) 23 ∧ blk w' (w.heap.size + 1) (vfn X.T) 25 ∧ blk w' (w.heap.size + 2) (vfn D) 25 ∧ bod lo b w' (Y)) _ [(0, 19), (1, 20), (2, 21), (3, 22)] [0, 1, 2, 3]
  case hn => rfl
  case hm => kernel_rfl
  case hB => kernel_rfl
  case hds => kernel_rfl
  case hA => (intro p; simp only [putsD, Act.put, List.setIfInBounds_toArray, List.set_cons_zero, List.set_cons_succ, List.getD_cons_zero, List.getD_cons_succ]; exact rfl)
  case h0 => exact fun p => ⟨Nat.le_refl _, hB.drew, q.drew, d.drew, ch.drew, o.drew⟩
  case hmore => exact fun p L w1 w2 ⟨hsz, hB, q, d, ch, o⟩ hm => ⟨Nat.le_trans hsz hm.size, hB.trans (hm.mono (Nat.le_trans hW0 hsz)), q.below hm q.lt, d.below hm d.lt, ch.below hm ch.lt, o.below hm o.lt⟩
  case hs =>
    intro more
    refine stepV 0 rfl rfl (fun _ _ _ h => h) ?_ ?_
    · intros; go_simp; exact ⟨rfl, rfl⟩
    refine stepD 1 rfl (fun p => rfl) (fun _ _ _ h => h) more ?_ ?_
    · rintro p L w1 ⟨hsz, hB, q, d, ch, o⟩ hk
      go_simp
      refine (AT.out _ o).mono ?_
      rintro e w2 ⟨rfl, h2⟩
      first | exact ⟨rfl, h2⟩ | (subst h2; exact ⟨rfl, Below.refl _ _⟩)
    refine stepV 2 rfl rfl (fun _ _ _ h => h) ?_ ?_
    · rintro p L w1 ⟨hsz, hB, q, d, ch, o⟩ hk
      first | exact valR_row _ _ rfl _ rfl _ _ q _ Try.underlying23 rfl (by first | kernel_rfl | (rw [qfn_size]; kernel_rfl)) rfl | (have hc := q.cellIs (qfn_get _ (show 0 < 4 by omega)); go_simp; exact ⟨rfl, rfl⟩)
    refine stepV 3 rfl rfl (fun _ _ _ h => h) ?_ ?_
    · intros; go_simp; exact ⟨rfl, rfl⟩
    exact AllI.nil
  case hV0 => exact fun p q => AllI.nil
  case he =>
  clear hB q d ch o
  rintro p w0r ⟨hsz, hB, q, d, ch, o⟩
  clear lt_q
  clear lt_d
  clear lt_ch
  clear lt_o
  clear hsz hW0
  go_upto_region 3 with (fail)
  clear E1
  have lt_q := q.lt
  have lt_d := d.lt
  have lt_o := o.lt
  have hW0 : w.heap.size ≤ w0r.heap.size := by have := hB.size; first | exact this | simpa using this
  apply wp_region_Q 9 [0, 1, 3, 7, 15, 31, 63, 127, 255] [6] [_, _, _, _, _, _, (fun p => .pointer (some ⟨p 6, 0, none⟩)), (fun _ => undef), _] (fun p L w' => w0r.heap.size ≤ w'.heap.size ∧ Below w.heap.size w w' ∧ blk w' w.heap.size (qfn X.Q) 23 ∧ blk w' (w.heap.size + 1) (vfn X.T) 25 ∧ bod lo b w' (Y) ∧ (L 6 = true → w0r.heap.size ≤ p 6 ∧ blk w' (p 6) (bif L 7 then (vfn Qb) else (vfn fun _ => 0)) 25)) _ [(0, 24), (1, 25), (2, 26), (3, 23), (4, 27), (5, 28), (6, 9), (8, 10)] [0, 1, 2, 3, 4, 5, 6, 7, 8]
  case hn => rfl
  case hB => kernel_rfl
  case hds => kernel_rfl
  case hA => (intro p; simp only [putsD, Act.put, List.setIfInBounds_toArray, List.set_cons_zero, List.set_cons_succ, List.getD_cons_zero, List.getD_cons_succ]; exact rfl)
  case h0 => exact fun p => ⟨Nat.le_refl _, hB, q, d, o, fun h => absurd h (by decide)⟩
  case hmore => exact fun p L w1 w2 ⟨hsz, hB, q, d, o, h_al⟩ hm => ⟨Nat.le_trans hsz hm.size, hB.trans (hm.mono (Nat.le_trans hW0 hsz)), q.below hm q.lt, d.below hm d.lt, o.below hm o.lt, fun hl => ⟨(h_al hl).1, (h_al hl).2.below hm (h_al hl).2.lt⟩⟩
  case hs =>
    intro more
    refine stepV 0 rfl rfl (fun _ _ _ h => h) ?_ ?_
    · rintro p L w1 ⟨hsz, hB, q, d, o, h_al⟩ hk
      have L7 : L 7 = false := hk.2.2 7 rfl
      first | exact valR_row _ _ rfl _ rfl _ _ q _ Try.underlying23 rfl (by first | kernel_rfl | (rw [qfn_size]; kernel_rfl)) rfl | (have hc := q.cellIs (qfn_get _ (show 0 < 4 by omega)); go_simp; exact ⟨rfl, rfl⟩)
    refine stepV 1 rfl rfl (fun _ _ _ h => h) ?_ ?_
    · rintro p L w1 ⟨hsz, hB, q, d, o, h_al⟩ hk
      have L7 : L 7 = false := hk.2.2 7 rfl
      first | exact valR_row _ _ rfl _ rfl _ _ d _ Try.underlying25 rfl (by first | kernel_rfl | (rw [vfn_size]; kernel_rfl)) rfl | (have hc := d.cellIs (vfn_get _ (show 0 < 3 by omega)); go_simp; exact ⟨rfl, rfl⟩)
    refine stepD 2 rfl (fun p => rfl) (fun _ _ _ h => h) more ?_ ?_
    · rintro p L w1 ⟨hsz, hB, q, d, o, h_al⟩ hk
      go_simp
      refine (BA.out _).mono ?_
      rintro e w2 ⟨rfl, h2⟩
      first | exact ⟨rfl, h2⟩ | (subst h2; exact ⟨rfl, Below.refl _ _⟩)
    refine stepV 3 rfl rfl (fun _ _ _ h => h) ?_ ?_
    · intros; go_simp; exact ⟨rfl, rfl⟩
    refine stepV 4 rfl rfl (fun _ _ _ h => h) ?_ ?_
    · intros; go_simp; exact ⟨rfl, rfl⟩
    refine stepV 5 rfl rfl (fun _ _ _ h => h) ?_ ?_
    · intros; go_simp; exact ⟨rfl, rfl⟩
    refine AllI.cons ?_ ?_
    · refine stepI_alloc 6 rfl (fun p => rfl) rfl (vfn fun _ => 0) 25 (fun p => rfl) ?_ ?_
      · intro p w1
        go_simp
        first | rfl | rw [zero_vec]
      rintro p L w1 ⟨hsz, hB, q, d, o, h_al⟩ hk
      have L7 : L 7 = false := hk.2.2 7 rfl
      refine ⟨Nat.le_trans hsz (by simp), hB.alloc (Nat.le_trans (by first | exact hW0 | (have := hB.size; simp at this ⊢; omega)) hsz) _, q.alloc _, d.alloc _, o.alloc _, fun _ => ⟨hsz, ?_⟩⟩
      rw [show upL L 6 7 = false from L7]
      exact blk.new _ _ _
    refine AllI.cons ?_ ?_
    · refine stepI_store 7 rfl (fun p => rfl) (fun p => rfl) _ _ _ rfl (fun p => p 6) 0 (fun p => rfl) (fun p => (vfn Qb)) (fun p => rfl) (fun p => (vfn fun _ => 0)) (fun p => (vfn Qb)) 25 (fun p => over_v _ _) (fun p => by first | (rw [vfn_size, vfn_size]; decide) | simp [vfn_size, vfn_size]) (fun p => by rw [vfn_size]; kernel_rfl) (fun p => vfn_one _) ?_ ?_
      · rintro p L w1 ⟨hsz, hB, q, d, o, h_al⟩ hk
        have L7 : L 7 = false := hk.1
        have hh := (h_al (hk.2.1 6 rfl)).2
        rw [L7] at hh
        try simp only [cond_true, cond_false] at hh
        exact hh
      · rintro p L w1 ⟨hsz, hB, q, d, o, h_al⟩ hk
        have L7 : L 7 = false := hk.1
        skip
        have hp := h_al (hk.2.1 6 rfl)
        refine ⟨(by simpa using hsz), Below.setRow hB (by first | exact Nat.le_trans hW0 hp.1 | exact ge_al | omega | (have := hB.size; simp at this ⊢; omega)) _, q.rowOther (by first | exact Nat.ne_of_lt (Nat.lt_of_lt_of_le lt_q hp.1) | omega) _, d.rowOther (by first | exact Nat.ne_of_lt (Nat.lt_of_lt_of_le lt_d hp.1) | omega) _, o.rowOther (.inr (Nat.lt_of_lt_of_le lt_o hp.1)) _, fun _ => ⟨hp.1, ?_⟩⟩
        rw [show upL L 7 7 = true from rfl]
        exact hp.2.row _
    refine stepV 8 rfl rfl (fun _ _ _ h => h) ?_ ?_
    · intros; go_simp; exact ⟨rfl, rfl⟩
    exact AllI.nil
  case hV0 =>
    intro p q
    refine AllI.cons ?_ ?_
    · skip
      iterate 9 (refine AllI.cons (by first | exact .inl rfl | (refine .inr ?_; simp only [List.getD_cons_zero, List.getD_cons_succ]; done) | exact .inr rfl) ?_)
      exact AllI.nil
    exact AllI.nil
  case he =>
  clear hB q d o
  rintro p w0rr ⟨hsz, hB, q, d, o, h_al⟩
  obtain ⟨le_al, al⟩ := h_al rfl
  clear h_al
  replace al : blk w0rr (p 6) (vfn Qb) 25 := al
  have ne_q_al : w.heap.size ≠ p 6 := Nat.ne_of_lt (Nat.lt_of_lt_of_le lt_q le_al)
  have ne_d_al : (w.heap.size + 1) ≠ p 6 := Nat.ne_of_lt (Nat.lt_of_lt_of_le lt_d le_al)
  have ne_o_al : b ≠ p 6 := Nat.ne_of_lt (Nat.lt_of_lt_of_le lt_o le_al)
  have ge_al : w.heap.size ≤ p 6 := Nat.le_trans hW0 le_al
  have out_al : b < p 6 := Nat.lt_of_lt_of_le lt_o le_al
  generalize p 6 = al_b at *
  clear lt_q
  clear lt_d
  clear lt_o
  clear hsz hW0
  go_upto_region 4 with (fail)
  have lt_o := o.lt
  have lt_q := q.lt
  have lt_al := al.lt
  have hW0 : w.heap.size ≤ w0rr.heap.size := by have := hB.size; first | exact this | simpa using this
  apply wp_region_Q 4 [0, 1, 3, 7] [2] [_, _, (fun p => .pointer (some ⟨p 2, 0, none⟩)), (fun _ => undef)] (fun p L w' => w0rr.heap.size ≤ w'.heap.size ∧ Below w.heap.size w w' ∧ bod lo b w' (Y) ∧ blk w' w.heap.size (qfn X.Q) 23 ∧ blk w' al_b (vfn Qb) 25 ∧ (L 2 = true → w0rr.heap.size ≤ p 2 ∧ blk w' (p 2) (bif L 3 then (qfn Y.h) else (qfn fun _ => 0)) 22)) _ [(0, 29), (1, 30), (2, 11)] [0, 1, 2, 3]
  case hn => rfl
  case hB => kernel_rfl
  case hds => kernel_rfl
  case hA => (intro p; simp only [putsD, Act.put, List.setIfInBounds_toArray, List.set_cons_zero, List.set_cons_succ, List.getD_cons_zero, List.getD_cons_succ]; exact rfl)
  case h0 => exact fun p => ⟨Nat.le_refl _, hB, o, q, al, fun h => absurd h (by decide)⟩
  case hmore => exact fun p L w1 w2 ⟨hsz, hB, o, q, al, h_h⟩ hm => ⟨Nat.le_trans hsz hm.size, hB.trans (hm.mono (Nat.le_trans hW0 hsz)), o.below hm o.lt, q.below hm q.lt, al.below hm al.lt, fun hl => ⟨(h_h hl).1, (h_h hl).2.below hm (h_h hl).2.lt⟩⟩
  case hs =>
    intro more
    refine stepV 0 rfl rfl (fun _ _ _ h => h) ?_ ?_
    · intros; go_simp; exact ⟨rfl, rfl⟩
    refine stepD 1 rfl (fun p => rfl) (fun _ _ _ h => h) more ?_ ?_
    · rintro p L w1 ⟨hsz, hB, o, q, al, h_h⟩ hk
      have L3 : L 3 = false := hk.2.2 3 rfl
      go_simp
      refine (SP.out _ o).mono ?_
      rintro e w2 ⟨rfl, h2⟩
      first | exact ⟨rfl, h2⟩ | (subst h2; exact ⟨rfl, Below.refl _ _⟩)
    refine AllI.cons ?_ ?_
    · refine stepI_alloc 2 rfl (fun p => rfl) rfl (qfn fun _ => 0) 22 (fun p => rfl) ?_ ?_
      · intro p w1
        go_simp
        first | rfl | rw [zero_spd]
      rintro p L w1 ⟨hsz, hB, o, q, al, h_h⟩ hk
      have L3 : L 3 = false := hk.2.2 3 rfl
      refine ⟨Nat.le_trans hsz (by simp), hB.alloc (Nat.le_trans (by first | exact hW0 | (have := hB.size; simp at this ⊢; omega)) hsz) _, o.alloc _, q.alloc _, al.alloc _, fun _ => ⟨hsz, ?_⟩⟩
      rw [show upL L 2 3 = false from L3]
      exact blk.new _ _ _
    refine AllI.cons ?_ ?_
    · refine stepI_store 3 rfl (fun p => rfl) (fun p => rfl) _ _ _ rfl (fun p => p 2) 0 (fun p => rfl) (fun p => (qfn Y.h)) (fun p => rfl) (fun p => (qfn fun _ => 0)) (fun p => (qfn Y.h)) 22 (fun p => over_qq _ _) (fun p => by first | (rw [qfn_size, qfn_size]; decide) | simp [qfn_size, qfn_size]) (fun p => by rw [qfn_size]; kernel_rfl) (fun p => qfn_one _) ?_ ?_
      · rintro p L w1 ⟨hsz, hB, o, q, al, h_h⟩ hk
        have L3 : L 3 = false := hk.1
        have hh := (h_h (hk.2.1 2 rfl)).2
        rw [L3] at hh
        try simp only [cond_true, cond_false] at hh
        exact hh
      · rintro p L w1 ⟨hsz, hB, o, q, al, h_h⟩ hk
        have L3 : L 3 = false := hk.1
        skip
        have hp := h_h (hk.2.1 2 rfl)
        refine ⟨(by simpa using hsz), Below.setRow hB (by first | exact Nat.le_trans hW0 hp.1 | exact ge_h | omega | (have := hB.size; simp at this ⊢; omega)) _, o.rowOther (.inr (Nat.lt_of_lt_of_le lt_o hp.1)) _, q.rowOther (by first | exact Nat.ne_of_lt (Nat.lt_of_lt_of_le lt_q hp.1) | omega) _, al.rowOther (by first | exact Nat.ne_of_lt (Nat.lt_of_lt_of_le lt_al hp.1) | omega) _, fun _ => ⟨hp.1, ?_⟩⟩
        rw [show upL L 3 3 = true from rfl]
        exact hp.2.row _
    exact AllI.nil
  case hV0 =>
    intro p q
    refine AllI.cons ?_ ?_
    · skip
      iterate 4 (refine AllI.cons (by first | exact .inl rfl | (refine .inr ?_; simp only [List.getD_cons_zero, List.getD_cons_succ]; done) | exact .inr rfl) ?_)
      exact AllI.nil
    exact AllI.nil
  case he =>
  clear hB o q al
  rintro p w0rrr ⟨hsz, hB, o, q, al, h_h⟩
  obtain ⟨le_h, h⟩ := h_h rfl
  clear h_h
  replace h : blk w0rrr (p 2) (qfn Y.h) 22 := h
  have ne_o_h : b ≠ p 2 := Nat.ne_of_lt (Nat.lt_of_lt_of_le lt_o le_h)
  have ne_q_h : w.heap.size ≠ p 2 := Nat.ne_of_lt (Nat.lt_of_lt_of_le lt_q le_h)
  have ne_al_h : al_b ≠ p 2 := Nat.ne_of_lt (Nat.lt_of_lt_of_le lt_al le_h)
  have ge_h : w.heap.size ≤ p 2 := Nat.le_trans hW0 le_h
  have out_h : b < p 2 := Nat.lt_of_lt_of_le lt_o le_h
  generalize p 2 = h_b at *
  clear lt_o
  clear lt_q
  clear lt_al
  clear hsz hW0
  go_upto_region 5 with (fail)
  have lt_o := o.lt
  have lt_q := q.lt
  have lt_al := al.lt
  have lt_h := h.lt
  have hW0 : w.heap.size ≤ w0rrr.heap.size := by have := hB.size; first | exact this | simpa using this
  apply wp_region_Q 24 [0, 1, 3, 7, 15, 31, 63, 127, 255, 511, 1023, 2047, 4095, 8191, 16383, 32767, 65535, 131071, 262143, 524287, 1048575, 2097151, 4194303, 8388607] [21] [_, _, _, _, _, _, _, _, _, _, _, _, _, _, _, _, _, _, _, _, _, (fun p => .pointer (some ⟨p 21, 0, none⟩)), (fun _ => undef), _] (fun p L w' => w0rrr.heap.size ≤ w'.heap.size ∧ Below w.heap.size w w' ∧ bod lo b w' (Y) ∧ blk w' w.heap.size (qfn X.Q) 23 ∧ blk w' al_b (vfn Qb) 25 ∧ blk w' h_b (qfn Y.h) 22 ∧ (L 21 = true → w0rrr.heap.size ≤ p 21 ∧ blk w' (p 21) (bif L 22 then (vfn l) else (vfn fun _ => 0)) 25)) _ [(0, 32), (1, 33), (2, 34), (3, 35), (4, 36), (5, 37), (6, 38), (7, 39), (8, 40), (9, 41), (10, 42), (11, 43), (12, 44), (13, 45), (14, 46), (15, 47), (16, 48), (17, 49), (18, 31), (19, 50), (20, 51), (21, 12), (23, 13)] [0, 1, 2, 3, 4, 5, 6, 7, 8, 9, 10, 11, 12, 13, 14, 15, 16, 17, 18, 19, 20, 21, 22, 23]
  case hn => rfl
  case hB => kernel_rfl
  case hds => kernel_rfl
  case hA => (intro p; simp only [putsD, Act.put, List.setIfInBounds_toArray, List.set_cons_zero, List.set_cons_succ, List.getD_cons_zero, List.getD_cons_succ]; exact rfl)
  case h0 => exact fun p => ⟨Nat.le_refl _, hB, o, q, al, h, fun h => absurd h (by decide)⟩
  case hmore => exact fun p L w1 w2 ⟨hsz, hB, o, q, al, h, h_lv⟩ hm => ⟨Nat.le_trans hsz hm.size, hB.trans (hm.mono (Nat.le_trans hW0 hsz)), o.below hm o.lt, q.below hm q.lt, al.below hm al.lt, h.below hm h.lt, fun hl => ⟨(h_lv hl).1, (h_lv hl).2.below hm (h_lv hl).2.lt⟩⟩
  case hs =>
    intro more
    refine stepV 0 rfl rfl (fun _ _ _ h => h) ?_ ?_
    · rintro p L w1 ⟨hsz, hB, o, q, al, h, h_lv⟩ hk
      have L22 : L 22 = false := hk.2.2 22 rfl
      first | exact valR_row _ _ rfl _ rfl _ _ al _ Try.underlying25 rfl (by first | kernel_rfl | (rw [vfn_size]; kernel_rfl)) rfl | (have hc := al.cellIs (vfn_get _ (show 0 < 3 by omega)); go_simp; exact ⟨rfl, rfl⟩)
    refine stepV 1 rfl rfl (fun _ _ _ h => h) ?_ ?_
    · intros; go_simp; exact ⟨rfl, rfl⟩
    refine stepV 2 rfl rfl (fun _ _ _ h => h) ?_ ?_
    · rintro p L w1 ⟨hsz, hB, o, q, al, h, h_lv⟩ hk
      have L22 : L 22 = false := hk.2.2 22 rfl
      have hc : w1.cell? ⟨h_b, 0, none⟩ = some (.int .i64 (Y.h 0)) := h.cellIs (qfn_get _ (by omega))
      go_simp
      exact ⟨rfl, rfl⟩
    refine stepV 3 rfl rfl (fun _ _ _ h => h) ?_ ?_
    · intros; go_simp; exact ⟨rfl, rfl⟩
    refine stepV 4 rfl rfl (fun _ _ _ h => h) ?_ ?_
    · rintro p L w1 ⟨hsz, hB, o, q, al, h, h_lv⟩ hk
      have L22 : L 22 = false := hk.2.2 22 rfl
      have hc : w1.cell? ⟨h_b, 3, none⟩ = some (.int .i64 (Y.h 3)) := h.cellIs (qfn_get _ (by omega))
      go_simp
      exact ⟨rfl, rfl⟩
    refine stepV 5 rfl rfl (fun _ _ _ h => h) ?_ ?_
    · intros; go_simp; exact ⟨rfl, rfl⟩
    refine stepV 6 rfl rfl (fun _ _ _ h => h) ?_ ?_
    · intros; go_simp; exact ⟨rfl, rfl⟩
    refine stepV 7 rfl rfl (fun _ _ _ h => h) ?_ ?_
    · rintro p L w1 ⟨hsz, hB, o, q, al, h, h_lv⟩ hk
      have L22 : L 22 = false := hk.2.2 22 rfl
      have hc : w1.cell? ⟨h_b, 1, none⟩ = some (.int .i64 (Y.h 1)) := h.cellIs (qfn_get _ (by omega))
      go_simp
      exact ⟨rfl, rfl⟩
    refine stepV 8 rfl rfl (fun _ _ _ h => h) ?_ ?_
    · intros; go_simp; exact ⟨rfl, rfl⟩
    refine stepV 9 rfl rfl (fun _ _ _ h => h) ?_ ?_
    · rintro p L w1 ⟨hsz, hB, o, q, al, h, h_lv⟩ hk
      have L22 : L 22 = false := hk.2.2 22 rfl
      have hc : w1.cell? ⟨h_b, 3, none⟩ = some (.int .i64 (Y.h 3)) := h.cellIs (qfn_get _ (by omega))
      go_simp
      exact ⟨rfl, rfl⟩
    refine stepV 10 rfl rfl (fun _ _ _ h => h) ?_ ?_
    · intros; go_simp; exact ⟨rfl, rfl⟩
    refine stepV 11 rfl rfl (fun _ _ _ h => h) ?_ ?_
    · intros; go_simp; exact ⟨rfl, rfl⟩
    refine stepV 12 rfl rfl (fun _ _ _ h => h) ?_ ?_
    · rintro p L w1 ⟨hsz, hB, o, q, al, h, h_lv⟩ hk
      have L22 : L 22 = false := hk.2.2 22 rfl
      have hc : w1.cell? ⟨h_b, 2, none⟩ = some (.int .i64 (Y.h 2)) := h.cellIs (qfn_get _ (by omega))
      go_simp
      exact ⟨rfl, rfl⟩
    refine stepV 13 rfl rfl (fun _ _ _ h => h) ?_ ?_
    · intros; go_simp; exact ⟨rfl, rfl⟩
    refine stepV 14 rfl rfl (fun _ _ _ h => h) ?_ ?_
    · rintro p L w1 ⟨hsz, hB, o, q, al, h, h_lv⟩ hk
      have L22 : L 22 = false := hk.2.2 22 rfl
      have hc : w1.cell? ⟨h_b, 3, none⟩ = some (.int .i64 (Y.h 3)) := h.cellIs (qfn_get _ (by omega))
      go_simp
      exact ⟨rfl, rfl⟩
    refine stepV 15 rfl rfl (fun _ _ _ h => h) ?_ ?_
    · intros; go_simp; exact ⟨rfl, rfl⟩
    refine AllI.cons ?_ ?_
    · refine stepI_val 16 rfl (fun p => rfl) ?_ (fun _ _ _ h => h)
      intros; go_simp; exact ⟨congrArg Value.agg (vfn_of (sumW Y.h)), rfl⟩
    refine stepD 17 rfl (fun p => rfl) (fun _ _ _ h => h) more ?_ ?_
    · rintro p L w1 ⟨hsz, hB, o, q, al, h, h_lv⟩ hk
      go_simp
      refine (SU.out _).mono ?_
      rintro e w2 ⟨rfl, h2⟩
      first | exact ⟨rfl, h2⟩ | (subst h2; exact ⟨rfl, Below.refl _ _⟩)
    refine stepV 18 rfl rfl (fun _ _ _ h => h) ?_ ?_
    · intros; go_simp; exact ⟨rfl, rfl⟩
    refine stepV 19 rfl rfl (fun _ _ _ h => h) ?_ ?_
    · intros; go_simp; exact ⟨rfl, rfl⟩
    refine stepV 20 rfl rfl (fun _ _ _ h => h) ?_ ?_
    · intros; go_simp; exact ⟨rfl, rfl⟩
    refine AllI.cons ?_ ?_
    · refine stepI_alloc 21 rfl (fun p => rfl) rfl (vfn fun _ => 0) 25 (fun p => rfl) ?_ ?_
      · intro p w1
        go_simp
        first | rfl | rw [zero_vec]
      rintro p L w1 ⟨hsz, hB, o, q, al, h, h_lv⟩ hk
      have L22 : L 22 = false := hk.2.2 22 rfl
      refine ⟨Nat.le_trans hsz (by simp), hB.alloc (Nat.le_trans (by first | exact hW0 | (have := hB.size; simp at this ⊢; omega)) hsz) _, o.alloc _, q.alloc _, al.alloc _, h.alloc _, fun _ => ⟨hsz, ?_⟩⟩
      rw [show upL L 21 22 = false from L22]
      exact blk.new _ _ _
    refine AllI.cons ?_ ?_
    · refine stepI_store 22 rfl (fun p => rfl) (fun p => rfl) _ _ _ rfl (fun p => p 21) 0 (fun p => rfl) (fun p => (vfn l)) (fun p => rfl) (fun p => (vfn fun _ => 0)) (fun p => (vfn l)) 25 (fun p => over_v _ _) (fun p => by first | (rw [vfn_size, vfn_size]; decide) | simp [vfn_size, vfn_size]) (fun p => by rw [vfn_size]; kernel_rfl) (fun p => vfn_one _) ?_ ?_
      · rintro p L w1 ⟨hsz, hB, o, q, al, h, h_lv⟩ hk
        have L22 : L 22 = false := hk.1
        have hh := (h_lv (hk.2.1 21 rfl)).2
        rw [L22] at hh
        try simp only [cond_true, cond_false] at hh
        exact hh
      · rintro p L w1 ⟨hsz, hB, o, q, al, h, h_lv⟩ hk
        have L22 : L 22 = false := hk.1
        skip
        have hp := h_lv (hk.2.1 21 rfl)
        refine ⟨(by simpa using hsz), Below.setRow hB (by first | exact Nat.le_trans hW0 hp.1 | exact ge_lv | omega | (have := hB.size; simp at this ⊢; omega)) _, o.rowOther (.inr (Nat.lt_of_lt_of_le lt_o hp.1)) _, q.rowOther (by first | exact Nat.ne_of_lt (Nat.lt_of_lt_of_le lt_q hp.1) | omega) _, al.rowOther (by first | exact Nat.ne_of_lt (Nat.lt_of_lt_of_le lt_al hp.1) | omega) _, h.rowOther (by first | exact Nat.ne_of_lt (Nat.lt_of_lt_of_le lt_h hp.1) | omega) _, fun _ => ⟨hp.1, ?_⟩⟩
        rw [show upL L 22 22 = true from rfl]
        exact hp.2.row _
    refine stepV 23 rfl rfl (fun _ _ _ h => h) ?_ ?_
    · intros; go_simp; exact ⟨rfl, rfl⟩
    exact AllI.nil
  case hV0 =>
    intro p q
    refine AllI.cons ?_ ?_
    · skip
      iterate 24 (refine AllI.cons (by first | exact .inl rfl | (refine .inr ?_; simp only [List.getD_cons_zero, List.getD_cons_succ]; done) | exact .inr rfl) ?_)
      exact AllI.nil
    exact AllI.nil
  case he =>
  clear hB o q al h
  rintro p w0rrrr ⟨hsz, hB, o, q, al, h, h_lv⟩
  obtain ⟨le_lv, lv⟩ := h_lv rfl
  clear h_lv
  replace lv : blk w0rrrr (p 21) (vfn l) 25 := lv
  have ne_o_lv : b ≠ p 21 := Nat.ne_of_lt (Nat.lt_of_lt_of_le lt_o le_lv)
  have ne_q_lv : w.heap.size ≠ p 21 := Nat.ne_of_lt (Nat.lt_of_lt_of_le lt_q le_lv)
  have ne_al_lv : al_b ≠ p 21 := Nat.ne_of_lt (Nat.lt_of_lt_of_le lt_al le_lv)
  have ne_h_lv : h_b ≠ p 21 := Nat.ne_of_lt (Nat.lt_of_lt_of_le lt_h le_lv)
  have ge_lv : w.heap.size ≤ p 21 := Nat.le_trans hW0 le_lv
  have out_lv : b < p 21 := Nat.lt_of_lt_of_le lt_o le_lv
  generalize p 21 = lv_b at *
  clear lt_o
  clear lt_q
  clear lt_al
  clear lt_h
  clear hsz hW0
  go_upto_region 6 with (fail)
  clear BA SP SU f0 f1 f2
  have lt_o := o.lt
  have lt_q := q.lt
  have lt_al := al.lt
  have lt_h := h.lt
  have lt_lv := lv.lt
  have hW0 : w.heap.size ≤ w0rrrr.heap.size := by have := hB.size; first | exact this | simpa using this
  apply wp_region_I 10 [0, 0, 2, 7, 15, 31, 31, 0, 191, 511] [7] [_, _, _, _, _, _, _, (fun p => .pointer (some ⟨p 7, 0, none⟩)), (fun _ => undef), _] (fun p L w' => w0rrrr.heap.size ≤ w'.heap.size ∧ Below w.heap.size w w' ∧ bod lo b w' (Y) ∧ blk w' w.heap.size (qfn X.Q) 23 ∧ blk w' al_b (vfn Qb) 25 ∧ blk w' h_b (qfn Y.h) 22 ∧ blk w' lv_b (vfn l) 25 ∧ (L 7 = true → w0rrrr.heap.size ≤ p 7 ∧ blk w' (p 7) (bif L 8 then (qfn Bt) else (qfn fun _ => 0)) 23)) _ [(0, 53), (1, 54), (2, 55), (3, 56), (4, 52), (5, 57), (6, 58), (7, 14), (9, 15)] [0, 1, 2, 3, 4, 5, 6, 7, 8, 9]
  case hn => rfl
  case hm => kernel_rfl
  case hB => kernel_rfl
  case hds => kernel_rfl
  case hA => (intro p; simp only [putsD, Act.put, List.setIfInBounds_toArray, List.set_cons_zero, List.set_cons_succ, List.getD_cons_zero, List.getD_cons_succ]; exact rfl)
  case h0 => exact fun p => ⟨Nat.le_refl _, hB.drew, o.drew, q.drew, al.drew, h.drew, lv.drew, fun h => absurd h (by decide)⟩
  case hmore => exact fun p L w1 w2 ⟨hsz, hB, o, q, al, h, lv, h_tn⟩ hm => ⟨Nat.le_trans hsz hm.size, hB.trans (hm.mono (Nat.le_trans hW0 hsz)), o.below hm o.lt, q.below hm q.lt, al.below hm al.lt, h.below hm h.lt, lv.below hm lv.lt, fun hl => ⟨(h_tn hl).1, (h_tn hl).2.below hm (h_tn hl).2.lt⟩⟩
  case hs =>
    intro more
    refine stepV 0 rfl rfl (fun _ _ _ h => h) ?_ ?_
    · rintro p L w1 ⟨hsz, hB, o, q, al, h, lv, h_tn⟩ hk
      have L8 : L 8 = false := hk.2.2 8 rfl
      first | exact valR_row _ _ rfl _ rfl _ _ q _ Try.underlying23 rfl (by first | kernel_rfl | (rw [qfn_size]; kernel_rfl)) rfl | (have hc := q.cellIs (qfn_get _ (show 0 < 4 by omega)); go_simp; exact ⟨rfl, rfl⟩)
    refine stepV 1 rfl rfl (fun _ _ _ h => h) ?_ ?_
    · intros; go_simp; exact ⟨rfl, rfl⟩
    refine stepD 2 rfl (fun p => rfl) (fun _ _ _ h => h) more ?_ ?_
    · rintro p L w1 ⟨hsz, hB, o, q, al, h, lv, h_tn⟩ hk
      have L8 : L 8 = false := hk.2.2 8 rfl
      go_simp
      refine (AT.out _ o).mono ?_
      rintro e w2 ⟨rfl, h2⟩
      first | exact ⟨rfl, h2⟩ | (subst h2; exact ⟨rfl, Below.refl _ _⟩)
    refine stepD 3 rfl (fun p => rfl) (fun _ _ _ h => h) more ?_ ?_
    · rintro p L w1 ⟨hsz, hB, o, q, al, h, lv, h_tn⟩ hk
      go_simp
      refine (BE.out _).mono ?_
      rintro e w2 ⟨rfl, h2⟩
      first | exact ⟨rfl, h2⟩ | (subst h2; exact ⟨rfl, Below.refl _ _⟩)
    refine stepV 4 rfl rfl (fun _ _ _ h => h) ?_ ?_
    · intros; go_simp; exact ⟨rfl, rfl⟩
    refine stepV 5 rfl rfl (fun _ _ _ h => h) ?_ ?_
    · intros; go_simp; exact ⟨rfl, rfl⟩
    refine stepV 6 rfl rfl (fun _ _ _ h => h) ?_ ?_
    · intros; go_simp; exact ⟨rfl, rfl⟩
    refine AllI.cons ?_ ?_
    · refine stepI_alloc 7 rfl (fun p => rfl) rfl (qfn fun _ => 0) 23 (fun p => rfl) ?_ ?_
      · intro p w1
        go_simp
        first | rfl | rw [zero_quat]
      rintro p L w1 ⟨hsz, hB, o, q, al, h, lv, h_tn⟩ hk
      have L8 : L 8 = false := hk.2.2 8 rfl
      refine ⟨Nat.le_trans hsz (by simp), hB.alloc (Nat.le_trans (by first | exact hW0 | (have := hB.size; simp at this ⊢; omega)) hsz) _, o.alloc _, q.alloc _, al.alloc _, h.alloc _, lv.alloc _, fun _ => ⟨hsz, ?_⟩⟩
      rw [show upL L 7 8 = false from L8]
      exact blk.new _ _ _
    refine AllI.cons ?_ ?_
    · refine stepI_store 8 rfl (fun p => rfl) (fun p => rfl) _ _ _ rfl (fun p => p 7) 0 (fun p => rfl) (fun p => (qfn Bt)) (fun p => rfl) (fun p => (qfn fun _ => 0)) (fun p => (qfn Bt)) 23 (fun p => over_qq _ _) (fun p => by first | (rw [qfn_size, qfn_size]; decide) | simp [qfn_size, qfn_size]) (fun p => by rw [qfn_size]; kernel_rfl) (fun p => qfn_one _) ?_ ?_
      · rintro p L w1 ⟨hsz, hB, o, q, al, h, lv, h_tn⟩ hk
        have L8 : L 8 = false := hk.1
        have hh := (h_tn (hk.2.1 7 rfl)).2
        rw [L8] at hh
        try simp only [cond_true, cond_false] at hh
        exact hh
      · rintro p L w1 ⟨hsz, hB, o, q, al, h, lv, h_tn⟩ hk
        have L8 : L 8 = false := hk.1
        skip
        have hp := h_tn (hk.2.1 7 rfl)
        refine ⟨(by simpa using hsz), Below.setRow hB (by first | exact Nat.le_trans hW0 hp.1 | exact ge_tn | omega | (have := hB.size; simp at this ⊢; omega)) _, o.rowOther (.inr (Nat.lt_of_lt_of_le lt_o hp.1)) _, q.rowOther (by first | exact Nat.ne_of_lt (Nat.lt_of_lt_of_le lt_q hp.1) | omega) _, al.rowOther (by first | exact Nat.ne_of_lt (Nat.lt_of_lt_of_le lt_al hp.1) | omega) _, h.rowOther (by first | exact Nat.ne_of_lt (Nat.lt_of_lt_of_le lt_h hp.1) | omega) _, lv.rowOther (by first | exact Nat.ne_of_lt (Nat.lt_of_lt_of_le lt_lv hp.1) | omega) _, fun _ => ⟨hp.1, ?_⟩⟩
        rw [show upL L 8 8 = true from rfl]
        exact hp.2.row _
    refine stepV 9 rfl rfl (fun _ _ _ h => h) ?_ ?_
    · intros; go_simp; exact ⟨rfl, rfl⟩
    exact AllI.nil
  case hV0 =>
    intro p q
    refine AllI.cons ?_ ?_
    · skip
      iterate 10 (refine AllI.cons (by first | exact .inl rfl | (refine .inr ?_; simp only [List.getD_cons_zero, List.getD_cons_succ]; done) | exact .inr rfl) ?_)
      exact AllI.nil
    exact AllI.nil
  case he =>
  clear hB o q al h lv
  rintro p w0rrrrr ⟨hsz, hB, o, q, al, h, lv, h_tn⟩
  obtain ⟨le_tn, tn⟩ := h_tn rfl
  clear h_tn
  replace tn : blk w0rrrrr (p 7) (qfn Bt) 23 := tn
  have ne_o_tn : b ≠ p 7 := Nat.ne_of_lt (Nat.lt_of_lt_of_le lt_o le_tn)
  have ne_q_tn : w.heap.size ≠ p 7 := Nat.ne_of_lt (Nat.lt_of_lt_of_le lt_q le_tn)
  have ne_al_tn : al_b ≠ p 7 := Nat.ne_of_lt (Nat.lt_of_lt_of_le lt_al le_tn)
  have ne_h_tn : h_b ≠ p 7 := Nat.ne_of_lt (Nat.lt_of_lt_of_le lt_h le_tn)
  have ne_lv_tn : lv_b ≠ p 7 := Nat.ne_of_lt (Nat.lt_of_lt_of_le lt_lv le_tn)
  have ge_tn : w.heap.size ≤ p 7 := Nat.le_trans hW0 le_tn
  have out_tn : b < p 7 := Nat.lt_of_lt_of_le lt_o le_tn
  generalize p 7 = tn_b at *
  clear lt_o
  clear lt_q
  clear lt_al
  clear lt_h
  clear lt_lv
  clear hsz hW0
  go_upto_region 7 with (fail)
  clear AT BE
  have lt_o := o.lt
  have lt_q := q.lt
  have lt_al := al.lt
  have lt_h := h.lt
  have lt_lv := lv.lt
  have lt_tn := tn.lt
  have hW0 : w.heap.size ≤ w0rrrrr.heap.size := by have := hB.size; first | exact this | simpa using this
  apply wp_region_Q 17 [0, 1, 3, 7, 15, 31, 63, 127, 255, 511, 1023, 2047, 4095, 8191, 16383, 32767, 65535] [14] [_, _, _, _, _, _, _, _, _, _, _, _, _, _, (fun p => .pointer (some ⟨p 14, 0, none⟩)), (fun _ => undef), _] (fun p L w' => w0rrrrr.heap.size ≤ w'.heap.size ∧ Below w.heap.size w w' ∧ bod lo b w' (Y) ∧ blk w' w.heap.size (qfn X.Q) 23 ∧ blk w' al_b (vfn Qb) 25 ∧ blk w' h_b (qfn Y.h) 22 ∧ blk w' lv_b (vfn l) 25 ∧ blk w' tn_b (qfn Bt) 23 ∧ (L 14 = true → w0rrrrr.heap.size ≤ p 14 ∧ blk w' (p 14) (bif L 15 then (qfn Un) else (qfn fun _ => 0)) 23)) _ [(0, 60), (1, 61), (2, 62), (3, 63), (4, 64), (5, 65), (6, 66), (7, 67), (8, 68), (9, 69), (10, 70), (11, 59), (12, 71), (13, 72), (14, 16), (16, 17)] [0, 1, 2, 3, 4, 5, 6, 7, 8, 9, 10, 11, 12, 13, 14, 15, 16]
  case hn => rfl
  case hB => kernel_rfl
  case hds => kernel_rfl
  case hA => (intro p; simp only [putsD, Act.put, List.setIfInBounds_toArray, List.set_cons_zero, List.set_cons_succ, List.getD_cons_zero, List.getD_cons_succ]; exact rfl)
  case h0 => exact fun p => ⟨Nat.le_refl _, hB, o, q, al, h, lv, tn, fun h => absurd h (by decide)⟩
  case hmore => exact fun p L w1 w2 ⟨hsz, hB, o, q, al, h, lv, tn, h_wt⟩ hm => ⟨Nat.le_trans hsz hm.size, hB.trans (hm.mono (Nat.le_trans hW0 hsz)), o.below hm o.lt, q.below hm q.lt, al.below hm al.lt, h.below hm h.lt, lv.below hm lv.lt, tn.below hm tn.lt, fun hl => ⟨(h_wt hl).1, (h_wt hl).2.below hm (h_wt hl).2.lt⟩⟩
  case hs =>
    intro more
    refine stepV 0 rfl rfl (fun _ _ _ h => h) ?_ ?_
    · intros; go_simp; exact ⟨rfl, rfl⟩
    refine stepV 1 rfl rfl (fun _ _ _ h => h) ?_ ?_
    · rintro p L w1 ⟨hsz, hB, o, q, al, h, lv, tn, h_wt⟩ hk
      have L15 : L 15 = false := hk.2.2 15 rfl
      have hc : w1.cell? ⟨lv_b, 0, none⟩ = some (.int .i64 (l 0)) := lv.cellIs (vfn_get _ (by omega))
      go_simp
      exact ⟨rfl, rfl⟩
    refine stepV 2 rfl rfl (fun _ _ _ h => h) ?_ ?_
    · intros; go_simp; exact ⟨rfl, rfl⟩
    refine stepV 3 rfl rfl (fun _ _ _ h => h) ?_ ?_
    · intros; go_simp; exact ⟨rfl, rfl⟩
    refine stepV 4 rfl rfl (fun _ _ _ h => h) ?_ ?_
    · rintro p L w1 ⟨hsz, hB, o, q, al, h, lv, tn, h_wt⟩ hk
      have L15 : L 15 = false := hk.2.2 15 rfl
      have hc : w1.cell? ⟨lv_b, 1, none⟩ = some (.int .i64 (l 1)) := lv.cellIs (vfn_get _ (by omega))
      go_simp
      exact ⟨rfl, rfl⟩
    refine stepV 5 rfl rfl (fun _ _ _ h => h) ?_ ?_
    · intros; go_simp; exact ⟨rfl, rfl⟩
    refine stepV 6 rfl rfl (fun _ _ _ h => h) ?_ ?_
    · intros; go_simp; exact ⟨rfl, rfl⟩
    refine stepV 7 rfl rfl (fun _ _ _ h => h) ?_ ?_
    · rintro p L w1 ⟨hsz, hB, o, q, al, h, lv, tn, h_wt⟩ hk
      have L15 : L 15 = false := hk.2.2 15 rfl
      have hc : w1.cell? ⟨lv_b, 2, none⟩ = some (.int .i64 (l 2)) := lv.cellIs (vfn_get _ (by omega))
      go_simp
      exact ⟨rfl, rfl⟩
    refine stepV 8 rfl rfl (fun _ _ _ h => h) ?_ ?_
    · intros; go_simp; exact ⟨rfl, rfl⟩
    refine AllI.cons ?_ ?_
    · refine stepI_val 9 rfl (fun p => rfl) ?_ (fun _ _ _ h => h)
      intros; go_simp; exact ⟨congrArg Value.agg (qfn_of (rq (mulF 2 l))), rfl⟩
    refine stepD 10 rfl (fun p => rfl) (fun _ _ _ h => h) more ?_ ?_
    · rintro p L w1 ⟨hsz, hB, o, q, al, h, lv, tn, h_wt⟩ hk
      go_simp
      refine (UN.out _).mono ?_
      rintro e w2 ⟨rfl, h2⟩
      first | exact ⟨rfl, h2⟩ | (subst h2; exact ⟨rfl, Below.refl _ _⟩)
    refine stepV 11 rfl rfl (fun _ _ _ h => h) ?_ ?_
    · intros; go_simp; exact ⟨rfl, rfl⟩
    refine stepV 12 rfl rfl (fun _ _ _ h => h) ?_ ?_
    · intros; go_simp; exact ⟨rfl, rfl⟩
    refine stepV 13 rfl rfl (fun _ _ _ h => h) ?_ ?_
    · intros; go_simp; exact ⟨rfl, rfl⟩
    refine AllI.cons ?_ ?_
    · refine stepI_alloc 14 rfl (fun p => rfl) rfl (qfn fun _ => 0) 23 (fun p => rfl) ?_ ?_
      · intro p w1
        go_simp
        first | rfl | rw [zero_quat]
      rintro p L w1 ⟨hsz, hB, o, q, al, h, lv, tn, h_wt⟩ hk
      have L15 : L 15 = false := hk.2.2 15 rfl
      refine ⟨Nat.le_trans hsz (by simp), hB.alloc (Nat.le_trans (by first | exact hW0 | (have := hB.size; simp at this ⊢; omega)) hsz) _, o.alloc _, q.alloc _, al.alloc _, h.alloc _, lv.alloc _, tn.alloc _, fun _ => ⟨hsz, ?_⟩⟩
      rw [show upL L 14 15 = false from L15]
      exact blk.new _ _ _
    refine AllI.cons ?_ ?_
    · refine stepI_store 15 rfl (fun p => rfl) (fun p => rfl) _ _ _ rfl (fun p => p 14) 0 (fun p => rfl) (fun p => (qfn Un)) (fun p => rfl) (fun p => (qfn fun _ => 0)) (fun p => (qfn Un)) 23 (fun p => over_qq _ _) (fun p => by first | (rw [qfn_size, qfn_size]; decide) | simp [qfn_size, qfn_size]) (fun p => by rw [qfn_size]; kernel_rfl) (fun p => qfn_one _) ?_ ?_
      · rintro p L w1 ⟨hsz, hB, o, q, al, h, lv, tn, h_wt⟩ hk
        have L15 : L 15 = false := hk.1
        have hh := (h_wt (hk.2.1 14 rfl)).2
        rw [L15] at hh
        try simp only [cond_true, cond_false] at hh
        exact hh
      · rintro p L w1 ⟨hsz, hB, o, q, al, h, lv, tn, h_wt⟩ hk
        have L15 : L 15 = false := hk.1
        skip
        have hp := h_wt (hk.2.1 14 rfl)
        refine ⟨(by simpa using hsz), Below.setRow hB (by first | exact Nat.le_trans hW0 hp.1 | exact ge_wt | omega | (have := hB.size; simp at this ⊢; omega)) _, o.rowOther (.inr (Nat.lt_of_lt_of_le lt_o hp.1)) _, q.rowOther (by first | exact Nat.ne_of_lt (Nat.lt_of_lt_of_le lt_q hp.1) | omega) _, al.rowOther (by first | exact Nat.ne_of_lt (Nat.lt_of_lt_of_le lt_al hp.1) | omega) _, h.rowOther (by first | exact Nat.ne_of_lt (Nat.lt_of_lt_of_le lt_h hp.1) | omega) _, lv.rowOther (by first | exact Nat.ne_of_lt (Nat.lt_of_lt_of_le lt_lv hp.1) | omega) _, tn.rowOther (by first | exact Nat.ne_of_lt (Nat.lt_of_lt_of_le lt_tn hp.1) | omega) _, fun _ => ⟨hp.1, ?_⟩⟩
        rw [show upL L 15 15 = true from rfl]
        exact hp.2.row _
    refine stepV 16 rfl rfl (fun _ _ _ h => h) ?_ ?_
    · intros; go_simp; exact ⟨rfl, rfl⟩
    exact AllI.nil
  case hV0 =>
    intro p q
    refine AllI.cons ?_ ?_
    · skip
      iterate 17 (refine AllI.cons (by first | exact .inl rfl | (refine .inr ?_; simp only [List.getD_cons_zero, List.getD_cons_succ]; done) | exact .inr rfl) ?_)
      exact AllI.nil
    exact AllI.nil
  case he =>
  clear hB o q al h lv tn
  rintro p w0rrrrrr ⟨hsz, hB, o, q, al, h, lv, tn, h_wt⟩
  obtain ⟨le_wt, wt⟩ := h_wt rfl
  clear h_wt
  replace wt : blk w0rrrrrr (p 14) (qfn Un) 23 := wt
  have ne_o_wt : b ≠ p 14 := Nat.ne_of_lt (Nat.lt_of_lt_of_le lt_o le_wt)
  have ne_q_wt : w.heap.size ≠ p 14 := Nat.ne_of_lt (Nat.lt_of_lt_of_le lt_q le_wt)
  have ne_al_wt : al_b ≠ p 14 := Nat.ne_of_lt (Nat.lt_of_lt_of_le lt_al le_wt)
  have ne_h_wt : h_b ≠ p 14 := Nat.ne_of_lt (Nat.lt_of_lt_of_le lt_h le_wt)
  have ne_lv_wt : lv_b ≠ p 14 := Nat.ne_of_lt (Nat.lt_of_lt_of_le lt_lv le_wt)
  have ne_tn_wt : tn_b ≠ p 14 := Nat.ne_of_lt (Nat.lt_of_lt_of_le lt_tn le_wt)
  have ge_wt : w.heap.size ≤ p 14 := Nat.le_trans hW0 le_wt
  have out_wt : b < p 14 := Nat.lt_of_lt_of_le lt_o le_wt
  generalize p 14 = wt_b at *
  clear lt_o
  clear lt_q
  clear lt_al
  clear lt_h
  clear lt_lv
  clear lt_tn
  clear hsz hW0
  clear UN g0 g1 g2
  clear al
  clear h
  clear lv
  clear q
  go_wp2_with (fail)
  skip
  go_loopg [18] 4 (fun g_ iv wr => ∃ k : Nat, g_ + k = 4 ∧ iv = .int .i64 k ∧ bod lo b wr (Y) ∧ blk wr tn_b (qfn Bt) 23 ∧ blk wr wt_b (qfn Un) 23 ∧ Below w.heap.size w wr)
  case atStart => exact ⟨0, rfl, rfl, o, tn, wt, hB⟩
  case round =>
    clear o tn wt hB
    obtain ⟨k, hk, rfl, o, tn, wt, hB⟩ := hrel
    by_cases hkn : k < 4
    · have hdk : decide ((k : Int) < 4) = true := decide_eq_true (by omega)
      have hdk' : decide (k < 4) = true := decide_eq_true (by omega)
      have hk3 : (k : Int) < 4 := by omega
      have hw3 : IntKind.i64.wrap ((k : Int) + 1) = ((k + 1 : Nat) : Int) := by rw [IntKind.wrap_i64]; omega
      obtain ⟨c1, c2, c3, c4⟩ := cmp.out k hkn
      have a1 : IntKind.i64.wrap (Bt k - Un k) = Bt k - Un k := by rw [IntKind.wrap_i64]; omega
      have a2 : IntKind.i64.wrap (Un k - Bt k) = Un k - Bt k := by rw [IntKind.wrap_i64]; omega
      have a3 : decide (16 < Bt k - Un k) = false := decide_eq_false (by omega)
      have a4 : decide (16 < Un k - Bt k) = false := decide_eq_false (by omega)
      clear c1 c2 c3 c4
      go_upto_region 13 with (fail)
      have lt_o := o.lt
      have lt_tn := tn.lt
      have lt_wt := wt.lt
      have hW0 : w.heap.size ≤ wr.heap.size := by have := hB.size; first | exact this | simpa using this
      apply wp_region_I 18 [0, 1, 3, 0, 8, 24, 63, 127, 255, 511, 1023, 2047, 511, 4607, 12799, 32767, 65535, 131071] [] [_, _, _, _, _, _, _, _, _, _, _, _, _, _, _, _, _, _] (fun p L w' => wr.heap.size ≤ w'.heap.size ∧ Below w.heap.size w w' ∧ bod lo b w' (Y) ∧ blk w' tn_b (qfn Bt) 23 ∧ blk w' wt_b (qfn Un) 23) _ [(0, 91), (1, 92), (2, 93), (3, 94), (4, 95), (5, 96), (6, 97), (7, 98), (8, 99), (9, 100), (10, 101), (11, 102), (12, 103), (13, 104), (14, 105), (15, 106), (16, 107), (17, 108)] [0, 1, 2, 3, 4, 5, 6, 7, 8, 9, 10, 11, 12, 13, 14, 15, 16, 17]
      case hn => rfl
      case hm => kernel_rfl
      case hB => kernel_rfl
      case hds => kernel_rfl
      case hA => (intro p; simp only [putsD, Act.put, List.setIfInBounds_toArray, List.set_cons_zero, List.set_cons_succ, List.getD_cons_zero, List.getD_cons_succ]; exact rfl)
      case h0 => exact fun p => ⟨Nat.le_refl _, hB.drew, o.drew, tn.drew, wt.drew⟩
      case hmore => exact fun p L w1 w2 ⟨hsz, hB, o, tn, wt⟩ hm => ⟨Nat.le_trans hsz hm.size, hB.trans (hm.mono (Nat.le_trans hW0 hsz)), o.below hm o.lt, tn.below hm tn.lt, wt.below hm wt.lt⟩
      case hs =>
        intro more
        refine stepV 0 rfl rfl (fun _ _ _ h => h) ?_ ?_
        · intros; go_simp; exact ⟨rfl, rfl⟩
        refine stepV 1 rfl rfl (fun _ _ _ h => h) ?_ ?_
        · intros; go_simp; exact ⟨rfl, rfl⟩
        refine stepV 2 rfl rfl (fun _ _ _ h => h) ?_ ?_
        · rintro p L w1 ⟨hsz, hB, o, tn, wt⟩ hk
          have hc : w1.cell? ⟨tn_b, k, none⟩ = some (.int .i64 (Bt k)) := tn.cellIs (qfn_get _ hkn)
          go_simp
          exact ⟨rfl, rfl⟩
        refine stepV 3 rfl rfl (fun _ _ _ h => h) ?_ ?_
        · intros; go_simp; exact ⟨rfl, rfl⟩
        refine stepV 4 rfl rfl (fun _ _ _ h => h) ?_ ?_
        · intros; go_simp; exact ⟨rfl, rfl⟩
        refine stepV 5 rfl rfl (fun _ _ _ h => h) ?_ ?_
        · rintro p L w1 ⟨hsz, hB, o, tn, wt⟩ hk
          have hc : w1.cell? ⟨wt_b, k, none⟩ = some (.int .i64 (Un k)) := wt.cellIs (qfn_get _ hkn)
          go_simp
          exact ⟨rfl, rfl⟩
        refine stepV 6 rfl rfl (fun _ _ _ h => h) ?_ ?_
        · intros; go_simp; exact ⟨rfl, rfl⟩
        refine stepV 7 rfl rfl (fun _ _ _ h => h) ?_ ?_
        · intros; go_simp; exact ⟨rfl, rfl⟩
        refine stepV 8 rfl rfl (fun _ _ _ h => h) ?_ ?_
        · intros; go_simp; exact ⟨rfl, rfl⟩
        refine stepVg 9 rfl (fun p => (by first | rfl | (simp [Region.wanted, yielded]; done))) (fun _ _ _ h => h) ?_ ?_
        · intros; go_simp; exact ⟨rfl, rfl⟩
        refine stepVg 10 rfl (fun p => (by first | rfl | (simp [Region.wanted, yielded]; done))) (fun _ _ _ h => h) ?_ ?_
        · intros; go_simp; exact ⟨rfl, rfl⟩
        refine stepVg 11 rfl (fun p => (by first | rfl | (simp [Region.wanted, yielded]; done))) (fun _ _ _ h => h) ?_ ?_
        · rintro p L w1 ⟨hsz, hB, o, tn, wt⟩ hk
          have hc : w1.cell? ⟨wt_b, k, none⟩ = some (.int .i64 (Un k)) := wt.cellIs (qfn_get _ hkn)
          go_simp
          exact ⟨rfl, rfl⟩
        refine stepVg 12 rfl (fun p => (by first | rfl | (simp [Region.wanted, yielded]; done))) (fun _ _ _ h => h) ?_ ?_
        · intros; go_simp; exact ⟨rfl, rfl⟩
        refine stepVg 13 rfl (fun p => (by first | rfl | (simp [Region.wanted, yielded]; done))) (fun _ _ _ h => h) ?_ ?_
        · intros; go_simp; exact ⟨rfl, rfl⟩
        refine stepVg 14 rfl (fun p => (by first | rfl | (simp [Region.wanted, yielded]; done))) (fun _ _ _ h => h) ?_ ?_
        · rintro p L w1 ⟨hsz, hB, o, tn, wt⟩ hk
          have hc : w1.cell? ⟨tn_b, k, none⟩ = some (.int .i64 (Bt k)) := tn.cellIs (qfn_get _ hkn)
          go_simp
          exact ⟨rfl, rfl⟩
        refine stepVg 15 rfl (fun p => (by first | rfl | (simp [Region.wanted, yielded]; done))) (fun _ _ _ h => h) ?_ ?_
        · intros; go_simp; exact ⟨rfl, rfl⟩
        refine stepVg 16 rfl (fun p => (by first | rfl | (simp [Region.wanted, yielded]; done))) (fun _ _ _ h => h) ?_ ?_
        · intros; go_simp; exact ⟨rfl, rfl⟩
        refine stepV 17 rfl rfl (fun _ _ _ h => h) ?_ ?_
        · intros; go_simp; exact ⟨rfl, rfl⟩
        exact AllI.nil
      case hV0 => exact fun p q => AllI.nil
      case he =>
      clear hB o tn wt
      rintro p wrr ⟨hsz, hB, o, tn, wt⟩
      clear lt_o
      clear lt_tn
      clear lt_wt
      clear hsz hW0
      go_wp2_with (fail)
      go_roundg (4 - (k + 1))
      case rel =>
        exact ⟨k + 1, by omega, rfl, o, tn, wt, hB⟩
      case measure => omega
    · obtain rfl : k = 4 := by omega
      go_wp2_with (fail)
      go_ret
      exact ⟨rfl, hB⟩
theorem ctrn_any (X Y : BSt) (D : Nat → Int) (lo b : Nat) (w : World) (ho : bod lo b w Y) (kX : BI X) (kY : BI Y) (hs : StepB X Y D) : Calls Try.prog 44 #[.pointer (some ⟨b, 0, none⟩), .agg (qfn X.Q), .agg (vfn X.T), .agg (vfn D)] w fun e w' => e = .returned (.bool true) ∧ Below w.heap.size w w' := by
  cases he : (List.range 4).all fun j => Y.Q j == X.Q j with
  | true => exact ctrn_eq X Y D lo b w ho he
  | false => exact ctrn_ne X Y D lo b w ho kX kY hs he
end Go.Proofs.Ytjnocbjngojigaa
