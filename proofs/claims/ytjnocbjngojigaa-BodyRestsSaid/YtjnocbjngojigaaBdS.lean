/-
  Bodies at rest stay so.
-/
import Derived.Test.YtjnocbjngojigaaBdR
import Derived.Test.YtjnocbjngojigaaBdD
set_option linter.unusedSimpArgs false
set_option linter.unusedVariables false
namespace Go.Proofs.Ytjnocbjngojigaa
open Go.RowKit PM Dt
theorem bod.save {lo hi lo' b : Nat} {w w' : World} {X : BSt} (h : bod lo' b w X) (hs : Save lo hi w w') (ho : b < lo ∨ hi < lo') : bod lo' b w' X := by
  obtain ⟨s, l, u, k, j⟩ := h
  exact ⟨s, l, u, k.save hs (by omega), j.save hs (by omega)⟩
theorem spd_eq (f g : Nat → Int) (w : World) :
    (Op.equalIn 10000 22 (.agg (qfn f)) (.agg (qfn g))).run Try.prog w = .ok ((List.range 4).all fun j => f j == g j) w := by
  obtain ⟨i, hi⟩ : ∃ i, Try.prog.info? 2 = some i := Option.isSome_iff_exists.1 (by kernel_rfl)
  have hc : Try.prog.cellsOf 2 = 1 := by kernel_rfl
  exact run_equalIn_ints (P := Try.prog) Try.underlying22 hi hc Try.underlying2 f g (qfn f) (qfn g) (fun j hj => qfn_get _ hj) (fun j hj => qfn_get _ hj) 9998 w
theorem spd_eq_self (f : Nat → Int) (w : World) : (Op.equalIn 10000 22 (.agg (qfn f)) (.agg (qfn f))).run Try.prog w = .ok true w := by
  rw [spd_eq]; congr 1; simp
/-- The body whose wheels take over all of the momentum. -/
def restY (x : BSt) : BSt := ⟨x.Q, x.T, allocF (qbackF x.Q x.T) x.f, x.f⟩
theorem restY_facts {x : BSt} (hQ : ∀ i, i < 4 → I64 (x.Q i)) (h : newOk x = true) : newOk (restY x) = true ∧ okV (qbackF x.Q x.T) = true ∧ isW x.f = true ∧ (∀ i, i < 3 → momF (restY x) i = 0) ∧ (∀ i, -16777216 ≤ (restY x).h i ∧ (restY x).h i ≤ 16777216) := by
  have k := newOk_BI hQ h
  simp only [newOk, Bool.and_eq_true] at h
  obtain ⟨h1, h2, h3⟩ := h
  have hf : isW x.f = true := by simp only [newB, Bool.and_eq_true] at h1; exact h1.1
  obtain ⟨_, hm⟩ := momG_eq k.q k.v k.t k.s
  have b := fun i hi => (hm i hi).1
  have hn := allocF_new (m := 1048576) (by decide) (by decide) b hf
  have hS := (newB_SI hn).1
  refine ⟨?_, ?_, hf, fun i hi => ?_, fun i => ?_⟩
  · simp only [newOk, Bool.and_eq_true]; exact ⟨hn, h2, h3⟩
  · exact (okV_iff _).2 fun i hi => (vb_iff _).2 (by have := b i hi; omega)
  · have := ((momG_eq k.q k.v k.t hS).2 i hi).2
    rw [allocF_sum _ _ hi] at this
    show momG x.Q x.T (allocF (qbackF x.Q x.T) x.f) i = 0
    omega
  · have := allocF_bd (m := 1048576) (by decide) b hf i
    show -16777216 ≤ allocF (qbackF x.Q x.T) x.f i ∧ allocF (qbackF x.Q x.T) x.f i ≤ 16777216
    omega
set_option maxRecDepth 100000 in
set_option maxHeartbeats 4000000 in
theorem brests_no (x : BSt) (w : World) (hQ : ∀ i, i < 4 → I64 (x.Q i)) (hk : newOk x = false) : Calls Try.prog 11 #[.agg (rbc x)] w fun e w' => e = .returned (.bool true) ∧ Below w.heap.size w w' := by
  have NB := Lib.hid (fun w => bnew_no x w hQ hk)
  clear hQ hk
  have AW := Lib.hid (fun w => awake24_any w)
  go_enter Try.func11, Try.ntmps11
  go_upto_region 1 with (fail)
  have v : blk (w.alloc (.cells (rbc x) 27)) w.heap.size (rbc x) 27 := blk.new _ _ _
  have hB : Below w.heap.size w (w.alloc (.cells (rbc x) 27)) := by go_grown
  generalize (w.alloc (.cells (rbc x) 27)) = w0 at *
  have lt_v := v.lt
  have hW0 : w.heap.size ≤ w0.heap.size := by have := hB.size; first | exact this | simpa using this
  apply wp_region_Q 14 [0, 1, 3, 7, 15, 31, 63, 127, 255, 511, 1023, 2047, 4095, 8191] [] [_, _, _, _, _, _, _, _, _, _, _, _, _, _] (fun p L w' => w0.heap.size ≤ w'.heap.size ∧ Below w.heap.size w w' ∧ blk w' w.heap.size (rbc x) 27) _ [(0, 13), (1, 14), (2, 15), (3, 16), (4, 17), (5, 18), (6, 19), (7, 20), (8, 21), (9, 12), (10, 22), (11, 23), (12, 3), (13, 4)] [0, 1, 2, 3, 4, 5, 6, 7, 8, 9, 10, 11, 12, 13]
  case hn => rfl
  case hB => kernel_rfl
  case hds => kernel_rfl
  case hA => (intro p; simp only [putsD, Act.put, List.setIfInBounds_toArray, List.set_cons_zero, List.set_cons_succ, List.getD_cons_zero, List.getD_cons_succ]; exact rfl)
  case h0 => exact fun p => ⟨Nat.le_refl _, hB, v⟩
  case hmore => exact fun p L w1 w2 ⟨hsz, hB, v⟩ hm => ⟨Nat.le_trans hsz hm.size, hB.trans (hm.mono (Nat.le_trans hW0 hsz)), v.below hm v.lt⟩
  case hs =>
    intro more
    refine stepV _ rfl rfl (fun _ _ _ h => h) (by intros; go_simp; exact ⟨rfl, rfl⟩) ?_
    refine stepV 1 rfl rfl (fun _ _ _ h => h) ?_ ?_
    · rintro p L w1 ⟨hsz, hB, v⟩ hk
      exact valR_part _ _ rfl _ 0 rfl _ _ v (qfn x.Q) (rb_q x) _ Try.underlying23 rfl (by rw [qfn_size]; kernel_rfl) rfl
    refine stepV _ rfl rfl (fun _ _ _ h => h) (by intros; go_simp; exact ⟨rfl, rfl⟩) ?_
    refine stepV 3 rfl rfl (fun _ _ _ h => h) ?_ ?_
    · rintro p L w1 ⟨hsz, hB, v⟩ hk
      exact valR_part _ _ rfl _ 4 rfl _ _ v (vfn x.T) (rb_t x) _ Try.underlying25 rfl (by rw [vfn_size]; kernel_rfl) rfl
    refine stepV _ rfl rfl (fun _ _ _ h => h) (by intros; go_simp; exact ⟨rfl, rfl⟩) ?_
    refine stepV 5 rfl rfl (fun _ _ _ h => h) ?_ ?_
    · rintro p L w1 ⟨hsz, hB, v⟩ hk
      exact valR_part _ _ rfl _ 7 rfl _ _ v (qfn x.h) (rb_h x) _ Try.underlying22 rfl (by rw [qfn_size]; kernel_rfl) rfl
    refine stepV _ rfl rfl (fun _ _ _ h => h) (by intros; go_simp; exact ⟨rfl, rfl⟩) ?_
    refine stepV 7 rfl rfl (fun _ _ _ h => h) ?_ ?_
    · rintro p L w1 ⟨hsz, hB, v⟩ hk
      have hc : w1.cell? ⟨w.heap.size, 11, none⟩ = some (.int .i64 x.f) := v.cellIs rfl
      go_simp
      exact ⟨rfl, rfl⟩
    refine stepD 8 rfl (fun p => rfl) (fun _ _ _ h => h) more ?_ ?_
    · rintro p L w1 ⟨hsz, hB, v⟩ hk
      go_simp
      refine (NB.out _).mono ?_
      rintro e w2 ⟨rfl, h2⟩
      first | exact ⟨rfl, h2⟩ | (subst h2; exact ⟨rfl, Below.refl _ _⟩)
    iterate 5 (refine stepV _ rfl rfl (fun _ _ _ h => h) (by intros; go_simp; exact ⟨rfl, rfl⟩) ?_)
    exact AllI.nil
  case hV0 => exact fun p q => AllI.nil
  case he =>
  clear hB v
  rintro p w0r ⟨hsz, hB, v⟩
  clear lt_v
  clear hsz hW0
  go_wp2_with (first
    | (go_at_call 16; with_reducible refine (AW.out _).mono ?_; rintro e w9 ⟨rfl, hb⟩; replace hB := hB.trans (hb.mono hB.size); replace v := v.below hb v.lt; clear hb))
  go_ret
  exact ⟨rfl, hB⟩
set_option maxRecDepth 100000 in
set_option maxHeartbeats 20000000 in
theorem brests_ok (x : BSt) (w : World) (hQ : ∀ i, i < 4 → I64 (x.Q i)) (hk : newOk x = true) : Calls Try.prog 11 #[.agg (rbc x)] w fun e w' => e = .returned (.bool true) ∧ Below w.heap.size w w' := by
  obtain ⟨k2, kv, kf, hz, hb⟩ := restY_facts hQ hk
  have NB := Lib.hid (fun w => bnew_yes x w hQ hk)
  have N2 := Lib.hid (fun w => bnew_yes (restY x) w hQ k2)
  have KI := newOk_BI (X := restY x) hQ k2
  have hn : newB (restY x).h x.f = true := by simp only [newOk, Bool.and_eq_true] at k2; exact k2.1
  have WN := Lib.hid (fun w => wnew_ok (restY x).h x.f w hn)
  have KX := newOk_BI hQ hk
  have BA := Lib.hid (fun w => qback_any x.Q x.T w hQ)
  rw [(momG_eq KX.q KX.v KX.t KX.s).1] at BA
  have WA := Lib.hid (fun w => wall_any (qbackF x.Q x.T) x.f w)
  rw [show allF (qbackF x.Q x.T) x.f = (restY x).h from by unfold allF; rw [kv, kf]; rfl, show allE (qbackF x.Q x.T) x.f = 0 from by unfold allE; rw [kv, kf]; rfl] at WA
  have CM := Lib.hid (fun w b (g : blk w b (setc ((restY x).h, x.f)) 126) => scmd_any (restY x).h x.f b (restY x).h w g KI.s)
  have MO := Lib.hid (fun w lo b (h : bod lo b w (restY x)) => bmom_any (restY x) lo b w h KI.q KI.s)
  rw [show vfn (momF (restY x)) = vfn (fun _ => 0) from vfn_congr hz] at MO
  obtain ⟨t1, t2, t3, t4, t5, t6⟩ := rest_tick KI (c := cmdF (restY x).h x.f (restY x).h) (keep_F hb) hz (t := fun _ => 0) (fun i hi => rfl)
  have TK : Hid (∀ w lo b, bod lo b w (restY x) → Calls Try.prog 34 #[.pointer (some ⟨b, 0, none⟩), .agg (qfn (cmdF (restY x).h x.f (restY x).h)), .agg #[.int .i64 0, .int .i64 0, .int .i64 0]] w fun e w' => e = .returned (.tuple #[.agg (vfn fun _ => 0), .int .i64 0]) ∧ bod lo b w' (restY x) ∧ Save lo b w w') := Lib.hid (fun w lo b h => by
    rw [zero_vec]
    refine (btick_any (restY x) lo b _ (fun _ => 0) w h KI.q KI.s (KI.att _).1).mono ?_
    rintro e w' ⟨rfl, o2, hs⟩
    rw [t1, t2]
    exact ⟨rfl, o2.congr t3 t4 t5 t6, hs⟩)
  have AT := Lib.hid (fun w lo b (h : bod lo b w (restY x)) => battitude_any (restY x) lo b w h)
  have TO := Lib.hid (fun w lo b (h : bod lo b w (restY x)) => btotal_any (restY x) lo b w h)
  have SP := Lib.hid (fun w lo b (h : bod lo b w (restY x)) => bspeeds_any (restY x) lo b w h)
  have E0 : ∀ w, (Op.equalIn 10000 25 (.agg (vfn fun _ => 0)) (.agg #[.int .i64 0, .int .i64 0, .int .i64 0])).run Try.prog w = .ok true w := fun w => by rw [zero_vec]; exact vec_eq_self _ w
  have E1 := quat_eq_self x.Q
  have E2 := vec_eq_self x.T
  have E3 := spd_eq_self (restY x).h
  rw [show (restY x).Q = x.Q from rfl] at AT
  rw [show (restY x).T = x.T from rfl] at TO
  rw [show (restY x).Q = x.Q from rfl, show (restY x).T = x.T from rfl, show (restY x).f = x.f from rfl] at N2
  clear t1 t2 t3 t4 t5 t6 hz hb KI KX kv kf k2 hn hQ hk
  generalize restY x = Y at *
  obtain ⟨Sp, hSp⟩ : ∃ Sp, Y.h = Sp := ⟨_, rfl⟩
  rw [hSp] at N2 WN WA CM TK SP E3
  clear hSp
  have AW := Lib.hid (fun w => awake24_any w)
  go_enter Try.func11, Try.ntmps11
  go_upto_region 1 with (fail)
  have v : blk (w.alloc (.cells (rbc x) 27)) w.heap.size (rbc x) 27 := blk.new _ _ _
  have hB : Below w.heap.size w (w.alloc (.cells (rbc x) 27)) := by go_grown
  generalize (w.alloc (.cells (rbc x) 27)) = w0 at *
  have cf : w0.cell? ⟨w.heap.size, 11, none⟩ = some (.int .i64 x.f) := v.cellIs rfl
  go_upto_region 2 with (first | (refine wpList_load_part ?hw _ _ rfl _ 0 rfl _ _ v (qfn x.Q) (rb_q x) _ Try.underlying23 rfl ?hi ?_; (case hw => (first | rfl | (simp [Region.wanted, yielded]; done))); (case hi => (rw [qfn_size]; kernel_rfl))) | (refine wpList_load_part ?hw _ _ rfl _ 4 rfl _ _ v (vfn x.T) (rb_t x) _ Try.underlying25 rfl ?hi ?_; (case hw => (first | rfl | (simp [Region.wanted, yielded]; done))); (case hi => (rw [vfn_size]; kernel_rfl))) | (refine wpList_load_part ?hw _ _ rfl _ 7 rfl _ _ v (qfn x.h) (rb_h x) _ Try.underlying22 rfl ?hi ?_; (case hw => (first | rfl | (simp [Region.wanted, yielded]; done))); (case hi => (rw [qfn_size]; kernel_rfl))) | (go_at_call 32; with_reducible refine (NB.out _).mono ?_; rintro e w1 ⟨oa, rfl, ho1, hb⟩; replace hB := hB.trans (hb.mono hB.size); replace v := v.below hb v.lt; clear hb))
  clear NB cf ho1
  go_upto_region 6 with (fail)
  have lt_v := v.lt
  have hW0 : w.heap.size ≤ w1.heap.size := by have := hB.size; first | exact this | simpa using this
  apply wp_region_Q 11 [0, 1, 3, 7, 15, 31, 63, 127, 255, 511, 1023] [8] [_, _, _, _, _, _, _, _, (fun p => .pointer (some ⟨p 8, 0, none⟩)), (fun _ => undef), _] (fun p L w' => w1.heap.size ≤ w'.heap.size ∧ Below w.heap.size w w' ∧ blk w' w.heap.size (rbc x) 27 ∧ (L 8 = true → w1.heap.size ≤ p 8 ∧ blk w' (p 8) (bif L 9 then (vfn (qbackF x.Q x.T)) else (vfn fun _ => 0)) 25)) _ [(0, 34), (1, 35), (2, 36), (3, 37), (4, 38), (5, 33), (6, 39), (7, 40), (8, 5), (10, 4)] [0, 1, 2, 3, 4, 5, 6, 7, 8, 9, 10]
  case hn => rfl
  case hB => kernel_rfl
  case hds => kernel_rfl
  case hA => (intro p; simp only [putsD, Act.put, List.setIfInBounds_toArray, List.set_cons_zero, List.set_cons_succ, List.getD_cons_zero, List.getD_cons_succ]; exact rfl)
  case h0 => exact fun p => ⟨Nat.le_refl _, hB, v, fun h => absurd h (by decide)⟩
  case hmore => exact fun p L w1 w2 ⟨hsz, hB, v, h_al⟩ hm => ⟨Nat.le_trans hsz hm.size, hB.trans (hm.mono (Nat.le_trans hW0 hsz)), v.below hm v.lt, fun hl => ⟨(h_al hl).1, (h_al hl).2.below hm (h_al hl).2.lt⟩⟩
  case hs =>
    intro more
    refine stepV _ rfl rfl (fun _ _ _ h => h) (by intros; go_simp; exact ⟨rfl, rfl⟩) ?_
    refine stepV 1 rfl rfl (fun _ _ _ h => h) ?_ ?_
    · rintro p L w1 ⟨hsz, hB, v, h_al⟩ hk
      have L9 : L 9 = false := hk.2.2 9 rfl
      exact valR_part _ _ rfl _ 0 rfl _ _ v (qfn x.Q) (rb_q x) _ Try.underlying23 rfl (by rw [qfn_size]; kernel_rfl) rfl
    refine stepV _ rfl rfl (fun _ _ _ h => h) (by intros; go_simp; exact ⟨rfl, rfl⟩) ?_
    refine stepV 3 rfl rfl (fun _ _ _ h => h) ?_ ?_
    · rintro p L w1 ⟨hsz, hB, v, h_al⟩ hk
      have L9 : L 9 = false := hk.2.2 9 rfl
      exact valR_part _ _ rfl _ 4 rfl _ _ v (vfn x.T) (rb_t x) _ Try.underlying25 rfl (by rw [vfn_size]; kernel_rfl) rfl
    refine stepD 4 rfl (fun p => rfl) (fun _ _ _ h => h) more ?_ ?_
    · rintro p L w1 ⟨hsz, hB, v, h_al⟩ hk
      go_simp
      refine (BA.out _).mono ?_
      rintro e w2 ⟨rfl, h2⟩
      first | exact ⟨rfl, h2⟩ | (subst h2; exact ⟨rfl, Below.refl _ _⟩)
    iterate 3 (refine stepV _ rfl rfl (fun _ _ _ h => h) (by intros; go_simp; exact ⟨rfl, rfl⟩) ?_)
    refine AllI.cons ?_ ?_
    · refine stepI_alloc 8 rfl (fun p => rfl) rfl (vfn fun _ => 0) 25 (fun p => rfl) ?_ ?_
      · intro p w1
        go_simp
        first | rfl | rw [zero_vec]
      rintro p L w1 ⟨hsz, hB, v, h_al⟩ hk
      have L9 : L 9 = false := hk.2.2 9 rfl
      refine ⟨Nat.le_trans hsz (by simp), hB.alloc (Nat.le_trans (by first | exact hW0 | (have := hB.size; simp at this ⊢; omega)) hsz) _, v.alloc _, fun _ => ⟨hsz, ?_⟩⟩
      rw [show upL L 8 9 = false from L9]
      exact blk.new _ _ _
    refine AllI.cons ?_ ?_
    · refine stepI_store 9 rfl (fun p => rfl) (fun p => rfl) _ _ _ rfl (fun p => p 8) 0 (fun p => rfl) (fun p => (vfn (qbackF x.Q x.T))) (fun p => rfl) (fun p => (vfn fun _ => 0)) (fun p => (vfn (qbackF x.Q x.T))) 25 (fun p => over_v _ _) (fun p => by first | (rw [vfn_size, vfn_size]; decide) | simp [vfn_size, vfn_size]) (fun p => by rw [vfn_size]; kernel_rfl) (fun p => vfn_one _) ?_ ?_
      · rintro p L w1 ⟨hsz, hB, v, h_al⟩ hk
        have L9 : L 9 = false := hk.1
        have hh := (h_al (hk.2.1 8 rfl)).2
        rw [L9] at hh
        try simp only [cond_true, cond_false] at hh
        exact hh
      · rintro p L w1 ⟨hsz, hB, v, h_al⟩ hk
        have L9 : L 9 = false := hk.1
        skip
        have hp := h_al (hk.2.1 8 rfl)
        refine ⟨(by simpa using hsz), Below.setRow hB (by first | exact Nat.le_trans hW0 hp.1 | exact ge_al | omega | (have := hB.size; simp at this ⊢; omega)) _, v.rowOther (by first | exact Nat.ne_of_lt (Nat.lt_of_lt_of_le lt_v hp.1) | omega) _, fun _ => ⟨hp.1, ?_⟩⟩
        rw [show upL L 9 9 = true from rfl]
        exact hp.2.row _
    refine stepV _ rfl rfl (fun _ _ _ h => h) (by intros; go_simp; exact ⟨rfl, rfl⟩) ?_
    exact AllI.nil
  case hV0 =>
    intro p q
    refine AllI.cons ?_ ?_
    · skip
      iterate 11 (refine AllI.cons (by first | exact .inl rfl | (refine .inr ?_; simp only [List.getD_cons_zero, List.getD_cons_succ]; done) | exact .inr rfl) ?_)
      exact AllI.nil
    exact AllI.nil
  case he =>
  clear hB v
  rintro p w1r ⟨hsz, hB, v, h_al⟩
  obtain ⟨le_al, al⟩ := h_al rfl
  clear h_al
  replace al : blk w1r (p 8) (vfn (qbackF x.Q x.T)) 25 := al
  have ne_v_al : w.heap.size ≠ p 8 := Nat.ne_of_lt (Nat.lt_of_lt_of_le lt_v le_al)
  have ge_al : w.heap.size ≤ p 8 := Nat.le_trans hW0 le_al
  generalize p 8 = al_b at *
  clear lt_v
  clear hsz hW0
  go_upto_region 7 with (fail)
  clear BA
  have lt_v := v.lt
  have lt_al := al.lt
  have hW0 : w.heap.size ≤ w1r.heap.size := by have := hB.size; first | exact this | simpa using this
  apply wp_region_Q 10 [0, 1, 3, 7, 15, 31, 63, 127, 255, 511] [7] [_, _, _, _, _, _, _, (fun p => .pointer (some ⟨p 7, 0, none⟩)), (fun _ => undef), _] (fun p L w' => w1r.heap.size ≤ w'.heap.size ∧ Below w.heap.size w w' ∧ blk w' w.heap.size (rbc x) 27 ∧ blk w' al_b (vfn (qbackF x.Q x.T)) 25 ∧ (L 7 = true → w1r.heap.size ≤ p 7 ∧ blk w' (p 7) (bif L 8 then (qfn Sp) else (qfn fun _ => 0)) 22)) _ [(0, 42), (1, 43), (2, 44), (3, 45), (4, 41), (5, 46), (6, 47), (7, 6), (9, 7)] [0, 1, 2, 3, 4, 5, 6, 7, 8, 9]
  case hn => rfl
  case hB => kernel_rfl
  case hds => kernel_rfl
  case hA => (intro p; simp only [putsD, Act.put, List.setIfInBounds_toArray, List.set_cons_zero, List.set_cons_succ, List.getD_cons_zero, List.getD_cons_succ]; exact rfl)
  case h0 => exact fun p => ⟨Nat.le_refl _, hB, v, al, fun h => absurd h (by decide)⟩
  case hmore => exact fun p L w1 w2 ⟨hsz, hB, v, al, h_sp⟩ hm => ⟨Nat.le_trans hsz hm.size, hB.trans (hm.mono (Nat.le_trans hW0 hsz)), v.below hm v.lt, al.below hm al.lt, fun hl => ⟨(h_sp hl).1, (h_sp hl).2.below hm (h_sp hl).2.lt⟩⟩
  case hs =>
    intro more
    refine stepV 0 rfl rfl (fun _ _ _ h => h) ?_ ?_
    · rintro p L w1 ⟨hsz, hB, v, al, h_sp⟩ hk
      have L8 : L 8 = false := hk.2.2 8 rfl
      first | exact valR_row _ _ rfl _ rfl _ _ al _ Try.underlying25 rfl (by first | kernel_rfl | (rw [vfn_size]; kernel_rfl)) rfl | (have hc := al.cellIs (vfn_get _ (show 0 < 3 by omega)); go_simp; exact ⟨rfl, rfl⟩)
    refine stepV _ rfl rfl (fun _ _ _ h => h) (by intros; go_simp; exact ⟨rfl, rfl⟩) ?_
    refine stepV 2 rfl rfl (fun _ _ _ h => h) ?_ ?_
    · rintro p L w1 ⟨hsz, hB, v, al, h_sp⟩ hk
      have L8 : L 8 = false := hk.2.2 8 rfl
      have hc : w1.cell? ⟨w.heap.size, 11, none⟩ = some (.int .i64 x.f) := v.cellIs rfl
      go_simp
      exact ⟨rfl, rfl⟩
    refine stepD 3 rfl (fun p => rfl) (fun _ _ _ h => h) more ?_ ?_
    · rintro p L w1 ⟨hsz, hB, v, al, h_sp⟩ hk
      go_simp
      refine (WA.out _).mono ?_
      rintro e w2 ⟨rfl, h2⟩
      first | exact ⟨rfl, h2⟩ | (subst h2; exact ⟨rfl, Below.refl _ _⟩)
    iterate 3 (refine stepV _ rfl rfl (fun _ _ _ h => h) (by intros; go_simp; exact ⟨rfl, rfl⟩) ?_)
    refine AllI.cons ?_ ?_
    · refine stepI_alloc 7 rfl (fun p => rfl) rfl (qfn fun _ => 0) 22 (fun p => rfl) ?_ ?_
      · intro p w1
        go_simp
        first | rfl | rw [zero_spd]
      rintro p L w1 ⟨hsz, hB, v, al, h_sp⟩ hk
      have L8 : L 8 = false := hk.2.2 8 rfl
      refine ⟨Nat.le_trans hsz (by simp), hB.alloc (Nat.le_trans (by first | exact hW0 | (have := hB.size; simp at this ⊢; omega)) hsz) _, v.alloc _, al.alloc _, fun _ => ⟨hsz, ?_⟩⟩
      rw [show upL L 7 8 = false from L8]
      exact blk.new _ _ _
    refine AllI.cons ?_ ?_
    · refine stepI_store 8 rfl (fun p => rfl) (fun p => rfl) _ _ _ rfl (fun p => p 7) 0 (fun p => rfl) (fun p => (qfn Sp)) (fun p => rfl) (fun p => (qfn fun _ => 0)) (fun p => (qfn Sp)) 22 (fun p => over_qq _ _) (fun p => by first | (rw [qfn_size, qfn_size]; decide) | simp [qfn_size, qfn_size]) (fun p => by rw [qfn_size]; kernel_rfl) (fun p => qfn_one _) ?_ ?_
      · rintro p L w1 ⟨hsz, hB, v, al, h_sp⟩ hk
        have L8 : L 8 = false := hk.1
        have hh := (h_sp (hk.2.1 7 rfl)).2
        rw [L8] at hh
        try simp only [cond_true, cond_false] at hh
        exact hh
      · rintro p L w1 ⟨hsz, hB, v, al, h_sp⟩ hk
        have L8 : L 8 = false := hk.1
        skip
        have hp := h_sp (hk.2.1 7 rfl)
        refine ⟨(by simpa using hsz), Below.setRow hB (by first | exact Nat.le_trans hW0 hp.1 | exact ge_sp | omega | (have := hB.size; simp at this ⊢; omega)) _, v.rowOther (by first | exact Nat.ne_of_lt (Nat.lt_of_lt_of_le lt_v hp.1) | omega) _, al.rowOther (by first | exact Nat.ne_of_lt (Nat.lt_of_lt_of_le lt_al hp.1) | omega) _, fun _ => ⟨hp.1, ?_⟩⟩
        rw [show upL L 8 8 = true from rfl]
        exact hp.2.row _
    refine stepV _ rfl rfl (fun _ _ _ h => h) (by intros; go_simp; exact ⟨rfl, rfl⟩) ?_
    exact AllI.nil
  case hV0 =>
    intro p q
    refine AllI.cons ?_ ?_
    · skip
      iterate 10 (refine AllI.cons (by first | exact .inl rfl | (refine .inr ?_; simp only [List.getD_cons_zero, List.getD_cons_succ]; done) | exact .inr rfl) ?_)
      exact AllI.nil
    exact AllI.nil
  case he =>
  clear hB v al
  rintro p w1rr ⟨hsz, hB, v, al, h_sp⟩
  obtain ⟨le_sp, sp⟩ := h_sp rfl
  clear h_sp
  replace sp : blk w1rr (p 7) (qfn Sp) 22 := sp
  have ne_v_sp : w.heap.size ≠ p 7 := Nat.ne_of_lt (Nat.lt_of_lt_of_le lt_v le_sp)
  have ne_al_sp : al_b ≠ p 7 := Nat.ne_of_lt (Nat.lt_of_lt_of_le lt_al le_sp)
  have ge_sp : w.heap.size ≤ p 7 := Nat.le_trans hW0 le_sp
  generalize p 7 = sp_b at *
  clear lt_v
  clear lt_al
  clear hsz hW0
  clear WA
  clear al
  go_upto_region 10 with (fail)
  have cf : w1rr.cell? ⟨w.heap.size, 11, none⟩ = some (.int .i64 x.f) := v.cellIs rfl
  have out_v := v.lt
  have out_sp := sp.lt
  have hlo := hB.size
  go_upto_region 11 with (first | (refine wpList_load_part ?hw _ _ rfl _ 0 rfl _ _ v (qfn x.Q) (rb_q x) _ Try.underlying23 rfl ?hi ?_; (case hw => (first | rfl | (simp [Region.wanted, yielded]; done))); (case hi => (rw [qfn_size]; kernel_rfl))) | (refine wpList_load_part ?hw _ _ rfl _ 4 rfl _ _ v (vfn x.T) (rb_t x) _ Try.underlying25 rfl ?hi ?_; (case hw => (first | rfl | (simp [Region.wanted, yielded]; done))); (case hi => (rw [vfn_size]; kernel_rfl))) | (refine wpList_load_rowG ?hw _ _ rfl _ rfl _ _ _ _ sp Try.underlying22 rfl ?hi ?_; (case hw => (first | rfl | (simp [Region.wanted, yielded]; done))); (case hi => (first | kernel_rfl | (rw [qfn_size]; kernel_rfl)))) | (go_at_call 32; with_reducible refine (N2.out _).mono ?_; rintro e w2 ⟨ob, rfl, o, hb⟩; replace hB := hB.trans (hb.mono hB.size); replace v := v.below hb v.lt; replace sp := sp.below hb sp.lt; clear hb))
  clear N2 cf
  have cf : w2.cell? ⟨w.heap.size, 11, none⟩ = some (.int .i64 x.f) := v.cellIs rfl
  have hol := o.lt
  go_upto_region 12 with (first | (refine wpList_load_rowG ?hw _ _ rfl _ rfl _ _ _ _ sp Try.underlying22 rfl ?hi ?_; (case hw => (first | rfl | (simp [Region.wanted, yielded]; done))); (case hi => (first | kernel_rfl | (rw [qfn_size]; kernel_rfl)))) | (go_at_call 42; with_reducible refine (WN.out _).mono ?_; rintro e w3 ⟨gb, rfl, g, hle, hb⟩; replace hB := hB.trans (hb.mono hB.size); replace v := v.below hb v.lt; replace sp := sp.below hb sp.lt; replace o := o.below hb o.lt; clear hb))
  have out_g : ob < gb := Nat.lt_of_lt_of_le hol hle
  clear WN cf hol
  go_wp2_with (first | (go_at_call 28; with_reducible refine (MO.out _ _ _ o).mono ?_; rintro e w4 ⟨rfl, hb⟩; replace hB := hB.trans (hb.mono hB.size); replace v := v.below hb v.lt; replace sp := sp.below hb sp.lt; replace o := o.below hb o.lt; replace g := g.below hb g.lt; clear hb))
  try simp only [zero_vec]
  go_loopg [9] 20 (fun g_ iv wr => ∃ k : Nat, g_ + k = 20 ∧ iv = .int .i64 k ∧ blk wr w.heap.size (rbc x) 27 ∧ blk wr sp_b (qfn Sp) 22 ∧ bod w1rr.heap.size ob wr (Y) ∧ blk wr gb (setc (Sp, x.f)) 126 ∧ Below w.heap.size w wr)
  case atStart => exact ⟨0, rfl, rfl, v, sp, o, g, hB⟩
  case round =>
    clear v sp o g hB
    obtain ⟨k, hk, rfl, v, sp, o, g, hB⟩ := hrel
    by_cases hkn : k < 20
    · have hdk : decide ((k : Int) < 20) = true := decide_eq_true (by omega)
      have hdk' : decide (k < 20) = true := decide_eq_true (by omega)
      have hw3 : IntKind.i64.wrap ((k : Int) + 1) = ((k + 1 : Nat) : Int) := by rw [IntKind.wrap_i64]; omega
      go_upto_region 18 with (first | (refine wpList_load_rowG ?hw _ _ rfl _ rfl _ _ _ _ sp Try.underlying22 rfl ?hi ?_; (case hw => (first | rfl | (simp [Region.wanted, yielded]; done))); (case hi => (first | kernel_rfl | (rw [qfn_size]; kernel_rfl)))) | (go_at_call 43; with_reducible refine (CM.out _ _ g).mono ?_; rintro e w5 ⟨rfl, hb⟩; replace hB := hB.trans (hb.mono hB.size); replace v := v.below hb v.lt; replace sp := sp.below hb sp.lt; replace o := o.below hb o.lt; replace g := g.below hb g.lt; clear hb) | (go_at_call 34; with_reducible refine (TK.out _ _ _ o).mono ?_; rintro e w6 ⟨rfl, o2, hS⟩; replace hB := hB.trans (hS.below hB.size hlo); replace v := v.save hS (by first | exact .inl out_v | exact .inr out_v | omega); replace sp := sp.save hS (by first | exact .inl out_sp | exact .inr out_sp | omega); replace g := g.save hS (by first | exact .inl out_g | exact .inr out_g | omega); replace o := o2; clear hS o2) | (rw [zero_vec]; refine wpList_store_row rfl _ _ _ rfl _ rfl _ rfl _ _ (blk.new _ _ _) (by first | kernel_rfl | (rw [vfn_size]; kernel_rfl)) (by first | rfl | simp only [vfn_size]) (by first | exact vfn_one _ | rfl) ?_))
      have c := (blk.new w6 (vfn fun _ => 0) 25).row (vfn (fun _ => 0))
      replace hB := Below.setRow (hB.alloc hB.size (.cells (vfn fun _ => 0) 25)) (g := w6.heap.size) hB.size (vfn (fun _ => 0))
      have hne : ∀ x, x < w6.heap.size → x ≠ w6.heap.size := fun x hx => Nat.ne_of_lt hx
      have out_c : ob < w6.heap.size := o.lt
      replace v := (v.alloc (.cells (vfn fun _ => 0) 25)).rowOther (hne _ v.lt) (vfn (fun _ => 0))
      replace sp := (sp.alloc (.cells (vfn fun _ => 0) 25)).rowOther (hne _ sp.lt) (vfn (fun _ => 0))
      replace o := (o.alloc (.cells (vfn fun _ => 0) 25)).rowOther (.inr o.lt) (vfn (fun _ => 0))
      replace g := (g.alloc (.cells (vfn fun _ => 0) 25)).rowOther (hne _ g.lt) (vfn (fun _ => 0))
      clear hne
      generalize (w6.alloc (.cells (vfn fun _ => 0) 25)).setRow w6.heap.size (vfn (fun _ => 0)) = w6x at *
      generalize w6.heap.size = c_b at *
      have lt_v := v.lt
      have lt_sp := sp.lt
      have lt_o := o.lt
      have lt_g := g.lt
      have lt_c := c.lt
      have hW0 : w.heap.size ≤ w6x.heap.size := by have := hB.size; first | exact this | simpa using this
      apply wp_region_I 33 [0, 0, 3, 7, 15, 31, 63, 127, 255, 511, 255, 1279, 4095, 8191, 16383, 32767, 65535, 32767, 163839, 524287, 1048575, 2097151, 4194303, 8388607, 4194303, 33554431, 67108863, 134217727, 268435455, 536870911, 268435455, 2147483647, 4294967295] [] [_, _, _, _, _, _, _, _, _, _, _, _, _, _, _, _, _, _, _, _, _, _, _, _, _, _, _, _, _, _, _, _, _] (fun p L w' => w6x.heap.size ≤ w'.heap.size ∧ Below w.heap.size w w' ∧ blk w' w.heap.size (rbc x) 27 ∧ blk w' sp_b (qfn Sp) 22 ∧ bod w1rr.heap.size ob w' (Y) ∧ blk w' gb (setc (Sp, x.f)) 126 ∧ blk w' c_b (vfn (fun _ => 0)) 25) _ [(0, 101), (1, 102), (2, 103), (3, 104), (4, 105), (5, 106), (6, 107), (7, 108), (8, 109), (9, 110), (10, 111), (11, 112), (12, 113), (13, 114), (14, 115), (15, 116), (16, 117), (17, 118), (18, 119), (19, 120), (20, 121), (21, 122), (22, 123), (23, 124), (24, 125), (25, 126), (26, 127), (27, 128), (28, 129), (29, 130), (30, 131), (31, 132), (32, 133)] [0, 1, 2, 3, 4, 5, 6, 7, 8, 9, 10, 11, 12, 13, 14, 15, 16, 17, 18, 19, 20, 21, 22, 23, 24, 25, 26, 27, 28, 29, 30, 31, 32]
      case hn => rfl
      case hm => kernel_rfl
      case hB => kernel_rfl
      case hds => kernel_rfl
      case hA => (intro p; simp only [putsD, Act.put, List.setIfInBounds_toArray, List.set_cons_zero, List.set_cons_succ, List.getD_cons_zero, List.getD_cons_succ]; exact rfl)
      case h0 => exact fun p => ⟨Nat.le_refl _, hB.drew, v.drew, sp.drew, o.drew, g.drew, c.drew⟩
      case hmore => exact fun p L w1 w2 ⟨hsz, hB, v, sp, o, g, c⟩ hm => ⟨Nat.le_trans hsz hm.size, hB.trans (hm.mono (Nat.le_trans hW0 hsz)), v.below hm v.lt, sp.below hm sp.lt, o.below hm o.lt, g.below hm g.lt, c.below hm c.lt⟩
      case hs =>
        intro more
        refine stepV 0 rfl rfl (fun _ _ _ h => h) ?_ ?_
        · rintro p L w1 ⟨hsz, hB, v, sp, o, g, c⟩ hk
          first | exact valR_row _ _ rfl _ rfl _ _ c _ Try.underlying25 rfl (by first | kernel_rfl | (rw [vfn_size]; kernel_rfl)) rfl | (have hc := c.cellIs (vfn_get _ (show 0 < 3 by omega)); go_simp; exact ⟨rfl, rfl⟩)
        refine stepV 1 rfl rfl (fun _ _ _ h => h) ?_ ?_
        · intros; (try simp only [vfn, qfn]); go_simp; exact ⟨rfl, rfl⟩
        iterate 2 (refine stepV _ rfl rfl (fun _ _ _ h => h) (by intros; go_simp; exact ⟨rfl, rfl⟩) ?_)
        refine stepVg 4 rfl (fun p => (by first | rfl | (simp [Region.wanted, yielded]; done))) (fun _ _ _ h => h) ?_ ?_
        · intros; go_simp; exact ⟨rfl, rfl⟩
        refine stepVg 5 rfl (fun p => (by first | rfl | (simp [Region.wanted, yielded]; done))) (fun _ _ _ h => h) ?_ ?_
        · intros; go_simp; exact ⟨rfl, rfl⟩
        iterate 2 (refine stepV _ rfl rfl (fun _ _ _ h => h) (by intros; go_simp; exact ⟨rfl, rfl⟩) ?_)
        refine stepVg 8 rfl (fun p => (by first | rfl | (simp [Region.wanted, yielded]; done))) (fun _ _ _ h => h) ?_ ?_
        · intros; go_simp; exact ⟨rfl, rfl⟩
        refine stepD 9 rfl (fun p => (by first | rfl | (simp [Region.wanted, yielded]; done))) (fun _ _ _ h => h) more ?_ ?_
        · rintro p L w1 ⟨hsz, hB, v, sp, o, g, c⟩ hk
          go_simp
          refine (AT.out _ _ _ o).mono ?_
          rintro e w2 ⟨rfl, h2⟩
          first | exact ⟨rfl, h2⟩ | (subst h2; exact ⟨rfl, Below.refl _ _⟩)
        refine stepVg 10 rfl (fun p => (by first | rfl | (simp [Region.wanted, yielded]; done))) (fun _ _ _ h => h) ?_ ?_
        · intros; go_simp; exact ⟨rfl, rfl⟩
        refine stepVg 11 rfl (fun p => (by first | rfl | (simp [Region.wanted, yielded]; done))) (fun _ _ _ h => h) ?_ ?_
        · rintro p L w1 ⟨hsz, hB, v, sp, o, g, c⟩ hk
          exact valR_part _ _ rfl _ 0 rfl _ _ v (qfn x.Q) (rb_q x) _ Try.underlying23 rfl (by rw [qfn_size]; kernel_rfl) rfl
        refine stepVg 12 rfl (fun p => (by first | rfl | (simp [Region.wanted, yielded]; done))) (fun _ _ _ h => h) ?_ ?_
        · intros; go_simp; exact ⟨rfl, rfl⟩
        iterate 2 (refine stepV _ rfl rfl (fun _ _ _ h => h) (by intros; go_simp; exact ⟨rfl, rfl⟩) ?_)
        refine stepVg 15 rfl (fun p => (by first | rfl | (simp [Region.wanted, yielded]; done))) (fun _ _ _ h => h) ?_ ?_
        · intros; go_simp; exact ⟨rfl, rfl⟩
        refine stepD 16 rfl (fun p => (by first | rfl | (simp [Region.wanted, yielded]; done))) (fun _ _ _ h => h) more ?_ ?_
        · rintro p L w1 ⟨hsz, hB, v, sp, o, g, c⟩ hk
          go_simp
          refine (TO.out _ _ _ o).mono ?_
          rintro e w2 ⟨rfl, h2⟩
          first | exact ⟨rfl, h2⟩ | (subst h2; exact ⟨rfl, Below.refl _ _⟩)
        refine stepVg 17 rfl (fun p => (by first | rfl | (simp [Region.wanted, yielded]; done))) (fun _ _ _ h => h) ?_ ?_
        · intros; go_simp; exact ⟨rfl, rfl⟩
        refine stepVg 18 rfl (fun p => (by first | rfl | (simp [Region.wanted, yielded]; done))) (fun _ _ _ h => h) ?_ ?_
        · rintro p L w1 ⟨hsz, hB, v, sp, o, g, c⟩ hk
          exact valR_part _ _ rfl _ 4 rfl _ _ v (vfn x.T) (rb_t x) _ Try.underlying25 rfl (by rw [vfn_size]; kernel_rfl) rfl
        refine stepVg 19 rfl (fun p => (by first | rfl | (simp [Region.wanted, yielded]; done))) (fun _ _ _ h => h) ?_ ?_
        · intros; go_simp; exact ⟨rfl, rfl⟩
        iterate 2 (refine stepV _ rfl rfl (fun _ _ _ h => h) (by intros; go_simp; exact ⟨rfl, rfl⟩) ?_)
        refine stepVg 22 rfl (fun p => (by first | rfl | (simp [Region.wanted, yielded]; done))) (fun _ _ _ h => h) ?_ ?_
        · intros; go_simp; exact ⟨rfl, rfl⟩
        refine stepD 23 rfl (fun p => (by first | rfl | (simp [Region.wanted, yielded]; done))) (fun _ _ _ h => h) more ?_ ?_
        · rintro p L w1 ⟨hsz, hB, v, sp, o, g, c⟩ hk
          go_simp
          refine (SP.out _ _ _ o).mono ?_
          rintro e w2 ⟨rfl, h2⟩
          first | exact ⟨rfl, h2⟩ | (subst h2; exact ⟨rfl, Below.refl _ _⟩)
        refine stepVg 24 rfl (fun p => (by first | rfl | (simp [Region.wanted, yielded]; done))) (fun _ _ _ h => h) ?_ ?_
        · rintro p L w1 ⟨hsz, hB, v, sp, o, g, c⟩ hk
          first | exact valR_row _ _ rfl _ rfl _ _ sp _ Try.underlying22 rfl (by first | kernel_rfl | (rw [qfn_size]; kernel_rfl)) rfl | (have hc := sp.cellIs (qfn_get _ (show 0 < 4 by omega)); go_simp; exact ⟨rfl, rfl⟩)
        refine stepVg 25 rfl (fun p => (by first | rfl | (simp [Region.wanted, yielded]; done))) (fun _ _ _ h => h) ?_ ?_
        · intros; go_simp; exact ⟨rfl, rfl⟩
        iterate 2 (refine stepV _ rfl rfl (fun _ _ _ h => h) (by intros; go_simp; exact ⟨rfl, rfl⟩) ?_)
        refine stepVg 28 rfl (fun p => (by first | rfl | (simp [Region.wanted, yielded]; done))) (fun _ _ _ h => h) ?_ ?_
        · intros; go_simp; exact ⟨rfl, rfl⟩
        refine stepD 29 rfl (fun p => (by first | rfl | (simp [Region.wanted, yielded]; done))) (fun _ _ _ h => h) more ?_ ?_
        · rintro p L w1 ⟨hsz, hB, v, sp, o, g, c⟩ hk
          go_simp
          refine (MO.out _ _ _ o).mono ?_
          rintro e w2 ⟨rfl, h2⟩
          first | exact ⟨rfl, h2⟩ | (subst h2; exact ⟨rfl, Below.refl _ _⟩)
        refine stepVg 30 rfl (fun p => (by first | rfl | (simp [Region.wanted, yielded]; done))) (fun _ _ _ h => h) ?_ ?_
        · intros; (try simp only [vfn, qfn]); go_simp; exact ⟨rfl, rfl⟩
        refine stepVg 31 rfl (fun p => (by first | rfl | (simp [Region.wanted, yielded]; done))) (fun _ _ _ h => h) ?_ ?_
        · intros; go_simp; exact ⟨rfl, rfl⟩
        refine stepV _ rfl rfl (fun _ _ _ h => h) (by intros; go_simp; exact ⟨rfl, rfl⟩) ?_
        exact AllI.nil
      case hV0 => exact fun p q => AllI.nil
      case he =>
      clear hB v sp o g c
      rintro p w6xr ⟨hsz, hB, v, sp, o, g, c⟩
      clear lt_v
      clear lt_sp
      clear lt_o
      clear lt_g
      clear lt_c
      clear hsz hW0
      go_wp2_with (fail)
      clear c
      go_roundg (20 - (k + 1))
      case rel =>
        exact ⟨k + 1, by omega, rfl, v, sp, o, g, hB⟩
      case measure => omega
    · obtain rfl : k = 20 := by omega
      go_wp2_with (first
        | (go_at_call 16; with_reducible refine (AW.out _).mono ?_; rintro e w9 ⟨rfl, hb⟩; replace hB := hB.trans (hb.mono hB.size); replace v := v.below hb v.lt; replace sp := sp.below hb sp.lt; replace o := o.below hb o.lt; replace g := g.below hb g.lt; clear hb))
      go_ret
      exact ⟨rfl, hB⟩
theorem brests_any (x : BSt) (w : World) (hQ : ∀ i, i < 4 → I64 (x.Q i)) : Calls Try.prog 11 #[.agg (rbc x)] w fun e w' => e = .returned (.bool true) ∧ Below w.heap.size w w' := by
  cases hk : newOk x with
  | false => exact brests_no x w hQ hk
  | true => exact brests_ok x w hQ hk
end Go.Proofs.Ytjnocbjngojigaa
